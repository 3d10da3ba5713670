/-
  What the claim leans on, cut to what is used (wip/tools/prune15.py): words, printed functions, walks.
-/
import Derived.Test.YtkdoijfjceeblaaDoorProg
import Derived.Below
import Derived.Deep.Draws
import Derived.Deep.AppendLies
import Derived.Maps.AppendAt
import Derived.OwnWalk
import Derived.Laws.BytesArg
import Derived.Laws.MakeOwn
import Derived.Laws.OwnMore
import Derived.Deep.OwnRows
import Derived.Tactics
import Derived.Lib.ConvBytes
import Derived.Laws.Slices
import Derived.WalkKit
import Derived.KernelRfl
import Derived.RowKit3
import Derived.Deep.LoopGhost
import Derived.Deep.QuietTactic
import Derived.BigQuiet
import Derived.WideLaws
import Derived.Deep.DeepCutAuto
import Derived.Deep.CutBlock
import Derived.Deep.RegionHeld3
import Derived.Laws.Rows
import Derived.Lib.AppendStr
import Derived.ArgAppend
import Derived.Laws.IdiomCopy
import Derived.OrdersHeld
import Derived.Laws.BitsLemmas
import Derived.RowKit
import Derived.Test.YtkdoijfjceeblaaDoorQWWords
import Derived.Test.YtkdoijfjceeblaaDoorQW1
import Derived.Test.YtkdoijfjceeblaaDoorQWEqStruct
section
namespace Go.Proofs.YtkdoijfjceeblaaDoor.F
open Go.RowKit Go.Proofs.YtkdoijfjceeblaaDoorW.PrintWords Go.Proofs.YtkdoijfjceeblaaDoorW.PrintLast Go.Proofs.YtkdoijfjceeblaaDoorW.PrintMore
attribute [local go_sem] max2_int min2_int max_two min_two max_three min_three max_four min_four
set_option linter.unusedVariables false
set_option linter.unusedSimpArgs false
def errW : Option Int → Value
 | none => .nilIface
 | some c => .iface 0 (.int .i64 c)
theorem errW_none : errW none = .nilIface := rfl
theorem errW_some (c : Int) : errW (some c) = .iface 0 (.int .i64 c) := rfl
theorem info5 : (Tryd.prog.info? 5).map (fun i => (i.zero, i.size, i.bytes)) = some (some (.int .u8 0), 1, 1) := by kernel_rfl
structure S51 where
 f0 : (List Int)
 f1 : (List Int)
def z51 : S51 := ⟨([] : List Int), ([] : List Int)⟩
def k51 : Kd S51 := Kd.iso (Kd.pair (Kd.slice 3 (Kd.int .i64)) (Kd.slice 3 (Kd.int .i64))) (fun x : S51 => (x.f0, x.f1))
theorem k51_open {w : World} {x : S51} {cs : List Value} (h : k51.K w x cs) : ∃ A0 c0 A1 c1, cs = [.slice A0 x.f0.length c0, .slice A1 x.f1.length c1] ∧ x.f0.length ≤ c0 ∧ (Kd.int .i64).C w A0 x.f0.length x.f0 ∧ x.f1.length ≤ c1 ∧ (Kd.int .i64).C w A1 x.f1.length x.f1 := by
 obtain ⟨_, _, rfl, ⟨A0, c0, rfl, l0, g0⟩, ⟨A1, c1, rfl, l1, g1⟩⟩ := h
 exact ⟨A0, c0, A1, c1, rfl, l0, g0, l1, g1⟩
theorem k51_openM {w : World} {base : Nat} {ok : Nat → Prop} {x : S51} {cs : List Value} (h : k51.M w base ok x cs) : ∃ v0 v1, cs = [v0, v1] ∧ (Kd.int .i64).R 3 w base ok v0 x.f0 ∧ (Kd.int .i64).R 3 w base ok v1 x.f1 := by
 obtain ⟨_, _, rfl, ⟨v0, rfl, g0⟩, ⟨v1, rfl, g1⟩⟩ := h
 exact ⟨v0, v1, rfl, g0, g1⟩
theorem k51_mkM (w : World) (base : Nat) (ok : Nat → Prop) (x : S51) {v0 : Value} (g0 : (Kd.int .i64).R 3 w base ok v0 x.f0) {v1 : Value} (g1 : (Kd.int .i64).R 3 w base ok v1 x.f1) : k51.M w base ok x [v0, v1] := ⟨[v0], [v1], rfl, ⟨v0, rfl, g0⟩, ⟨v1, rfl, g1⟩⟩
def rd_T51 (xs : List S51) (i : Int) : S51 := xs.getD i.toNat z51
theorem at_T51 {w : World} {A : Option Addr} {n : Nat} {xs : List S51} (h : Kd.C k51 w A n xs) (i : Int) (h0 : 0 ≤ i) (h1 : i < n) : ∃ ad A0 c0 A1 c1, A = some ad ∧ w.cell? (ad.add (i.toNat * 2)) = some (.slice A0 (rd_T51 xs i).f0.length c0) ∧ w.cell? ⟨(ad.add (i.toNat * 2)).block, (ad.add (i.toNat * 2)).off + 1, none⟩ = some (.slice A1 (rd_T51 xs i).f1.length c1) ∧ (rd_T51 xs i).f0.length ≤ c0 ∧ (Kd.int .i64).C w A0 (rd_T51 xs i).f0.length (rd_T51 xs i).f0 ∧ (rd_T51 xs i).f1.length ≤ c1 ∧ (Kd.int .i64).C w A1 (rd_T51 xs i).f1.length (rd_T51 xs i).f1 := by
 obtain ⟨ad, c, e, _, hK, hc0⟩ := Kd.C_get h z51 i h0 h1
 have hc : ∀ j u, c[j]? = some u → w.cell? (ad.add (i.toNat * 2 + j)) = some u := hc0
 obtain ⟨A0, c0, A1, c1, rfl, l0, g0, l1, g1⟩ := k51_open hK
 exact ⟨ad, A0, c0, A1, c1, e, hc 0 _ rfl, by rw [← add_field _ _ 1 (by omega)]; exact hc 1 _ rfl, l0, g0, l1, g1⟩
structure S54 where
 f0 : Int
 f1 : Int
def z54 : S54 := ⟨(0 : Int), (0 : Int)⟩
def k54 : Kd S54 := Kd.iso (Kd.pair (Kd.int .i64) (Kd.int .i64)) (fun x : S54 => (x.f0, x.f1))
theorem k54_open {w : World} {x : S54} {cs : List Value} (h : k54.K w x cs) : cs = [.int .i64 x.f0, .int .i64 x.f1] := by
 obtain ⟨_, _, rfl, rfl, rfl⟩ := h
 exact rfl
theorem k54_openM {w : World} {base : Nat} {ok : Nat → Prop} {x : S54} {cs : List Value} (h : k54.M w base ok x cs) : cs = [.int .i64 x.f0, .int .i64 x.f1] := by
 obtain ⟨_, _, rfl, rfl, rfl⟩ := h
 exact rfl
theorem k54_mkM (w : World) (base : Nat) (ok : Nat → Prop) (x : S54)  : k54.M w base ok x [.int .i64 x.f0, .int .i64 x.f1] := ⟨[.int .i64 x.f0], [.int .i64 x.f1], rfl, rfl, rfl⟩
def rd_T54 (xs : List S54) (i : Int) : S54 := xs.getD i.toNat z54
theorem at_T54 {w : World} {A : Option Addr} {n : Nat} {xs : List S54} (h : Kd.C k54 w A n xs) (i : Int) (h0 : 0 ≤ i) (h1 : i < n) : ∃ ad , A = some ad ∧ w.cell? (ad.add (i.toNat * 2)) = some (.int .i64 (rd_T54 xs i).f0) ∧ w.cell? ⟨(ad.add (i.toNat * 2)).block, (ad.add (i.toNat * 2)).off + 1, none⟩ = some (.int .i64 (rd_T54 xs i).f1) := by
 obtain ⟨ad, c, e, _, hK, hc0⟩ := Kd.C_get h z54 i h0 h1
 have hc : ∀ j u, c[j]? = some u → w.cell? (ad.add (i.toNat * 2 + j)) = some u := hc0
 obtain rfl := k54_open hK
 exact ⟨ad, e, hc 0 _ rfl, by rw [← add_field _ _ 1 (by omega)]; exact hc 1 _ rfl⟩
structure S92 where
 f0 : ByteArray
 f1 : ByteArray
 f2 : Int
 f3 : Int
 f4 : Bool
 f5 : S54
def z92 : S92 := ⟨(⟨#[]⟩ : ByteArray), (⟨#[]⟩ : ByteArray), (0 : Int), (0 : Int), false, z54⟩
def k92 : Kd S92 := Kd.iso (Kd.pair Kd.string (Kd.pair Kd.string (Kd.pair (Kd.int .i64) (Kd.pair (Kd.int .i64) (Kd.pair Kd.bool k54))))) (fun x : S92 => (x.f0, x.f1, x.f2, x.f3, x.f4, x.f5))
theorem k92_open {w : World} {x : S92} {cs : List Value} (h : k92.K w x cs) : cs = [.string x.f0, .string x.f1, .int .i64 x.f2, .int .i64 x.f3, .bool x.f4, .int .i64 x.f5.f0, .int .i64 x.f5.f1] := by
 obtain ⟨_, _, rfl, rfl, ⟨_, _, rfl, rfl, ⟨_, _, rfl, rfl, ⟨_, _, rfl, rfl, ⟨_, _, rfl, rfl, s5⟩⟩⟩⟩⟩ := h
 obtain rfl := k54_open s5
 exact rfl
theorem k92_openM {w : World} {base : Nat} {ok : Nat → Prop} {x : S92} {cs : List Value} (h : k92.M w base ok x cs) : cs = [.string x.f0, .string x.f1, .int .i64 x.f2, .int .i64 x.f3, .bool x.f4, .int .i64 x.f5.f0, .int .i64 x.f5.f1] := by
 obtain ⟨_, _, rfl, rfl, ⟨_, _, rfl, rfl, ⟨_, _, rfl, rfl, ⟨_, _, rfl, rfl, ⟨_, _, rfl, rfl, s5⟩⟩⟩⟩⟩ := h
 obtain rfl := k54_openM s5
 exact rfl
theorem k92_mkM (w : World) (base : Nat) (ok : Nat → Prop) (x : S92)  : k92.M w base ok x [.string x.f0, .string x.f1, .int .i64 x.f2, .int .i64 x.f3, .bool x.f4, .int .i64 x.f5.f0, .int .i64 x.f5.f1] := ⟨[.string x.f0], [.string x.f1, .int .i64 x.f2, .int .i64 x.f3, .bool x.f4, .int .i64 x.f5.f0, .int .i64 x.f5.f1], rfl, rfl, ⟨[.string x.f1], [.int .i64 x.f2, .int .i64 x.f3, .bool x.f4, .int .i64 x.f5.f0, .int .i64 x.f5.f1], rfl, rfl, ⟨[.int .i64 x.f2], [.int .i64 x.f3, .bool x.f4, .int .i64 x.f5.f0, .int .i64 x.f5.f1], rfl, rfl, ⟨[.int .i64 x.f3], [.bool x.f4, .int .i64 x.f5.f0, .int .i64 x.f5.f1], rfl, rfl, ⟨[.bool x.f4], [.int .i64 x.f5.f0, .int .i64 x.f5.f1], rfl, rfl, (k54_mkM w base ok x.f5 )⟩⟩⟩⟩⟩
def rd_T92 (xs : List S92) (i : Int) : S92 := xs.getD i.toNat z92
theorem at_T92 {w : World} {A : Option Addr} {n : Nat} {xs : List S92} (h : Kd.C k92 w A n xs) (i : Int) (h0 : 0 ≤ i) (h1 : i < n) : ∃ ad , A = some ad ∧ w.cell? (ad.add (i.toNat * 7)) = some (.string (rd_T92 xs i).f0) ∧ w.cell? ⟨(ad.add (i.toNat * 7)).block, (ad.add (i.toNat * 7)).off + 1, none⟩ = some (.string (rd_T92 xs i).f1) ∧ w.cell? ⟨(ad.add (i.toNat * 7)).block, (ad.add (i.toNat * 7)).off + 2, none⟩ = some (.int .i64 (rd_T92 xs i).f2) ∧ w.cell? ⟨(ad.add (i.toNat * 7)).block, (ad.add (i.toNat * 7)).off + 3, none⟩ = some (.int .i64 (rd_T92 xs i).f3) ∧ w.cell? ⟨(ad.add (i.toNat * 7)).block, (ad.add (i.toNat * 7)).off + 4, none⟩ = some (.bool (rd_T92 xs i).f4) ∧ w.cell? ⟨(ad.add (i.toNat * 7)).block, (ad.add (i.toNat * 7)).off + 5, none⟩ = some (.int .i64 (rd_T92 xs i).f5.f0) ∧ w.cell? ⟨(ad.add (i.toNat * 7)).block, (ad.add (i.toNat * 7)).off + 6, none⟩ = some (.int .i64 (rd_T92 xs i).f5.f1) := by
 obtain ⟨ad, c, e, _, hK, hc0⟩ := Kd.C_get h z92 i h0 h1
 have hc : ∀ j u, c[j]? = some u → w.cell? (ad.add (i.toNat * 7 + j)) = some u := hc0
 obtain rfl := k92_open hK
 exact ⟨ad, e, hc 0 _ rfl, by rw [← add_field _ _ 1 (by omega)]; exact hc 1 _ rfl, by rw [← add_field _ _ 2 (by omega)]; exact hc 2 _ rfl, by rw [← add_field _ _ 3 (by omega)]; exact hc 3 _ rfl, by rw [← add_field _ _ 4 (by omega)]; exact hc 4 _ rfl, by rw [← add_field _ _ 5 (by omega)]; exact hc 5 _ rfl, by rw [← add_field _ _ 6 (by omega)]; exact hc 6 _ rfl⟩
structure S110 where
 f0 : Int
 f1 : Int
 f2 : Int
 f3 : Int
 f4 : Int
 f5 : (List Int)
 f6 : (List S110)
 f7 : (List S110)
def z110 : S110 := ⟨(0 : Int), (0 : Int), (0 : Int), (0 : Int), (0 : Int), ([] : List Int), ([] : List S110), ([] : List S110)⟩
def F110 (d : Kd S110) : Kd S110 := Kd.iso (Kd.pair (Kd.int .i64) (Kd.pair (Kd.int .i64) (Kd.pair (Kd.int .i64) (Kd.pair (Kd.int .i64) (Kd.pair (Kd.int .i64) (Kd.pair (Kd.slice 3 (Kd.int .i64)) (Kd.pair (Kd.slice 110 d) (Kd.slice 110 d)))))))) (fun x : S110 => (x.f0, x.f1, x.f2, x.f3, x.f4, x.f5, x.f6, x.f7))
theorem mono110 : Kd.Mono F110 := Kd.mono_iso _ (Kd.mono_pair (Kd.mono_const _) (Kd.mono_pair (Kd.mono_const _) (Kd.mono_pair (Kd.mono_const _) (Kd.mono_pair (Kd.mono_const _) (Kd.mono_pair (Kd.mono_const _) (Kd.mono_pair (Kd.mono_const _) (Kd.mono_pair (Kd.mono_slice 110 Kd.mono_id) (Kd.mono_slice 110 Kd.mono_id))))))))
theorem sub110 : Kd.Sub F110 [3, 110] := Kd.sub_iso _ (Kd.sub_pair (Kd.sub_const _ (by decide)) (Kd.sub_pair (Kd.sub_const _ (by decide)) (Kd.sub_pair (Kd.sub_const _ (by decide)) (Kd.sub_pair (Kd.sub_const _ (by decide)) (Kd.sub_pair (Kd.sub_const _ (by decide)) (Kd.sub_pair (Kd.sub_const _ (by decide)) (Kd.sub_pair (Kd.sub_slice 110 (by decide) Kd.sub_id) (Kd.sub_slice 110 (by decide) Kd.sub_id))))))))
theorem sz110 : ∀ n, (Kd.upto F110 8 [3, 110] n).sz = 8 := Kd.upto_sz (fun _ => rfl)
def k110 : Kd S110 := Kd.fix F110 8 [3, 110] sz110 (Kd.upto_E sub110)
theorem k110_open {w : World} {x : S110} {cs : List Value} (h : k110.K w x cs) : ∃ A5 c5 A6 c6 A7 c7, cs = [.int .i64 x.f0, .int .i64 x.f1, .int .i64 x.f2, .int .i64 x.f3, .int .i64 x.f4, .slice A5 x.f5.length c5, .slice A6 x.f6.length c6, .slice A7 x.f7.length c7] ∧ x.f5.length ≤ c5 ∧ (Kd.int .i64).C w A5 x.f5.length x.f5 ∧ x.f6.length ≤ c6 ∧ k110.C w A6 x.f6.length x.f6 ∧ x.f7.length ≤ c7 ∧ k110.C w A7 x.f7.length x.f7 := by
 obtain ⟨n, h⟩ := h
 cases n with
 | zero => exact h.elim
 | succ n =>
  obtain ⟨_, _, rfl, rfl, ⟨_, _, rfl, rfl, ⟨_, _, rfl, rfl, ⟨_, _, rfl, rfl, ⟨_, _, rfl, rfl, ⟨_, _, rfl, ⟨A5, c5, rfl, l5, g5⟩, ⟨_, _, rfl, ⟨A6, c6, rfl, l6, g6⟩, ⟨A7, c7, rfl, l7, g7⟩⟩⟩⟩⟩⟩⟩⟩ := h
  exact ⟨A5, c5, A6, c6, A7, c7, rfl, l5, g5, l6, Kd.fix_C g6, l7, Kd.fix_C g7⟩
theorem k110_mkM (w : World) (base : Nat) (ok : Nat → Prop) (x : S110) {v5 : Value} (g5 : (Kd.int .i64).R 3 w base ok v5 x.f5) {v6 : Value} (g6 : k110.R 110 w base ok v6 x.f6) {v7 : Value} (g7 : k110.R 110 w base ok v7 x.f7) : k110.M w base ok x [.int .i64 x.f0, .int .i64 x.f1, .int .i64 x.f2, .int .i64 x.f3, .int .i64 x.f4, v5, v6, v7] := by
 obtain ⟨n6, q6⟩ := Kd.fix_R_back mono110 g6
 obtain ⟨n7, q7⟩ := Kd.fix_R_back mono110 g7
 have r6 := Kd.upto_R_le mono110 sz110 (show n6 ≤ (max n6 n7) by omega) q6
 have r7 := Kd.upto_R_le mono110 sz110 (show n7 ≤ (max n6 n7) by omega) q7
 exact ⟨(max n6 n7) + 1, ⟨[.int .i64 x.f0], [.int .i64 x.f1, .int .i64 x.f2, .int .i64 x.f3, .int .i64 x.f4, v5, v6, v7], rfl, rfl, ⟨[.int .i64 x.f1], [.int .i64 x.f2, .int .i64 x.f3, .int .i64 x.f4, v5, v6, v7], rfl, rfl, ⟨[.int .i64 x.f2], [.int .i64 x.f3, .int .i64 x.f4, v5, v6, v7], rfl, rfl, ⟨[.int .i64 x.f3], [.int .i64 x.f4, v5, v6, v7], rfl, rfl, ⟨[.int .i64 x.f4], [v5, v6, v7], rfl, rfl, ⟨[v5], [v6, v7], rfl, ⟨v5, rfl, g5⟩, ⟨[v6], [v7], rfl, ⟨v6, rfl, r6⟩, ⟨v7, rfl, r7⟩⟩⟩⟩⟩⟩⟩⟩⟩
def rd_T110 (xs : List S110) (i : Int) : S110 := xs.getD i.toNat z110
theorem at_T110 {w : World} {A : Option Addr} {n : Nat} {xs : List S110} (h : Kd.C k110 w A n xs) (i : Int) (h0 : 0 ≤ i) (h1 : i < n) : ∃ ad A5 c5 A6 c6 A7 c7, A = some ad ∧ w.cell? (ad.add (i.toNat * 8)) = some (.int .i64 (rd_T110 xs i).f0) ∧ w.cell? ⟨(ad.add (i.toNat * 8)).block, (ad.add (i.toNat * 8)).off + 1, none⟩ = some (.int .i64 (rd_T110 xs i).f1) ∧ w.cell? ⟨(ad.add (i.toNat * 8)).block, (ad.add (i.toNat * 8)).off + 2, none⟩ = some (.int .i64 (rd_T110 xs i).f2) ∧ w.cell? ⟨(ad.add (i.toNat * 8)).block, (ad.add (i.toNat * 8)).off + 3, none⟩ = some (.int .i64 (rd_T110 xs i).f3) ∧ w.cell? ⟨(ad.add (i.toNat * 8)).block, (ad.add (i.toNat * 8)).off + 4, none⟩ = some (.int .i64 (rd_T110 xs i).f4) ∧ w.cell? ⟨(ad.add (i.toNat * 8)).block, (ad.add (i.toNat * 8)).off + 5, none⟩ = some (.slice A5 (rd_T110 xs i).f5.length c5) ∧ w.cell? ⟨(ad.add (i.toNat * 8)).block, (ad.add (i.toNat * 8)).off + 6, none⟩ = some (.slice A6 (rd_T110 xs i).f6.length c6) ∧ w.cell? ⟨(ad.add (i.toNat * 8)).block, (ad.add (i.toNat * 8)).off + 7, none⟩ = some (.slice A7 (rd_T110 xs i).f7.length c7) ∧ (rd_T110 xs i).f5.length ≤ c5 ∧ (Kd.int .i64).C w A5 (rd_T110 xs i).f5.length (rd_T110 xs i).f5 ∧ (rd_T110 xs i).f6.length ≤ c6 ∧ k110.C w A6 (rd_T110 xs i).f6.length (rd_T110 xs i).f6 ∧ (rd_T110 xs i).f7.length ≤ c7 ∧ k110.C w A7 (rd_T110 xs i).f7.length (rd_T110 xs i).f7 := by
 obtain ⟨ad, c, e, _, hK, hc0⟩ := Kd.C_get h z110 i h0 h1
 have hc : ∀ j u, c[j]? = some u → w.cell? (ad.add (i.toNat * 8 + j)) = some u := hc0
 obtain ⟨A5, c5, A6, c6, A7, c7, rfl, l5, g5, l6, g6, l7, g7⟩ := k110_open hK
 exact ⟨ad, A5, c5, A6, c6, A7, c7, e, hc 0 _ rfl, by rw [← add_field _ _ 1 (by omega)]; exact hc 1 _ rfl, by rw [← add_field _ _ 2 (by omega)]; exact hc 2 _ rfl, by rw [← add_field _ _ 3 (by omega)]; exact hc 3 _ rfl, by rw [← add_field _ _ 4 (by omega)]; exact hc 4 _ rfl, by rw [← add_field _ _ 5 (by omega)]; exact hc 5 _ rfl, by rw [← add_field _ _ 6 (by omega)]; exact hc 6 _ rfl, by rw [← add_field _ _ 7 (by omega)]; exact hc 7 _ rfl, l5, g5, l6, g6, l7, g7⟩
structure S72 where
 f0 : Int
 f1 : Bool
 f2 : (List S110)
def z72 : S72 := ⟨(0 : Int), false, ([] : List S110)⟩
def k72 : Kd S72 := Kd.iso (Kd.pair (Kd.int .i64) (Kd.pair Kd.bool (Kd.slice 110 k110))) (fun x : S72 => (x.f0, x.f1, x.f2))
theorem k72_open {w : World} {x : S72} {cs : List Value} (h : k72.K w x cs) : ∃ A2 c2, cs = [.int .i64 x.f0, .bool x.f1, .slice A2 x.f2.length c2] ∧ x.f2.length ≤ c2 ∧ k110.C w A2 x.f2.length x.f2 := by
 obtain ⟨_, _, rfl, rfl, ⟨_, _, rfl, rfl, ⟨A2, c2, rfl, l2, g2⟩⟩⟩ := h
 exact ⟨A2, c2, rfl, l2, g2⟩
theorem k72_openM {w : World} {base : Nat} {ok : Nat → Prop} {x : S72} {cs : List Value} (h : k72.M w base ok x cs) : ∃ v2, cs = [.int .i64 x.f0, .bool x.f1, v2] ∧ k110.R 110 w base ok v2 x.f2 := by
 obtain ⟨_, _, rfl, rfl, ⟨_, _, rfl, rfl, ⟨v2, rfl, g2⟩⟩⟩ := h
 exact ⟨v2, rfl, g2⟩
theorem k72_mkM (w : World) (base : Nat) (ok : Nat → Prop) (x : S72) {v2 : Value} (g2 : k110.R 110 w base ok v2 x.f2) : k72.M w base ok x [.int .i64 x.f0, .bool x.f1, v2] := ⟨[.int .i64 x.f0], [.bool x.f1, v2], rfl, rfl, ⟨[.bool x.f1], [v2], rfl, rfl, ⟨v2, rfl, g2⟩⟩⟩
def rd_T72 (xs : List S72) (i : Int) : S72 := xs.getD i.toNat z72
theorem at_T72 {w : World} {A : Option Addr} {n : Nat} {xs : List S72} (h : Kd.C k72 w A n xs) (i : Int) (h0 : 0 ≤ i) (h1 : i < n) : ∃ ad A2 c2, A = some ad ∧ w.cell? (ad.add (i.toNat * 3)) = some (.int .i64 (rd_T72 xs i).f0) ∧ w.cell? ⟨(ad.add (i.toNat * 3)).block, (ad.add (i.toNat * 3)).off + 1, none⟩ = some (.bool (rd_T72 xs i).f1) ∧ w.cell? ⟨(ad.add (i.toNat * 3)).block, (ad.add (i.toNat * 3)).off + 2, none⟩ = some (.slice A2 (rd_T72 xs i).f2.length c2) ∧ (rd_T72 xs i).f2.length ≤ c2 ∧ k110.C w A2 (rd_T72 xs i).f2.length (rd_T72 xs i).f2 := by
 obtain ⟨ad, c, e, _, hK, hc0⟩ := Kd.C_get h z72 i h0 h1
 have hc : ∀ j u, c[j]? = some u → w.cell? (ad.add (i.toNat * 3 + j)) = some u := hc0
 obtain ⟨A2, c2, rfl, l2, g2⟩ := k72_open hK
 exact ⟨ad, A2, c2, e, hc 0 _ rfl, by rw [← add_field _ _ 1 (by omega)]; exact hc 1 _ rfl, by rw [← add_field _ _ 2 (by omega)]; exact hc 2 _ rfl, l2, g2⟩
structure S75 where
 f0 : ByteArray
 f1 : Int
 f2 : Int
def z75 : S75 := ⟨(⟨#[]⟩ : ByteArray), (0 : Int), (0 : Int)⟩
def k75 : Kd S75 := Kd.iso (Kd.pair Kd.string (Kd.pair (Kd.int .i64) (Kd.int .i64))) (fun x : S75 => (x.f0, x.f1, x.f2))
theorem k75_open {w : World} {x : S75} {cs : List Value} (h : k75.K w x cs) : cs = [.string x.f0, .int .i64 x.f1, .int .i64 x.f2] := by
 obtain ⟨_, _, rfl, rfl, ⟨_, _, rfl, rfl, rfl⟩⟩ := h
 exact rfl
theorem k75_openM {w : World} {base : Nat} {ok : Nat → Prop} {x : S75} {cs : List Value} (h : k75.M w base ok x cs) : cs = [.string x.f0, .int .i64 x.f1, .int .i64 x.f2] := by
 obtain ⟨_, _, rfl, rfl, ⟨_, _, rfl, rfl, rfl⟩⟩ := h
 exact rfl
theorem k75_mkM (w : World) (base : Nat) (ok : Nat → Prop) (x : S75)  : k75.M w base ok x [.string x.f0, .int .i64 x.f1, .int .i64 x.f2] := ⟨[.string x.f0], [.int .i64 x.f1, .int .i64 x.f2], rfl, rfl, ⟨[.int .i64 x.f1], [.int .i64 x.f2], rfl, rfl, rfl⟩⟩
def rd_T75 (xs : List S75) (i : Int) : S75 := xs.getD i.toNat z75
theorem at_T75 {w : World} {A : Option Addr} {n : Nat} {xs : List S75} (h : Kd.C k75 w A n xs) (i : Int) (h0 : 0 ≤ i) (h1 : i < n) : ∃ ad , A = some ad ∧ w.cell? (ad.add (i.toNat * 3)) = some (.string (rd_T75 xs i).f0) ∧ w.cell? ⟨(ad.add (i.toNat * 3)).block, (ad.add (i.toNat * 3)).off + 1, none⟩ = some (.int .i64 (rd_T75 xs i).f1) ∧ w.cell? ⟨(ad.add (i.toNat * 3)).block, (ad.add (i.toNat * 3)).off + 2, none⟩ = some (.int .i64 (rd_T75 xs i).f2) := by
 obtain ⟨ad, c, e, _, hK, hc0⟩ := Kd.C_get h z75 i h0 h1
 have hc : ∀ j u, c[j]? = some u → w.cell? (ad.add (i.toNat * 3 + j)) = some u := hc0
 obtain rfl := k75_open hK
 exact ⟨ad, e, hc 0 _ rfl, by rw [← add_field _ _ 1 (by omega)]; exact hc 1 _ rfl, by rw [← add_field _ _ 2 (by omega)]; exact hc 2 _ rfl⟩
structure S77 where
 f0 : (List S110)
 f1 : (List Int)
def z77 : S77 := ⟨([] : List S110), ([] : List Int)⟩
def k77 : Kd S77 := Kd.iso (Kd.pair (Kd.slice 110 k110) (Kd.slice 3 (Kd.int .i64))) (fun x : S77 => (x.f0, x.f1))
theorem k77_open {w : World} {x : S77} {cs : List Value} (h : k77.K w x cs) : ∃ A0 c0 A1 c1, cs = [.slice A0 x.f0.length c0, .slice A1 x.f1.length c1] ∧ x.f0.length ≤ c0 ∧ k110.C w A0 x.f0.length x.f0 ∧ x.f1.length ≤ c1 ∧ (Kd.int .i64).C w A1 x.f1.length x.f1 := by
 obtain ⟨_, _, rfl, ⟨A0, c0, rfl, l0, g0⟩, ⟨A1, c1, rfl, l1, g1⟩⟩ := h
 exact ⟨A0, c0, A1, c1, rfl, l0, g0, l1, g1⟩
theorem k77_openM {w : World} {base : Nat} {ok : Nat → Prop} {x : S77} {cs : List Value} (h : k77.M w base ok x cs) : ∃ v0 v1, cs = [v0, v1] ∧ k110.R 110 w base ok v0 x.f0 ∧ (Kd.int .i64).R 3 w base ok v1 x.f1 := by
 obtain ⟨_, _, rfl, ⟨v0, rfl, g0⟩, ⟨v1, rfl, g1⟩⟩ := h
 exact ⟨v0, v1, rfl, g0, g1⟩
theorem k77_mkM (w : World) (base : Nat) (ok : Nat → Prop) (x : S77) {v0 : Value} (g0 : k110.R 110 w base ok v0 x.f0) {v1 : Value} (g1 : (Kd.int .i64).R 3 w base ok v1 x.f1) : k77.M w base ok x [v0, v1] := ⟨[v0], [v1], rfl, ⟨v0, rfl, g0⟩, ⟨v1, rfl, g1⟩⟩
def rd_T77 (xs : List S77) (i : Int) : S77 := xs.getD i.toNat z77
theorem at_T77 {w : World} {A : Option Addr} {n : Nat} {xs : List S77} (h : Kd.C k77 w A n xs) (i : Int) (h0 : 0 ≤ i) (h1 : i < n) : ∃ ad A0 c0 A1 c1, A = some ad ∧ w.cell? (ad.add (i.toNat * 2)) = some (.slice A0 (rd_T77 xs i).f0.length c0) ∧ w.cell? ⟨(ad.add (i.toNat * 2)).block, (ad.add (i.toNat * 2)).off + 1, none⟩ = some (.slice A1 (rd_T77 xs i).f1.length c1) ∧ (rd_T77 xs i).f0.length ≤ c0 ∧ k110.C w A0 (rd_T77 xs i).f0.length (rd_T77 xs i).f0 ∧ (rd_T77 xs i).f1.length ≤ c1 ∧ (Kd.int .i64).C w A1 (rd_T77 xs i).f1.length (rd_T77 xs i).f1 := by
 obtain ⟨ad, c, e, _, hK, hc0⟩ := Kd.C_get h z77 i h0 h1
 have hc : ∀ j u, c[j]? = some u → w.cell? (ad.add (i.toNat * 2 + j)) = some u := hc0
 obtain ⟨A0, c0, A1, c1, rfl, l0, g0, l1, g1⟩ := k77_open hK
 exact ⟨ad, A0, c0, A1, c1, e, hc 0 _ rfl, by rw [← add_field _ _ 1 (by omega)]; exact hc 1 _ rfl, l0, g0, l1, g1⟩
structure S57 where
 f0 : (List Int)
 f1 : (List S110)
def z57 : S57 := ⟨([] : List Int), ([] : List S110)⟩
def k57 : Kd S57 := Kd.iso (Kd.pair (Kd.slice 3 (Kd.int .i64)) (Kd.slice 110 k110)) (fun x : S57 => (x.f0, x.f1))
theorem k57_open {w : World} {x : S57} {cs : List Value} (h : k57.K w x cs) : ∃ A0 c0 A1 c1, cs = [.slice A0 x.f0.length c0, .slice A1 x.f1.length c1] ∧ x.f0.length ≤ c0 ∧ (Kd.int .i64).C w A0 x.f0.length x.f0 ∧ x.f1.length ≤ c1 ∧ k110.C w A1 x.f1.length x.f1 := by
 obtain ⟨_, _, rfl, ⟨A0, c0, rfl, l0, g0⟩, ⟨A1, c1, rfl, l1, g1⟩⟩ := h
 exact ⟨A0, c0, A1, c1, rfl, l0, g0, l1, g1⟩
theorem k57_openM {w : World} {base : Nat} {ok : Nat → Prop} {x : S57} {cs : List Value} (h : k57.M w base ok x cs) : ∃ v0 v1, cs = [v0, v1] ∧ (Kd.int .i64).R 3 w base ok v0 x.f0 ∧ k110.R 110 w base ok v1 x.f1 := by
 obtain ⟨_, _, rfl, ⟨v0, rfl, g0⟩, ⟨v1, rfl, g1⟩⟩ := h
 exact ⟨v0, v1, rfl, g0, g1⟩
theorem k57_mkM (w : World) (base : Nat) (ok : Nat → Prop) (x : S57) {v0 : Value} (g0 : (Kd.int .i64).R 3 w base ok v0 x.f0) {v1 : Value} (g1 : k110.R 110 w base ok v1 x.f1) : k57.M w base ok x [v0, v1] := ⟨[v0], [v1], rfl, ⟨v0, rfl, g0⟩, ⟨v1, rfl, g1⟩⟩
def rd_T57 (xs : List S57) (i : Int) : S57 := xs.getD i.toNat z57
theorem at_T57 {w : World} {A : Option Addr} {n : Nat} {xs : List S57} (h : Kd.C k57 w A n xs) (i : Int) (h0 : 0 ≤ i) (h1 : i < n) : ∃ ad A0 c0 A1 c1, A = some ad ∧ w.cell? (ad.add (i.toNat * 2)) = some (.slice A0 (rd_T57 xs i).f0.length c0) ∧ w.cell? ⟨(ad.add (i.toNat * 2)).block, (ad.add (i.toNat * 2)).off + 1, none⟩ = some (.slice A1 (rd_T57 xs i).f1.length c1) ∧ (rd_T57 xs i).f0.length ≤ c0 ∧ (Kd.int .i64).C w A0 (rd_T57 xs i).f0.length (rd_T57 xs i).f0 ∧ (rd_T57 xs i).f1.length ≤ c1 ∧ k110.C w A1 (rd_T57 xs i).f1.length (rd_T57 xs i).f1 := by
 obtain ⟨ad, c, e, _, hK, hc0⟩ := Kd.C_get h z57 i h0 h1
 have hc : ∀ j u, c[j]? = some u → w.cell? (ad.add (i.toNat * 2 + j)) = some u := hc0
 obtain ⟨A0, c0, A1, c1, rfl, l0, g0, l1, g1⟩ := k57_open hK
 exact ⟨ad, A0, c0, A1, c1, e, hc 0 _ rfl, by rw [← add_field _ _ 1 (by omega)]; exact hc 1 _ rfl, l0, g0, l1, g1⟩
structure S80 where
 f0 : (List S110)
 f1 : ByteArray
def z80 : S80 := ⟨([] : List S110), (⟨#[]⟩ : ByteArray)⟩
def k80 : Kd S80 := Kd.iso (Kd.pair (Kd.slice 110 k110) Kd.string) (fun x : S80 => (x.f0, x.f1))
theorem k80_open {w : World} {x : S80} {cs : List Value} (h : k80.K w x cs) : ∃ A0 c0, cs = [.slice A0 x.f0.length c0, .string x.f1] ∧ x.f0.length ≤ c0 ∧ k110.C w A0 x.f0.length x.f0 := by
 obtain ⟨_, _, rfl, ⟨A0, c0, rfl, l0, g0⟩, rfl⟩ := h
 exact ⟨A0, c0, rfl, l0, g0⟩
theorem k80_openM {w : World} {base : Nat} {ok : Nat → Prop} {x : S80} {cs : List Value} (h : k80.M w base ok x cs) : ∃ v0, cs = [v0, .string x.f1] ∧ k110.R 110 w base ok v0 x.f0 := by
 obtain ⟨_, _, rfl, ⟨v0, rfl, g0⟩, rfl⟩ := h
 exact ⟨v0, rfl, g0⟩
theorem k80_mkM (w : World) (base : Nat) (ok : Nat → Prop) (x : S80) {v0 : Value} (g0 : k110.R 110 w base ok v0 x.f0) : k80.M w base ok x [v0, .string x.f1] := ⟨[v0], [.string x.f1], rfl, ⟨v0, rfl, g0⟩, rfl⟩
def rd_T80 (xs : List S80) (i : Int) : S80 := xs.getD i.toNat z80
theorem at_T80 {w : World} {A : Option Addr} {n : Nat} {xs : List S80} (h : Kd.C k80 w A n xs) (i : Int) (h0 : 0 ≤ i) (h1 : i < n) : ∃ ad A0 c0, A = some ad ∧ w.cell? (ad.add (i.toNat * 2)) = some (.slice A0 (rd_T80 xs i).f0.length c0) ∧ w.cell? ⟨(ad.add (i.toNat * 2)).block, (ad.add (i.toNat * 2)).off + 1, none⟩ = some (.string (rd_T80 xs i).f1) ∧ (rd_T80 xs i).f0.length ≤ c0 ∧ k110.C w A0 (rd_T80 xs i).f0.length (rd_T80 xs i).f0 := by
 obtain ⟨ad, c, e, _, hK, hc0⟩ := Kd.C_get h z80 i h0 h1
 have hc : ∀ j u, c[j]? = some u → w.cell? (ad.add (i.toNat * 2 + j)) = some u := hc0
 obtain ⟨A0, c0, rfl, l0, g0⟩ := k80_open hK
 exact ⟨ad, A0, c0, e, hc 0 _ rfl, by rw [← add_field _ _ 1 (by omega)]; exact hc 1 _ rfl, l0, g0⟩
end Go.Proofs.YtkdoijfjceeblaaDoor.F
end
section
namespace Go.Proofs.YtkdoijfjceeblaaDoor.F
open Go.RowKit Go.Proofs.YtkdoijfjceeblaaDoorW.PrintWords Go.Proofs.YtkdoijfjceeblaaDoorW.PrintLast Go.Proofs.YtkdoijfjceeblaaDoorW.PrintMore
attribute [local go_sem] max2_int min2_int max_two min_two max_three min_three max_four min_four
set_option linter.unusedVariables false
set_option linter.unusedSimpArgs false
def leb_most.f (a0 : Int) : Option (Int) := some (wrap64 (Int.tdiv (wrap64 (a0 + 6)) 7))
set_option maxHeartbeats 8000000 in
set_option maxRecDepth 100000 in
theorem leb_most.calls (a0 : Int) (r : Int) (w : World) (h : leb_most.f a0 = some r) :
  Calls Tryd.prog 57 #[.int .i64 a0] w fun e w' => e = .returned (.int .i64 r) ∧ Drawn0 w w' := by
 have H : (some (wrap64 (Int.tdiv (wrap64 (a0 + 6)) 7))) = some r := h
 clear h
 obtain rfl := Option.some.inj H
 go_enter Tryd.func57, Tryd.ntmps57
 go_wp2
 go_ret
 exact ⟨by first | rfl | (simp; done) | (simp [*]; done), by repeat (first | exact Drawn0.refl _ | apply Drawn0.step)⟩
mutual
def leb_parts.j0 : Nat → ByteArray → Int → Int → Bool → Option (Int × Int)
 | 0, _, _, _, _ => none
 | k + 1, x0, x1, x2, x24 => if x24 = true then (some (0, 1200)) else (leb_parts.l0 k x0 x1 x2 0)
def leb_parts.l0 : Nat → ByteArray → Int → Int → Int → Option (Int × Int)
 | 0, _, _, _, _ => none
 | k + 1, x0, x1, x2, x8 => (leb_most.f x2).bind fun t101 => (if x8 < t101 then (if (wrap64 (x1 + x8)) = (x0.size : Int) then (some (0, 1201)) else (if 0 ≤ (wrap64 (x1 + x8)) then (if (wrap64 (x1 + x8)) < (x0.size : Int) then (if (bt x0 (wrap64 (x1 + x8))) < 128 then (some (wrap64 (x8 + 1), 0)) else (leb_parts.l0 k x0 x1 x2 (wrap64 (x8 + 1)))) else (none)) else (none))) else (some (0, 1200)))
end
def leb_parts.f (k : Nat) (a0 : ByteArray) (a1 : Int) (a2 : Int) : Option (Int × Int) := if a2 = 32 then (if a1 < 0 then (leb_parts.j0 k a0 a1 a2 true) else (leb_parts.j0 k a0 a1 a2 (decide (a1 > (a0.size : Int))))) else (if a2 = 64 then (if a1 < 0 then (leb_parts.j0 k a0 a1 a2 true) else (leb_parts.j0 k a0 a1 a2 (decide (a1 > (a0.size : Int))))) else (leb_parts.j0 k a0 a1 a2 true))
theorem leb_parts.mono_l : ∀ k, (∀ y0 y1 y2 y3, LeO (leb_parts.j0 k y0 y1 y2 y3) (leb_parts.j0 (k + 1) y0 y1 y2 y3)) ∧ (∀ y0 y1 y2 y3, LeO (leb_parts.l0 k y0 y1 y2 y3) (leb_parts.l0 (k + 1) y0 y1 y2 y3))
 | 0 => ⟨fun _ _ _ _ r h => by simp [leb_parts.j0] at h, fun _ _ _ _ r h => by simp [leb_parts.l0] at h⟩
 | k + 1 => by
  obtain ⟨ih0, ih1⟩ := leb_parts.mono_l k
  refine ⟨?_, ?_⟩
  ·intro y0 y1 y2 y3
   unfold leb_parts.j0
   repeat' first
   | (with_reducible exact ih0 _ _ _ _)
   | (with_reducible exact ih1 _ _ _ _)
   | (with_reducible exact LeO.refl _)
   | (with_reducible exact LeO.none _)
   | (with_reducible refine LeO.ite ?_ ?_)
   | (with_reducible refine LeO.bind ?_ (fun _ => ?_))
   | exact ih0 _ _ _ _
   | exact ih1 _ _ _ _
   | exact LeO.none _
   | refine LeO.ite ?_ ?_
   | refine LeO.bind ?_ (fun _ => ?_)
  ·intro y0 y1 y2 y3
   unfold leb_parts.l0
   repeat' first
   | (with_reducible exact ih0 _ _ _ _)
   | (with_reducible exact ih1 _ _ _ _)
   | (with_reducible exact LeO.refl _)
   | (with_reducible exact LeO.none _)
   | (with_reducible refine LeO.ite ?_ ?_)
   | (with_reducible refine LeO.bind ?_ (fun _ => ?_))
   | exact ih0 _ _ _ _
   | exact ih1 _ _ _ _
   | exact LeO.none _
   | refine LeO.ite ?_ ?_
   | refine LeO.bind ?_ (fun _ => ?_)
theorem leb_parts.mono : ∀ a0 a1 a2 k, LeO (leb_parts.f k a0 a1 a2) (leb_parts.f (k + 1) a0 a1 a2) := by
 intro a0 a1 a2 k
 obtain ⟨ih0, ih1⟩ := leb_parts.mono_l k
 unfold leb_parts.f
 repeat' first
   | (with_reducible exact ih0 _ _ _ _)
   | (with_reducible exact ih1 _ _ _ _)
   | (with_reducible exact LeO.refl _)
   | (with_reducible exact LeO.none _)
   | (with_reducible refine LeO.ite ?_ ?_)
   | (with_reducible refine LeO.bind ?_ (fun _ => ?_))
   | exact ih0 _ _ _ _
   | exact ih1 _ _ _ _
   | exact LeO.none _
   | refine LeO.ite ?_ ?_
   | refine LeO.bind ?_ (fun _ => ?_)
set_option maxHeartbeats 8000000 in
set_option maxRecDepth 100000 in
theorem leb_parts.calls (k : Nat) (a0 : ByteArray) (a1 : Int) (a2 : Int) (r1 : Int) (r2 : Int) (w : World) (h : leb_parts.f k a0 a1 a2 = some (r1, r2)) :
  Calls Tryd.prog 56 #[.string a0, .int .i64 a1, .int .i64 a2] w fun e w' => e = .returned (.tuple #[.int .i64 r1, .int .i64 r2]) ∧ Drawn0 w w' := by
 have H : (if a2 = 32 then (if a1 < 0 then (leb_parts.j0 k a0 a1 a2 true) else (leb_parts.j0 k a0 a1 a2 (decide (a1 > (a0.size : Int))))) else (if a2 = 64 then (if a1 < 0 then (leb_parts.j0 k a0 a1 a2 true) else (leb_parts.j0 k a0 a1 a2 (decide (a1 > (a0.size : Int))))) else (leb_parts.j0 k a0 a1 a2 true))) = some (r1, r2) := h
 clear h
 have HC4 := am H
 clear H
 go_enter Tryd.func56, Tryd.ntmps56
 go_upto_region 1 with (fail)
 go_cut [24] (fun v24 wc => ∃ (kq : Nat) (x24_3 : Bool), v24 = .bool x24_3 ∧ Aside0 (leb_parts.j0 kq a0 a1 a2 x24_3 = some (r1, r2)) ∧ Aside0 (kq ≤ k) ∧ Drawn0 w wc)
 case first =>
  have H := HC4.out
  clear HC4
  by_cases c5 : a2 = 32
  ·rw [if_pos c5] at H
   have c5b0 : (a2 == 32) = true := beq_iff_eq.mpr c5
   have c5b1 : (a2 != 32) = false := bne_eq_false_iff_eq.mpr c5
   clear c5
   (first | rw [c5b0] | (simp only [i64_w, i32_w]; rw [c5b0]) | skip)
   by_cases c6 : a1 < 0
   ·rw [if_pos c6] at H
    have c6b0 : decide (a1 < 0) = true := decide_eq_true c6
    clear c6
    have H' := am H
    clear H
    go_wp2
    go_meet
    case rel => exact ⟨_, (true), (by first | rfl | (simp; done) | (simp [*]; done)), H', ⟨by first | omega | exact Nat.le_refl _⟩, by repeat (first | exact Drawn0.refl _ | apply Drawn0.step)⟩
   ·rw [if_neg c6] at H
    have c6b0 : decide (a1 < 0) = false := decide_eq_false c6
    clear c6
    have H' := am H
    clear H
    go_wp2
    go_meet
    case rel => exact ⟨_, (decide (a1 > (a0.size : Int))), (by first | rfl | (simp; done) | (simp [*]; done)), H', ⟨by first | omega | exact Nat.le_refl _⟩, by repeat (first | exact Drawn0.refl _ | apply Drawn0.step)⟩
  ·rw [if_neg c5] at H
   have c5b0 : (a2 == 32) = false := beq_eq_false_iff_ne.mpr c5
   have c5b1 : (a2 != 32) = true := bne_iff_ne.mpr c5
   (first | rw [c5b0] | (simp only [i64_w, i32_w]; rw [c5b0]) | skip)
   by_cases c7 : a2 = 64
   ·rw [if_pos c7] at H
    have c7b0 : (a2 == 64) = true := beq_iff_eq.mpr c7
    have c7b1 : (a2 != 64) = false := bne_eq_false_iff_eq.mpr c7
    clear c7
    by_cases c8 : a1 < 0
    ·rw [if_pos c8] at H
     have c8b0 : decide (a1 < 0) = true := decide_eq_true c8
     clear c8
     have H' := am H
     clear H
     go_wp2
     go_meet
     case rel => exact ⟨_, (true), (by first | rfl | (simp; done) | (simp [*]; done)), H', ⟨by first | omega | exact Nat.le_refl _⟩, by repeat (first | exact Drawn0.refl _ | apply Drawn0.step)⟩
    ·rw [if_neg c8] at H
     have c8b0 : decide (a1 < 0) = false := decide_eq_false c8
     clear c8
     have H' := am H
     clear H
     go_wp2
     go_meet
     case rel => exact ⟨_, (decide (a1 > (a0.size : Int))), (by first | rfl | (simp; done) | (simp [*]; done)), H', ⟨by first | omega | exact Nat.le_refl _⟩, by repeat (first | exact Drawn0.refl _ | apply Drawn0.step)⟩
   ·rw [if_neg c7] at H
    have c7b0 : (a2 == 64) = false := beq_eq_false_iff_ne.mpr c7
    have c7b1 : (a2 != 64) = true := bne_iff_ne.mpr c7
    have H' := am H
    clear H
    go_wp2
    go_meet
    case rel => exact ⟨_, (true), (by first | rfl | (simp; done) | (simp [*]; done)), H', ⟨by first | omega | exact Nat.le_refl _⟩, by repeat (first | exact Drawn0.refl _ | apply Drawn0.step)⟩
 case rest =>
  clear HC4
  try clear p2
  try clear c5
  try clear c5b0
  try clear c5b1
  try clear c6
  try clear c6b0
  try clear c7
  try clear c7b0
  try clear c7b1
  try clear c8
  try clear c8b0
  obtain ⟨kq, x24_3, rfl, HA, HJ3, ⟨mc3, rfl⟩⟩ := hcut
  cases kq with
  | zero => exact absurd HA.out (by simp [leb_parts.j0])
  | succ kj3 =>
   have H := HA.out
   clear HA
   simp only [leb_parts.j0] at H
   by_cases c9 : x24_3 = true
   ·subst c9
    have H1 : (some (0, 1200)) = some (r1, r2) := by rw [if_pos rfl] at H; exact H
    clear H
    have H := H1
    clear H1
    simp only [Option.some.injEq, Prod.mk.injEq] at H
    obtain ⟨rfl, rfl⟩ := H
    go_wp2
    go_ret2
    exact ⟨by first | rfl | (simp; done) | (simp [*]; done), by repeat (first | exact Drawn0.refl _ | apply Drawn0.step)⟩
   ·replace c9 := Bool.eq_false_iff.mpr c9
    subst c9
    have H1 : (leb_parts.l0 kj3 a0 a1 a2 0) = some (r1, r2) := by rw [if_neg (show ¬ (false = true) by decide)] at H; exact H
    clear H
    have H := H1
    clear H1
    have H' := am H
    clear H
    go_wp2
    go_loopg [8] kj3 (fun kq v8 w' => ∃ (x8_2 : Int), v8 = .int .i64 x8_2 ∧ Aside0 (leb_parts.l0 kq a0 a1 a2 x8_2 = some (r1, r2)) ∧ Aside0 (kq ≤ kj3) ∧ Drawn0 w w')
    case atStart => exact ⟨(0), (by first | rfl | (simp; done) | (simp [*]; done)), H', ⟨Nat.le_refl _⟩, by repeat (first | exact Drawn0.refl _ | apply Drawn0.step)⟩
    case round =>
     clear H'
     try clear p2
     try clear c3
     try clear c5
     try clear c5b0
     try clear c5b1
     try clear c6
     try clear c6b0
     try clear c7
     try clear c7b0
     try clear c7b1
     try clear c8
     try clear c8b0
     try clear c9
     try clear p2
     obtain ⟨x8_2, rfl, HA, HK2, ⟨m2, rfl⟩⟩ := hrel
     cases gk with
     | zero => exact absurd HA.out (by simp [leb_parts.l0])
     | succ k2 =>
      have H := HA.out
      clear HA
      simp only [leb_parts.l0] at H
      replace H := Option.bind_eq_some_iff.mp H
      obtain ⟨t101, A100, H⟩ := H
      replace H : (if x8_2 < t101 then (if (wrap64 (a1 + x8_2)) = (a0.size : Int) then (some (0, 1201)) else (if 0 ≤ (wrap64 (a1 + x8_2)) then (if (wrap64 (a1 + x8_2)) < (a0.size : Int) then (if (bt a0 (wrap64 (a1 + x8_2))) < 128 then (some (wrap64 (x8_2 + 1), 0)) else (leb_parts.l0 k2 a0 a1 a2 (wrap64 (x8_2 + 1)))) else (none)) else (none))) else (some (0, 1200))) = some (r1, r2) := H
      have A10 := am A100
      clear A100
      by_cases c11 : x8_2 < t101
      ·rw [if_pos c11] at H
       have c11b0 : decide (x8_2 < t101) = true := decide_eq_true c11
       clear c11
       by_cases c12 : (wrap64 (a1 + x8_2)) = (a0.size : Int)
       ·rw [if_pos c12] at H
        have c12b0 : ((wrap64 (a1 + x8_2)) == (a0.size : Int)) = true := beq_iff_eq.mpr c12
        have c12b1 : ((wrap64 (a1 + x8_2)) != (a0.size : Int)) = false := bne_eq_false_iff_eq.mpr c12
        clear c12
        simp only [Option.some.injEq, Prod.mk.injEq] at H
        obtain ⟨rfl, rfl⟩ := H
        go_wp2_with (first | ((with_reducible refine gate_callee (f := 57) rfl ?_); refine goesL_ (some 27) rfl rfl Tryd.func57 (by kernel_rfl) rfl #[.int .i64 a2] rfl (by (try simp only [List.map_toArray, List.map_cons, List.map_nil]); first | done | rfl | (simp only [List.length_drop, List.length_take]; rfl)) ?_; (with_reducible refine (leb_most.calls a2 t101 _ A10.out).mono ?_); rintro e w' ⟨rfl, ⟨nd, rfl⟩⟩; refine ⟨_, rfl, ?_⟩))
        go_ret2
        exact ⟨by first | rfl | (simp; done) | (simp [*]; done), by repeat (first | exact Drawn0.refl _ | apply Drawn0.step)⟩
       ·rw [if_neg c12] at H
        have c12b0 : ((wrap64 (a1 + x8_2)) == (a0.size : Int)) = false := beq_eq_false_iff_ne.mpr c12
        have c12b1 : ((wrap64 (a1 + x8_2)) != (a0.size : Int)) = true := bne_iff_ne.mpr c12
        obtain ⟨ji13, hji13⟩ : ∃ j_ : Int, (wrap64 (a1 + x8_2)) = j_ := ⟨_, rfl⟩
        replace H : (if 0 ≤ (ji13) then (if (ji13) < (a0.size : Int) then (if (bt a0 (ji13)) < 128 then (some (wrap64 (x8_2 + 1), 0)) else (leb_parts.l0 k2 a0 a1 a2 (wrap64 (x8_2 + 1)))) else (none)) else (none)) = some (r1, r2) := by first | (rw [hji13] at H; exact H) | (simp only [hji13] at H ⊢; exact H)
        (try rw [hji13] at c12b0)
        (try rw [hji13] at c12b1)
        (try rw [hji13] at A10)
        have hji13w : (IntKind.i64.wrap (a1 + x8_2)) = ji13 := (i64_w _).trans hji13
        by_cases c14 : 0 ≤ (ji13)
        ·rw [if_pos c14] at H
         have c14b0 : decide (0 ≤ (ji13)) = true := decide_eq_true c14
         clear c14
         by_cases c15 : (ji13) < (a0.size : Int)
         ·rw [if_pos c15] at H
          have c15b0 : decide ((ji13) < (a0.size : Int)) = true := decide_eq_true c15
          clear c15
          by_cases c17 : (bt a0 (ji13)) < 128
          ·rw [if_pos c17] at H
           have c17b0 : decide ((bt a0 (ji13)) < 128) = true := decide_eq_true c17
           clear c17
           simp only [Option.some.injEq, Prod.mk.injEq] at H
           obtain ⟨rfl, rfl⟩ := H
           go_wp2_with (first | ((with_reducible refine gate_callee (f := 57) rfl ?_); refine goesL_ (some 27) rfl rfl Tryd.func57 (by kernel_rfl) rfl #[.int .i64 a2] rfl (by (try simp only [List.map_toArray, List.map_cons, List.map_nil]); first | done | rfl | (simp only [List.length_drop, List.length_take]; rfl)) ?_; (with_reducible refine (leb_most.calls a2 t101 _ A10.out).mono ?_); rintro e w' ⟨rfl, ⟨nd, rfl⟩⟩; refine ⟨_, rfl, ?_⟩; have p16 : 0 ≤ ((ji13) : Int) := of_decide_eq_true (by first | (with_reducible assumption) | assumption); have q16 : (ji13) < (a0.size : Int) := of_decide_eq_true (by first | (with_reducible assumption) | assumption); have hx16 := bt_at a0 (ji13); replace p16 := eq_true p16; replace q16 := eq_true q16))
           go_ret2
           exact ⟨by first | rfl | (simp; done) | (simp only [← hji13] <;> (first | rfl | simp)) | (simp [*]; done), by repeat (first | exact Drawn0.refl _ | apply Drawn0.step)⟩
          ·rw [if_neg c17] at H
           have c17b0 : decide ((bt a0 (ji13)) < 128) = false := decide_eq_false c17
           clear c17
           have H' := am H
           clear H
           go_wp2_with (first | ((with_reducible refine gate_callee (f := 57) rfl ?_); refine goesL_ (some 27) rfl rfl Tryd.func57 (by kernel_rfl) rfl #[.int .i64 a2] rfl (by (try simp only [List.map_toArray, List.map_cons, List.map_nil]); first | done | rfl | (simp only [List.length_drop, List.length_take]; rfl)) ?_; (with_reducible refine (leb_most.calls a2 t101 _ A10.out).mono ?_); rintro e w' ⟨rfl, ⟨nd, rfl⟩⟩; refine ⟨_, rfl, ?_⟩; have p16 : 0 ≤ ((ji13) : Int) := of_decide_eq_true (by first | (with_reducible assumption) | assumption); have q16 : (ji13) < (a0.size : Int) := of_decide_eq_true (by first | (with_reducible assumption) | assumption); have hx16 := bt_at a0 (ji13); replace p16 := eq_true p16; replace q16 := eq_true q16))
           go_roundg k2
           case measure => have := HJ3.out; have := HK2.out; omega
           case rel => exact ⟨(wrap64 (x8_2 + 1)), (by first | rfl | (simp; done) | (simp [*]; done)), H', ⟨by have := HJ3.out; have := HK2.out; omega⟩, by repeat (first | exact Drawn0.refl _ | apply Drawn0.step)⟩
         ·rw [if_neg c15] at H
          exact absurd H (by simp)
        ·rw [if_neg c14] at H
         exact absurd H (by simp)
      ·rw [if_neg c11] at H
       have c11b0 : decide (x8_2 < t101) = false := decide_eq_false c11
       clear c11
       simp only [Option.some.injEq, Prod.mk.injEq] at H
       obtain ⟨rfl, rfl⟩ := H
       go_wp2_with (first | ((with_reducible refine gate_callee (f := 57) rfl ?_); refine goesL_ (some 27) rfl rfl Tryd.func57 (by kernel_rfl) rfl #[.int .i64 a2] rfl (by (try simp only [List.map_toArray, List.map_cons, List.map_nil]); first | done | rfl | (simp only [List.length_drop, List.length_take]; rfl)) ?_; (with_reducible refine (leb_most.calls a2 t101 _ A10.out).mono ?_); rintro e w' ⟨rfl, ⟨nd, rfl⟩⟩; refine ⟨_, rfl, ?_⟩))
       go_ret2
       exact ⟨by first | rfl | (simp; done) | (simp [*]; done), by repeat (first | exact Drawn0.refl _ | apply Drawn0.step)⟩
def leb_Get.l0 : Nat → ByteArray → Int → Int → Int → Int → Int → Int → Option (Int × Int × Int)
 | 0, _, _, _, _, _, _, _ => none
 | k + 1, x0, x1, x2, x9, x11, x23, x24 => if x24 < x23 then (if 0 ≤ (wrap64 (x1 + x24)) then (if (wrap64 (x1 + x24)) < (x0.size : Int) then (if 0 ≤ (wrap64 (7 * x24)) then (leb_Get.l0 k x0 x1 x2 x9 (Go.bits .or .u64 x11 (shl .u64 (IntKind.u64.wrap (Go.bits .and .u8 (bt x0 (wrap64 (x1 + x24))) 127)) (wrap64 (7 * x24)))) x23 (wrap64 (x24 + 1))) else (none)) else (none)) else (none)) else ((leb_most.f x2).bind fun t104 => (if x9 = t104 then (if 0 ≤ (wrap64 ((wrap64 (x1 + x9)) - 1)) then (if (wrap64 ((wrap64 (x1 + x9)) - 1)) < (x0.size : Int) then (if 0 ≤ (wrap64 (x2 - (wrap64 (7 * (wrap64 (x9 - 1)))))) then (if (shr .u8 (bt x0 (wrap64 ((wrap64 (x1 + x9)) - 1))) (wrap64 (x2 - (wrap64 (7 * (wrap64 (x9 - 1))))))) = 0 then (some (wrap64 (x11), wrap64 (x1 + x9), 0)) else (some (0, 0, 1200))) else (none)) else (none)) else (none)) else (some (wrap64 (x11), wrap64 (x1 + x9), 0))))
def leb_Get.f (k : Nat) (a0 : ByteArray) (a1 : Int) (a2 : Int) : Option (Int × Int × Int) := (leb_parts.f k a0 a1 a2).bind fun bt102 => (if bt102.2 = 0 then (leb_Get.l0 k a0 a1 a2 bt102.1 0 bt102.1 0) else (some (0, 0, bt102.2)))
theorem leb_Get.mono_l : ∀ k, (∀ y0 y1 y2 y3 y4 y5 y6, LeO (leb_Get.l0 k y0 y1 y2 y3 y4 y5 y6) (leb_Get.l0 (k + 1) y0 y1 y2 y3 y4 y5 y6))
 | 0 => fun _ _ _ _ _ _ _ r h => by simp [leb_Get.l0] at h
 | k + 1 => by
  have ih0 := leb_Get.mono_l k
  ·intro y0 y1 y2 y3 y4 y5 y6
   unfold leb_Get.l0
   repeat' first
   | (with_reducible exact ih0 _ _ _ _ _ _ _)
   | (with_reducible exact leb_parts.mono _ _ _ _)
   | (with_reducible exact LeO.refl _)
   | (with_reducible exact LeO.none _)
   | (with_reducible refine LeO.ite ?_ ?_)
   | (with_reducible refine LeO.bind ?_ (fun _ => ?_))
   | exact ih0 _ _ _ _ _ _ _
   | exact leb_parts.mono _ _ _ _
   | exact LeO.none _
   | refine LeO.ite ?_ ?_
   | refine LeO.bind ?_ (fun _ => ?_)
theorem leb_Get.mono : ∀ a0 a1 a2 k, LeO (leb_Get.f k a0 a1 a2) (leb_Get.f (k + 1) a0 a1 a2) := by
 intro a0 a1 a2 k
 have ih0 := leb_Get.mono_l k
 unfold leb_Get.f
 repeat' first
   | (with_reducible exact ih0 _ _ _ _ _ _ _)
   | (with_reducible exact leb_parts.mono _ _ _ _)
   | (with_reducible exact LeO.refl _)
   | (with_reducible exact LeO.none _)
   | (with_reducible refine LeO.ite ?_ ?_)
   | (with_reducible refine LeO.bind ?_ (fun _ => ?_))
   | exact ih0 _ _ _ _ _ _ _
   | exact leb_parts.mono _ _ _ _
   | exact LeO.none _
   | refine LeO.ite ?_ ?_
   | refine LeO.bind ?_ (fun _ => ?_)
set_option maxHeartbeats 8000000 in
set_option maxRecDepth 100000 in
theorem leb_Get.calls (k : Nat) (a0 : ByteArray) (a1 : Int) (a2 : Int) (r1 : Int) (r2 : Int) (r3 : Int) (w : World) (h : leb_Get.f k a0 a1 a2 = some (r1, r2, r3)) :
  Calls Tryd.prog 34 #[.string a0, .int .i64 a1, .int .i64 a2] w fun e w' => e = .returned (.tuple #[.int .i64 r1, .int .i64 r2, .int .i64 r3]) ∧ Drawn0 w w' := by
 have H : ((leb_parts.f k a0 a1 a2).bind fun bt102 => (if bt102.2 = 0 then (leb_Get.l0 k a0 a1 a2 bt102.1 0 bt102.1 0) else (some (0, 0, bt102.2)))) = some (r1, r2, r3) := h
 clear h
 replace H := Option.bind_eq_some_iff.mp H
 obtain ⟨⟨t102, t103⟩, A40, H⟩ := H
 replace H : (if t103 = 0 then (leb_Get.l0 k a0 a1 a2 t102 0 t102 0) else (some (0, 0, t103))) = some (r1, r2, r3) := H
 have A4 := am A40
 clear A40
 by_cases c5 : t103 = 0
 ·rw [if_pos c5] at H
  have c5b0 : (t103 == 0) = true := beq_iff_eq.mpr c5
  have c5b1 : (t103 != 0) = false := bne_eq_false_iff_eq.mpr c5
  clear c5
  have H' := am H
  clear H
  go_enter Tryd.func34, Tryd.ntmps34
  go_wp2_with (first | ((with_reducible refine gate_callee (f := 56) rfl ?_); refine goesL_ (some 17) rfl rfl Tryd.func56 (by kernel_rfl) rfl #[.string a0, .int .i64 a1, .int .i64 a2] rfl (by (try simp only [List.map_toArray, List.map_cons, List.map_nil]); first | done | rfl | (simp only [List.length_drop, List.length_take]; rfl)) ?_; (with_reducible refine (leb_parts.calls k a0 a1 a2 t102 t103 _ A4.out).mono ?_); rintro e w' ⟨rfl, ⟨nd, rfl⟩⟩; refine ⟨_, rfl, ?_⟩))
  go_loopg [11, 24] k (fun kq v11 v24 w' => ∃ (x11_1 : Int) (x24_1 : Int), v11 = .int .u64 x11_1 ∧ v24 = .int .i64 x24_1 ∧ Aside0 (leb_Get.l0 kq a0 a1 a2 t102 x11_1 t102 x24_1 = some (r1, r2, r3)) ∧ Aside0 (kq ≤ k) ∧ Drawn0 w w')
  case atStart => exact ⟨(0), (0), (by first | rfl | (simp; done) | (simp [*]; done)), (by first | rfl | (simp; done) | (simp [*]; done)), H', ⟨Nat.le_refl _⟩, by repeat (first | exact Drawn0.refl _ | apply Drawn0.step)⟩
  case round =>
   clear H'
   try clear p2
   try clear c3
   try clear c5
   try clear c5b0
   try clear c5b1
   obtain ⟨x11_1, x24_1, rfl, rfl, HA, HK1, ⟨m1, rfl⟩⟩ := hrel
   cases gk with
   | zero => exact absurd HA.out (by simp [leb_Get.l0])
   | succ k1 =>
    have H := HA.out
    clear HA
    simp only [leb_Get.l0] at H
    by_cases c6 : x24_1 < t102
    ·rw [if_pos c6] at H
     have c6b0 : decide (x24_1 < t102) = true := decide_eq_true c6
     clear c6
     obtain ⟨ji7, hji7⟩ : ∃ j_ : Int, (wrap64 (a1 + x24_1)) = j_ := ⟨_, rfl⟩
     replace H : (if 0 ≤ (ji7) then (if (ji7) < (a0.size : Int) then (if 0 ≤ (wrap64 (7 * x24_1)) then (leb_Get.l0 k1 a0 a1 a2 t102 (Go.bits .or .u64 x11_1 (shl .u64 (IntKind.u64.wrap (Go.bits .and .u8 (bt a0 (ji7)) 127)) (wrap64 (7 * x24_1)))) t102 (wrap64 (x24_1 + 1))) else (none)) else (none)) else (none)) = some (r1, r2, r3) := by first | (rw [hji7] at H; exact H) | (simp only [hji7] at H ⊢; exact H)
     have hji7w : (IntKind.i64.wrap (a1 + x24_1)) = ji7 := (i64_w _).trans hji7
     by_cases c8 : 0 ≤ (ji7)
     ·rw [if_pos c8] at H
      have c8b0 : decide (0 ≤ (ji7)) = true := decide_eq_true c8
      clear c8
      by_cases c9 : (ji7) < (a0.size : Int)
      ·rw [if_pos c9] at H
       have c9b0 : decide ((ji7) < (a0.size : Int)) = true := decide_eq_true c9
       clear c9
       obtain ⟨ji11, hji11⟩ : ∃ j_ : Int, (wrap64 (7 * x24_1)) = j_ := ⟨_, rfl⟩
       replace H : (if 0 ≤ (ji11) then (leb_Get.l0 k1 a0 a1 a2 t102 (Go.bits .or .u64 x11_1 (shl .u64 (IntKind.u64.wrap (Go.bits .and .u8 (bt a0 (ji7)) 127)) (ji11))) t102 (wrap64 (x24_1 + 1))) else (none)) = some (r1, r2, r3) := by first | (rw [hji11] at H; exact H) | (simp only [hji11] at H ⊢; exact H)
       have hji11w : (IntKind.i64.wrap (7 * x24_1)) = ji11 := (i64_w _).trans hji11
       by_cases c12 : 0 ≤ (ji11)
       ·rw [if_pos c12] at H
        have c12b0 := eq_true c12
        have c12b1 : decide (0 ≤ (ji11)) = true := decide_eq_true c12
        clear c12
        obtain ⟨ji13, hji13⟩ : ∃ j_ : Int, (shl .u64 (IntKind.u64.wrap (Go.bits .and .u8 (bt a0 (ji7)) 127)) (ji11)) = j_ := ⟨_, rfl⟩
        replace H : (leb_Get.l0 k1 a0 a1 a2 t102 (Go.bits .or .u64 x11_1 (ji13)) t102 (wrap64 (x24_1 + 1))) = some (r1, r2, r3) := by first | (rw [hji13] at H; exact H) | (simp only [hji13] at H ⊢; exact H)
        have hji13_ : (IntKind.u64.wrap ((IntKind.u64.wrap (Go.bits .and .u8 (bt a0 (ji7)) 127)) * 2 ^ min (ji11).toNat 64)) = ji13 := hji13
        have hji13z : (ji11) ≤ 64 → (IntKind.u64.wrap ((IntKind.u64.wrap (Go.bits .and .u8 (bt a0 (ji7)) 127)) * 2 ^ (ji11).toNat)) = ji13 := shl_small hji13
        have H' := am H
        clear H
        have p10 : 0 ≤ ((ji7) : Int) := of_decide_eq_true (by first | (with_reducible assumption) | assumption)
        have q10 : (ji7) < (a0.size : Int) := of_decide_eq_true (by first | (with_reducible assumption) | assumption)
        have hx10 := bt_at a0 (ji7)
        replace p10 := eq_true p10
        replace q10 := eq_true q10
        go_wp2
        go_roundg k1
        case measure => have := HK1.out; omega
        case rel => exact ⟨(Go.bits .or .u64 x11_1 (ji13)), (wrap64 (x24_1 + 1)), (by first | rfl | (simp; done) | (simp only [← hji13] <;> (first | rfl | simp)) | (simp [*]; done)), (by first | rfl | (simp; done) | (simp [*]; done)), H', ⟨by have := HK1.out; omega⟩, by repeat (first | exact Drawn0.refl _ | apply Drawn0.step)⟩
       ·rw [if_neg c12] at H
        exact absurd H (by simp)
      ·rw [if_neg c9] at H
       exact absurd H (by simp)
     ·rw [if_neg c8] at H
      exact absurd H (by simp)
    ·rw [if_neg c6] at H
     have c6b0 : decide (x24_1 < t102) = false := decide_eq_false c6
     clear c6
     replace H := Option.bind_eq_some_iff.mp H
     obtain ⟨t104, A140, H⟩ := H
     replace H : (if t102 = t104 then (if 0 ≤ (wrap64 ((wrap64 (a1 + t102)) - 1)) then (if (wrap64 ((wrap64 (a1 + t102)) - 1)) < (a0.size : Int) then (if 0 ≤ (wrap64 (a2 - (wrap64 (7 * (wrap64 (t102 - 1)))))) then (if (shr .u8 (bt a0 (wrap64 ((wrap64 (a1 + t102)) - 1))) (wrap64 (a2 - (wrap64 (7 * (wrap64 (t102 - 1))))))) = 0 then (some (wrap64 (x11_1), wrap64 (a1 + t102), 0)) else (some (0, 0, 1200))) else (none)) else (none)) else (none)) else (some (wrap64 (x11_1), wrap64 (a1 + t102), 0))) = some (r1, r2, r3) := H
     have A14 := am A140
     clear A140
     by_cases c15 : t102 = t104
     ·rw [if_pos c15] at H
      have c15b0 : (t102 == t104) = true := beq_iff_eq.mpr c15
      have c15b1 : (t102 != t104) = false := bne_eq_false_iff_eq.mpr c15
      clear c15
      obtain ⟨ji16, hji16⟩ : ∃ j_ : Int, (wrap64 ((wrap64 (a1 + t102)) - 1)) = j_ := ⟨_, rfl⟩
      replace H : (if 0 ≤ (ji16) then (if (ji16) < (a0.size : Int) then (if 0 ≤ (wrap64 (a2 - (wrap64 (7 * (wrap64 (t102 - 1)))))) then (if (shr .u8 (bt a0 (ji16)) (wrap64 (a2 - (wrap64 (7 * (wrap64 (t102 - 1))))))) = 0 then (some (wrap64 (x11_1), wrap64 (a1 + t102), 0)) else (some (0, 0, 1200))) else (none)) else (none)) else (none)) = some (r1, r2, r3) := by first | (rw [hji16] at H; exact H) | (simp only [hji16] at H ⊢; exact H)
      (try rw [hji16] at A14)
      have hji16w : (IntKind.i64.wrap ((wrap64 (a1 + t102)) - 1)) = ji16 := (i64_w _).trans hji16
      by_cases c17 : 0 ≤ (ji16)
      ·rw [if_pos c17] at H
       have c17b0 : decide (0 ≤ (ji16)) = true := decide_eq_true c17
       clear c17
       by_cases c18 : (ji16) < (a0.size : Int)
       ·rw [if_pos c18] at H
        have c18b0 : decide ((ji16) < (a0.size : Int)) = true := decide_eq_true c18
        clear c18
        obtain ⟨ji20, hji20⟩ : ∃ j_ : Int, (wrap64 (a2 - (wrap64 (7 * (wrap64 (t102 - 1)))))) = j_ := ⟨_, rfl⟩
        replace H : (if 0 ≤ (ji20) then (if (shr .u8 (bt a0 (ji16)) (ji20)) = 0 then (some (wrap64 (x11_1), wrap64 (a1 + t102), 0)) else (some (0, 0, 1200))) else (none)) = some (r1, r2, r3) := by first | (rw [hji20] at H; exact H) | (simp only [hji20] at H ⊢; exact H)
        (try rw [hji20] at A14)
        have hji20w : (IntKind.i64.wrap (a2 - (wrap64 (7 * (wrap64 (t102 - 1)))))) = ji20 := (i64_w _).trans hji20
        by_cases c21 : 0 ≤ (ji20)
        ·rw [if_pos c21] at H
         have c21b0 := eq_true c21
         have c21b1 : decide (0 ≤ (ji20)) = true := decide_eq_true c21
         clear c21
         obtain ⟨ji22, hji22⟩ : ∃ j_ : Int, (shr .u8 (bt a0 (ji16)) (ji20)) = j_ := ⟨_, rfl⟩
         replace H : (if (ji22) = 0 then (some (wrap64 (x11_1), wrap64 (a1 + t102), 0)) else (some (0, 0, 1200))) = some (r1, r2, r3) := by first | (rw [hji22] at H; exact H) | (simp only [hji22] at H ⊢; exact H)
         (try rw [hji22] at A14)
         have hji22_ : ((bt a0 (ji16)) / 2 ^ min (ji20).toNat 8) = ji22 := hji22
         have hji22z : (ji20) ≤ 8 → ((bt a0 (ji16)) / 2 ^ (ji20).toNat) = ji22 := shr_small hji22
         by_cases c23 : (ji22) = 0
         ·rw [if_pos c23] at H
          have c23b0 : ((ji22) == 0) = true := beq_iff_eq.mpr c23
          have c23b1 : ((ji22) != 0) = false := bne_eq_false_iff_eq.mpr c23
          clear c23
          simp only [Option.some.injEq, Prod.mk.injEq] at H
          obtain ⟨rfl, rfl, rfl⟩ := H
          go_wp2_with (first | ((with_reducible refine gate_callee (f := 57) rfl ?_); refine goesL_ (some 42) rfl rfl Tryd.func57 (by kernel_rfl) rfl #[.int .i64 a2] rfl (by (try simp only [List.map_toArray, List.map_cons, List.map_nil]); first | done | rfl | (simp only [List.length_drop, List.length_take]; rfl)) ?_; (with_reducible refine (leb_most.calls a2 t104 _ A14.out).mono ?_); rintro e w' ⟨rfl, ⟨nd, rfl⟩⟩; refine ⟨_, rfl, ?_⟩; have p19 : 0 ≤ ((ji16) : Int) := of_decide_eq_true (by first | (with_reducible assumption) | assumption); have q19 : (ji16) < (a0.size : Int) := of_decide_eq_true (by first | (with_reducible assumption) | assumption); have hx19 := bt_at a0 (ji16); replace p19 := eq_true p19; replace q19 := eq_true q19))
          go_ret3
          exact ⟨by first | rfl | (simp; done) | (simp only [← hji16, ← hji20, ← hji22] <;> (first | rfl | simp)) | (simp [*]; done), by repeat (first | exact Drawn0.refl _ | apply Drawn0.step)⟩
         ·rw [if_neg c23] at H
          have c23b0 : ((ji22) == 0) = false := beq_eq_false_iff_ne.mpr c23
          have c23b1 : ((ji22) != 0) = true := bne_iff_ne.mpr c23
          simp only [Option.some.injEq, Prod.mk.injEq] at H
          obtain ⟨rfl, rfl, rfl⟩ := H
          go_wp2_with (first | ((with_reducible refine gate_callee (f := 57) rfl ?_); refine goesL_ (some 42) rfl rfl Tryd.func57 (by kernel_rfl) rfl #[.int .i64 a2] rfl (by (try simp only [List.map_toArray, List.map_cons, List.map_nil]); first | done | rfl | (simp only [List.length_drop, List.length_take]; rfl)) ?_; (with_reducible refine (leb_most.calls a2 t104 _ A14.out).mono ?_); rintro e w' ⟨rfl, ⟨nd, rfl⟩⟩; refine ⟨_, rfl, ?_⟩; have p19 : 0 ≤ ((ji16) : Int) := of_decide_eq_true (by first | (with_reducible assumption) | assumption); have q19 : (ji16) < (a0.size : Int) := of_decide_eq_true (by first | (with_reducible assumption) | assumption); have hx19 := bt_at a0 (ji16); replace p19 := eq_true p19; replace q19 := eq_true q19))
          go_ret3
          exact ⟨by first | rfl | (simp; done) | (simp only [← hji16, ← hji20, ← hji22] <;> (first | rfl | simp)) | (simp [*]; done), by repeat (first | exact Drawn0.refl _ | apply Drawn0.step)⟩
        ·rw [if_neg c21] at H
         exact absurd H (by simp)
       ·rw [if_neg c18] at H
        exact absurd H (by simp)
      ·rw [if_neg c17] at H
       exact absurd H (by simp)
     ·rw [if_neg c15] at H
      have c15b0 : (t102 == t104) = false := beq_eq_false_iff_ne.mpr c15
      have c15b1 : (t102 != t104) = true := bne_iff_ne.mpr c15
      simp only [Option.some.injEq, Prod.mk.injEq] at H
      obtain ⟨rfl, rfl, rfl⟩ := H
      go_wp2_with (first | ((with_reducible refine gate_callee (f := 57) rfl ?_); refine goesL_ (some 42) rfl rfl Tryd.func57 (by kernel_rfl) rfl #[.int .i64 a2] rfl (by (try simp only [List.map_toArray, List.map_cons, List.map_nil]); first | done | rfl | (simp only [List.length_drop, List.length_take]; rfl)) ?_; (with_reducible refine (leb_most.calls a2 t104 _ A14.out).mono ?_); rintro e w' ⟨rfl, ⟨nd, rfl⟩⟩; refine ⟨_, rfl, ?_⟩))
      go_ret3
      exact ⟨by first | rfl | (simp; done) | (simp [*]; done), by repeat (first | exact Drawn0.refl _ | apply Drawn0.step)⟩
 ·rw [if_neg c5] at H
  have c5b0 : (t103 == 0) = false := beq_eq_false_iff_ne.mpr c5
  have c5b1 : (t103 != 0) = true := bne_iff_ne.mpr c5
  simp only [Option.some.injEq, Prod.mk.injEq] at H
  obtain ⟨rfl, rfl, rfl⟩ := H
  go_enter Tryd.func34, Tryd.ntmps34
  go_wp2_with (first | ((with_reducible refine gate_callee (f := 56) rfl ?_); refine goesL_ (some 17) rfl rfl Tryd.func56 (by kernel_rfl) rfl #[.string a0, .int .i64 a1, .int .i64 a2] rfl (by (try simp only [List.map_toArray, List.map_cons, List.map_nil]); first | done | rfl | (simp only [List.length_drop, List.length_take]; rfl)) ?_; (with_reducible refine (leb_parts.calls k a0 a1 a2 t102 t103 _ A4.out).mono ?_); rintro e w' ⟨rfl, ⟨nd, rfl⟩⟩; refine ⟨_, rfl, ?_⟩))
  go_ret3
  exact ⟨by first | rfl | (simp; done) | (simp [*]; done), by repeat (first | exact Drawn0.refl _ | apply Drawn0.step)⟩
end Go.Proofs.YtkdoijfjceeblaaDoor.F
end
section
namespace Go.Proofs.YtkdoijfjceeblaaDoor.F
open Go.RowKit Go.Proofs.YtkdoijfjceeblaaDoorW.PrintWords Go.Proofs.YtkdoijfjceeblaaDoorW.PrintLast Go.Proofs.YtkdoijfjceeblaaDoorW.PrintMore
attribute [local go_sem] max2_int min2_int max_two min_two max_three min_three max_four min_four
set_option linter.unusedVariables false
set_option linter.unusedSimpArgs false
mutual
def leb_GetSigned.l0 : Nat → ByteArray → Int → Int → Int → Int → Int → Int → Option (Int × Int × Int)
 | 0, _, _, _, _, _, _, _ => none
 | k + 1, x0, x1, x2, x9, x11, x26, x27 => if x27 < x26 then (if 0 ≤ (wrap64 (x1 + x27)) then (if (wrap64 (x1 + x27)) < (x0.size : Int) then (if 0 ≤ (wrap64 (7 * x27)) then (leb_GetSigned.l0 k x0 x1 x2 x9 (Go.bits .or .i64 x11 (shl .i64 (wrap64 (Go.bits .and .u8 (bt x0 (wrap64 (x1 + x27))) 127)) (wrap64 (7 * x27)))) x26 (wrap64 (x27 + 1))) else (none)) else (none)) else (none)) else (if 0 ≤ (wrap64 ((wrap64 (x1 + x9)) - 1)) then (if (wrap64 ((wrap64 (x1 + x9)) - 1)) < (x0.size : Int) then (if (Go.bits .and .i64 (wrap64 (bt x0 (wrap64 ((wrap64 (x1 + x9)) - 1)))) 64) = 0 then (leb_GetSigned.j1 k x1 x2 x9 x11 (wrap64 (bt x0 (wrap64 ((wrap64 (x1 + x9)) - 1)))) false) else (leb_GetSigned.j1 k x1 x2 x9 x11 (wrap64 (bt x0 (wrap64 ((wrap64 (x1 + x9)) - 1)))) (decide ((wrap64 (7 * x9)) < 64)))) else (none)) else (none))
def leb_GetSigned.j1 : Nat → Int → Int → Int → Int → Int → Bool → Option (Int × Int × Int)
 | 0, _, _, _, _, _, _ => none
 | k + 1, x1, x2, x9, x11, x13, x57 => if x57 = true then (if 0 ≤ (wrap64 (7 * x9)) then (leb_GetSigned.j2 k x1 x2 x9 (Go.bits .or .i64 x11 (shl .i64 (-1) (wrap64 (7 * x9)))) x13) else (none)) else (leb_GetSigned.j2 k x1 x2 x9 x11 x13)
def leb_GetSigned.j2 : Nat → Int → Int → Int → Int → Int → Option (Int × Int × Int)
 | 0, _, _, _, _, _ => none
 | k + 1, x1, x2, x9, x11, x13 => (leb_most.f x2).bind fun t107 => (if x9 = t107 then (if 0 ≤ (wrap64 ((wrap64 (x2 - (wrap64 (7 * (wrap64 (x9 - 1)))))) - 1)) then (if (shr .i64 x13 (wrap64 ((wrap64 (x2 - (wrap64 (7 * (wrap64 (x9 - 1)))))) - 1))) = 0 then (some (x11, wrap64 (x1 + x9), 0)) else (if 0 ≤ (wrap64 (8 - (wrap64 (x2 - (wrap64 (7 * (wrap64 (x9 - 1)))))))) then (if (shr .i64 x13 (wrap64 ((wrap64 (x2 - (wrap64 (7 * (wrap64 (x9 - 1)))))) - 1))) = (wrap64 ((shl .i64 1 (wrap64 (8 - (wrap64 (x2 - (wrap64 (7 * (wrap64 (x9 - 1))))))))) - 1)) then (some (x11, wrap64 (x1 + x9), 0)) else (some (0, 0, 1200))) else (none))) else (none)) else (some (x11, wrap64 (x1 + x9), 0)))
end
def leb_GetSigned.f (k : Nat) (a0 : ByteArray) (a1 : Int) (a2 : Int) : Option (Int × Int × Int) := (leb_parts.f k a0 a1 a2).bind fun bt105 => (if bt105.2 = 0 then (leb_GetSigned.l0 k a0 a1 a2 bt105.1 0 bt105.1 0) else (some (0, 0, bt105.2)))
theorem leb_GetSigned.mono_l : ∀ k, (∀ y0 y1 y2 y3 y4 y5 y6, LeO (leb_GetSigned.l0 k y0 y1 y2 y3 y4 y5 y6) (leb_GetSigned.l0 (k + 1) y0 y1 y2 y3 y4 y5 y6)) ∧ (∀ y0 y1 y2 y3 y4 y5, LeO (leb_GetSigned.j1 k y0 y1 y2 y3 y4 y5) (leb_GetSigned.j1 (k + 1) y0 y1 y2 y3 y4 y5)) ∧ (∀ y0 y1 y2 y3 y4, LeO (leb_GetSigned.j2 k y0 y1 y2 y3 y4) (leb_GetSigned.j2 (k + 1) y0 y1 y2 y3 y4))
 | 0 => ⟨fun _ _ _ _ _ _ _ r h => by simp [leb_GetSigned.l0] at h, fun _ _ _ _ _ _ r h => by simp [leb_GetSigned.j1] at h, fun _ _ _ _ _ r h => by simp [leb_GetSigned.j2] at h⟩
 | k + 1 => by
  obtain ⟨ih0, ih1, ih2⟩ := leb_GetSigned.mono_l k
  refine ⟨?_, ?_, ?_⟩
  ·intro y0 y1 y2 y3 y4 y5 y6
   unfold leb_GetSigned.l0
   repeat' first
   | (with_reducible exact ih0 _ _ _ _ _ _ _)
   | (with_reducible exact ih1 _ _ _ _ _ _)
   | (with_reducible exact ih2 _ _ _ _ _)
   | (with_reducible exact leb_parts.mono _ _ _ _)
   | (with_reducible exact LeO.refl _)
   | (with_reducible exact LeO.none _)
   | (with_reducible refine LeO.ite ?_ ?_)
   | (with_reducible refine LeO.bind ?_ (fun _ => ?_))
   | exact ih0 _ _ _ _ _ _ _
   | exact ih1 _ _ _ _ _ _
   | exact ih2 _ _ _ _ _
   | exact leb_parts.mono _ _ _ _
   | exact LeO.none _
   | refine LeO.ite ?_ ?_
   | refine LeO.bind ?_ (fun _ => ?_)
  ·intro y0 y1 y2 y3 y4 y5
   unfold leb_GetSigned.j1
   repeat' first
   | (with_reducible exact ih0 _ _ _ _ _ _ _)
   | (with_reducible exact ih1 _ _ _ _ _ _)
   | (with_reducible exact ih2 _ _ _ _ _)
   | (with_reducible exact leb_parts.mono _ _ _ _)
   | (with_reducible exact LeO.refl _)
   | (with_reducible exact LeO.none _)
   | (with_reducible refine LeO.ite ?_ ?_)
   | (with_reducible refine LeO.bind ?_ (fun _ => ?_))
   | exact ih0 _ _ _ _ _ _ _
   | exact ih1 _ _ _ _ _ _
   | exact ih2 _ _ _ _ _
   | exact leb_parts.mono _ _ _ _
   | exact LeO.none _
   | refine LeO.ite ?_ ?_
   | refine LeO.bind ?_ (fun _ => ?_)
  ·intro y0 y1 y2 y3 y4
   unfold leb_GetSigned.j2
   repeat' first
   | (with_reducible exact ih0 _ _ _ _ _ _ _)
   | (with_reducible exact ih1 _ _ _ _ _ _)
   | (with_reducible exact ih2 _ _ _ _ _)
   | (with_reducible exact leb_parts.mono _ _ _ _)
   | (with_reducible exact LeO.refl _)
   | (with_reducible exact LeO.none _)
   | (with_reducible refine LeO.ite ?_ ?_)
   | (with_reducible refine LeO.bind ?_ (fun _ => ?_))
   | exact ih0 _ _ _ _ _ _ _
   | exact ih1 _ _ _ _ _ _
   | exact ih2 _ _ _ _ _
   | exact leb_parts.mono _ _ _ _
   | exact LeO.none _
   | refine LeO.ite ?_ ?_
   | refine LeO.bind ?_ (fun _ => ?_)
theorem leb_GetSigned.mono : ∀ a0 a1 a2 k, LeO (leb_GetSigned.f k a0 a1 a2) (leb_GetSigned.f (k + 1) a0 a1 a2) := by
 intro a0 a1 a2 k
 obtain ⟨ih0, ih1, ih2⟩ := leb_GetSigned.mono_l k
 unfold leb_GetSigned.f
 repeat' first
   | (with_reducible exact ih0 _ _ _ _ _ _ _)
   | (with_reducible exact ih1 _ _ _ _ _ _)
   | (with_reducible exact ih2 _ _ _ _ _)
   | (with_reducible exact leb_parts.mono _ _ _ _)
   | (with_reducible exact LeO.refl _)
   | (with_reducible exact LeO.none _)
   | (with_reducible refine LeO.ite ?_ ?_)
   | (with_reducible refine LeO.bind ?_ (fun _ => ?_))
   | exact ih0 _ _ _ _ _ _ _
   | exact ih1 _ _ _ _ _ _
   | exact ih2 _ _ _ _ _
   | exact leb_parts.mono _ _ _ _
   | exact LeO.none _
   | refine LeO.ite ?_ ?_
   | refine LeO.bind ?_ (fun _ => ?_)
set_option maxHeartbeats 8000000 in
set_option maxRecDepth 100000 in
theorem leb_GetSigned.calls (k : Nat) (a0 : ByteArray) (a1 : Int) (a2 : Int) (r1 : Int) (r2 : Int) (r3 : Int) (w : World) (h : leb_GetSigned.f k a0 a1 a2 = some (r1, r2, r3)) :
  Calls Tryd.prog 84 #[.string a0, .int .i64 a1, .int .i64 a2] w fun e w' => e = .returned (.tuple #[.int .i64 r1, .int .i64 r2, .int .i64 r3]) ∧ Drawn0 w w' := by
 have H : ((leb_parts.f k a0 a1 a2).bind fun bt105 => (if bt105.2 = 0 then (leb_GetSigned.l0 k a0 a1 a2 bt105.1 0 bt105.1 0) else (some (0, 0, bt105.2)))) = some (r1, r2, r3) := h
 clear h
 replace H := Option.bind_eq_some_iff.mp H
 obtain ⟨⟨t105, t106⟩, A40, H⟩ := H
 replace H : (if t106 = 0 then (leb_GetSigned.l0 k a0 a1 a2 t105 0 t105 0) else (some (0, 0, t106))) = some (r1, r2, r3) := H
 have A4 := am A40
 clear A40
 by_cases c5 : t106 = 0
 ·rw [if_pos c5] at H
  have c5b0 : (t106 == 0) = true := beq_iff_eq.mpr c5
  have c5b1 : (t106 != 0) = false := bne_eq_false_iff_eq.mpr c5
  clear c5
  have H' := am H
  clear H
  go_enter Tryd.func84, Tryd.ntmps84
  go_wp2_with (first | ((with_reducible refine gate_callee (f := 56) rfl ?_); refine goesL_ (some 20) rfl rfl Tryd.func56 (by kernel_rfl) rfl #[.string a0, .int .i64 a1, .int .i64 a2] rfl (by (try simp only [List.map_toArray, List.map_cons, List.map_nil]); first | done | rfl | (simp only [List.length_drop, List.length_take]; rfl)) ?_; (with_reducible refine (leb_parts.calls k a0 a1 a2 t105 t106 _ A4.out).mono ?_); rintro e w' ⟨rfl, ⟨nd, rfl⟩⟩; refine ⟨_, rfl, ?_⟩))
  go_loopg [11, 27] k (fun kq v11 v27 w' => ∃ (x11_1 : Int) (x27_1 : Int), v11 = .int .i64 x11_1 ∧ v27 = .int .i64 x27_1 ∧ Aside0 (leb_GetSigned.l0 kq a0 a1 a2 t105 x11_1 t105 x27_1 = some (r1, r2, r3)) ∧ Aside0 (kq ≤ k) ∧ Drawn0 w w')
  case atStart => exact ⟨(0), (0), (by first | rfl | (simp; done) | (simp [*]; done)), (by first | rfl | (simp; done) | (simp [*]; done)), H', ⟨Nat.le_refl _⟩, by repeat (first | exact Drawn0.refl _ | apply Drawn0.step)⟩
  case round =>
   clear H'
   try clear p2
   try clear c5
   try clear c5b0
   try clear c5b1
   obtain ⟨x11_1, x27_1, rfl, rfl, HA, HK1, ⟨m1, rfl⟩⟩ := hrel
   cases gk with
   | zero => exact absurd HA.out (by simp [leb_GetSigned.l0])
   | succ k1 =>
    have H := HA.out
    clear HA
    simp only [leb_GetSigned.l0] at H
    by_cases c6 : x27_1 < t105
    ·rw [if_pos c6] at H
     have c6b0 : decide (x27_1 < t105) = true := decide_eq_true c6
     clear c6
     obtain ⟨ji7, hji7⟩ : ∃ j_ : Int, (wrap64 (a1 + x27_1)) = j_ := ⟨_, rfl⟩
     replace H : (if 0 ≤ (ji7) then (if (ji7) < (a0.size : Int) then (if 0 ≤ (wrap64 (7 * x27_1)) then (leb_GetSigned.l0 k1 a0 a1 a2 t105 (Go.bits .or .i64 x11_1 (shl .i64 (wrap64 (Go.bits .and .u8 (bt a0 (ji7)) 127)) (wrap64 (7 * x27_1)))) t105 (wrap64 (x27_1 + 1))) else (none)) else (none)) else (none)) = some (r1, r2, r3) := by first | (rw [hji7] at H; exact H) | (simp only [hji7] at H ⊢; exact H)
     have hji7w : (IntKind.i64.wrap (a1 + x27_1)) = ji7 := (i64_w _).trans hji7
     by_cases c8 : 0 ≤ (ji7)
     ·rw [if_pos c8] at H
      have c8b0 : decide (0 ≤ (ji7)) = true := decide_eq_true c8
      clear c8
      by_cases c9 : (ji7) < (a0.size : Int)
      ·rw [if_pos c9] at H
       have c9b0 : decide ((ji7) < (a0.size : Int)) = true := decide_eq_true c9
       clear c9
       obtain ⟨ji11, hji11⟩ : ∃ j_ : Int, (wrap64 (7 * x27_1)) = j_ := ⟨_, rfl⟩
       replace H : (if 0 ≤ (ji11) then (leb_GetSigned.l0 k1 a0 a1 a2 t105 (Go.bits .or .i64 x11_1 (shl .i64 (wrap64 (Go.bits .and .u8 (bt a0 (ji7)) 127)) (ji11))) t105 (wrap64 (x27_1 + 1))) else (none)) = some (r1, r2, r3) := by first | (rw [hji11] at H; exact H) | (simp only [hji11] at H ⊢; exact H)
       have hji11w : (IntKind.i64.wrap (7 * x27_1)) = ji11 := (i64_w _).trans hji11
       by_cases c12 : 0 ≤ (ji11)
       ·rw [if_pos c12] at H
        have c12b0 := eq_true c12
        have c12b1 : decide (0 ≤ (ji11)) = true := decide_eq_true c12
        clear c12
        obtain ⟨ji13, hji13⟩ : ∃ j_ : Int, (shl .i64 (wrap64 (Go.bits .and .u8 (bt a0 (ji7)) 127)) (ji11)) = j_ := ⟨_, rfl⟩
        replace H : (leb_GetSigned.l0 k1 a0 a1 a2 t105 (Go.bits .or .i64 x11_1 (ji13)) t105 (wrap64 (x27_1 + 1))) = some (r1, r2, r3) := by first | (rw [hji13] at H; exact H) | (simp only [hji13] at H ⊢; exact H)
        have hji13_ : (IntKind.i64.wrap ((wrap64 (Go.bits .and .u8 (bt a0 (ji7)) 127)) * 2 ^ min (ji11).toNat 64)) = ji13 := hji13
        have hji13z : (ji11) ≤ 64 → (IntKind.i64.wrap ((wrap64 (Go.bits .and .u8 (bt a0 (ji7)) 127)) * 2 ^ (ji11).toNat)) = ji13 := shl_small hji13
        have hji13y : (wrap64 ((wrap64 (Go.bits .and .u8 (bt a0 (ji7)) 127)) * 2 ^ min (ji11).toNat 64)) = ji13 := (i64_w _).symm.trans hji13_
        have hji13x : (ji11) ≤ 64 → (wrap64 ((wrap64 (Go.bits .and .u8 (bt a0 (ji7)) 127)) * 2 ^ (ji11).toNat)) = ji13 := fun h_ => (i64_w _).symm.trans (hji13z h_)
        have H' := am H
        clear H
        have p10 : 0 ≤ ((ji7) : Int) := of_decide_eq_true (by first | (with_reducible assumption) | assumption)
        have q10 : (ji7) < (a0.size : Int) := of_decide_eq_true (by first | (with_reducible assumption) | assumption)
        have hx10 := bt_at a0 (ji7)
        replace p10 := eq_true p10
        replace q10 := eq_true q10
        go_wp2
        go_roundg k1
        case measure => have := HK1.out; omega
        case rel => exact ⟨(Go.bits .or .i64 x11_1 (ji13)), (wrap64 (x27_1 + 1)), (by first | rfl | (simp; done) | (simp only [← hji13] <;> (first | rfl | simp)) | (simp [*]; done)), (by first | rfl | (simp; done) | (simp [*]; done)), H', ⟨by have := HK1.out; omega⟩, by repeat (first | exact Drawn0.refl _ | apply Drawn0.step)⟩
       ·rw [if_neg c12] at H
        exact absurd H (by simp)
      ·rw [if_neg c9] at H
       exact absurd H (by simp)
     ·rw [if_neg c8] at H
      exact absurd H (by simp)
    ·rw [if_neg c6] at H
     have c6b0 : decide (x27_1 < t105) = false := decide_eq_false c6
     clear c6
     obtain ⟨ji14, hji14⟩ : ∃ j_ : Int, (wrap64 ((wrap64 (a1 + t105)) - 1)) = j_ := ⟨_, rfl⟩
     replace H : (if 0 ≤ (ji14) then (if (ji14) < (a0.size : Int) then (if (Go.bits .and .i64 (wrap64 (bt a0 (ji14))) 64) = 0 then (leb_GetSigned.j1 k1 a1 a2 t105 x11_1 (wrap64 (bt a0 (ji14))) false) else (leb_GetSigned.j1 k1 a1 a2 t105 x11_1 (wrap64 (bt a0 (ji14))) (decide ((wrap64 (7 * t105)) < 64)))) else (none)) else (none)) = some (r1, r2, r3) := by first | (rw [hji14] at H; exact H) | (simp only [hji14] at H ⊢; exact H)
     have hji14w : (IntKind.i64.wrap ((wrap64 (a1 + t105)) - 1)) = ji14 := (i64_w _).trans hji14
     by_cases c15 : 0 ≤ (ji14)
     ·rw [if_pos c15] at H
      have c15b0 : decide (0 ≤ (ji14)) = true := decide_eq_true c15
      clear c15
      by_cases c16 : (ji14) < (a0.size : Int)
      ·rw [if_pos c16] at H
       have c16b0 : decide ((ji14) < (a0.size : Int)) = true := decide_eq_true c16
       clear c16
       have HC18 := am H
       clear H
       have p17 : 0 ≤ ((ji14) : Int) := of_decide_eq_true (by first | (with_reducible assumption) | assumption)
       have q17 : (ji14) < (a0.size : Int) := of_decide_eq_true (by first | (with_reducible assumption) | assumption)
       have hx17 := bt_at a0 (ji14)
       replace p17 := eq_true p17
       replace q17 := eq_true q17
       go_upto_region 11 with (fail)
       go_cut [57] (fun v57 wc => ∃ (kq : Nat) (x57_17 : Bool), v57 = .bool x57_17 ∧ Aside0 (leb_GetSigned.j1 kq a1 a2 t105 x11_1 (wrap64 (bt a0 (ji14))) x57_17 = some (r1, r2, r3)) ∧ Aside0 (kq ≤ k1) ∧ Drawn0 w wc)
       case first =>
        have H := HC18.out
        clear HC18
        by_cases c19 : (Go.bits .and .i64 (wrap64 (bt a0 (ji14))) 64) = 0
        ·rw [if_pos c19] at H
         have c19b0 : ((Go.bits .and .i64 (wrap64 (bt a0 (ji14))) 64) == 0) = true := beq_iff_eq.mpr c19
         have c19b1 : ((Go.bits .and .i64 (wrap64 (bt a0 (ji14))) 64) != 0) = false := bne_eq_false_iff_eq.mpr c19
         clear c19
         (first | rw [c19b0] | (simp only [i64_w, i32_w]; rw [c19b0]) | skip)
         have H' := am H
         clear H
         go_wp2
         go_meet
         case rel => exact ⟨_, (false), (by first | rfl | (simp; done) | (simp [*]; done)), H', ⟨by have := HK1.out; first | omega | exact Nat.le_refl _⟩, by repeat (first | exact Drawn0.refl _ | apply Drawn0.step)⟩
        ·rw [if_neg c19] at H
         have c19b0 : ((Go.bits .and .i64 (wrap64 (bt a0 (ji14))) 64) == 0) = false := beq_eq_false_iff_ne.mpr c19
         have c19b1 : ((Go.bits .and .i64 (wrap64 (bt a0 (ji14))) 64) != 0) = true := bne_iff_ne.mpr c19
         (first | rw [c19b0] | (simp only [i64_w, i32_w]; rw [c19b0]) | skip)
         have H' := am H
         clear H
         go_wp2
         go_meet
         case rel => exact ⟨_, (decide ((wrap64 (7 * t105)) < 64)), (by first | rfl | (simp; done) | (simp [*]; done)), H', ⟨by have := HK1.out; first | omega | exact Nat.le_refl _⟩, by repeat (first | exact Drawn0.refl _ | apply Drawn0.step)⟩
       case rest =>
        clear HC18
        try clear c1
        try clear p1
        try clear q1
        try clear hx1
        try clear p2
        try clear c5
        try clear c5b0
        try clear c5b1
        try clear c6
        try clear c6b0
        try clear p6
        try clear c8
        try clear c8b0
        try clear c9
        try clear c9b0
        try clear p10
        try clear q10
        try clear hx10
        try clear c12
        try clear c12b0
        try clear c12b1
        try clear c15
        try clear c15b0
        try clear c16
        try clear c16b0
        try clear p17
        try clear q17
        try clear hx17
        try clear c19
        try clear c19b0
        try clear c19b1
        try clear p10
        try clear p17
        try clear p2
        try clear q10
        try clear q17
        obtain ⟨kq, x57_17, rfl, HA, HJ17, ⟨mc17, rfl⟩⟩ := hcut
        cases kq with
        | zero => exact absurd HA.out (by simp [leb_GetSigned.j1])
        | succ kj17 =>
         have H := HA.out
         clear HA
         simp only [leb_GetSigned.j1] at H
         have HC20 := am H
         clear H
         go_upto_if 57 with (fail)
         go_cut [11] (fun v11 wc => ∃ (kq : Nat) (x11_19 : Int), v11 = .int .i64 x11_19 ∧ Aside0 (leb_GetSigned.j2 kq a1 a2 t105 x11_19 (wrap64 (bt a0 (ji14))) = some (r1, r2, r3)) ∧ Aside0 (kq ≤ kj17) ∧ Drawn0 w wc)
         case first =>
          have H := HC20.out
          clear HC20
          by_cases c21 : x57_17 = true
          ·subst c21
           have H1 : (if 0 ≤ (wrap64 (7 * t105)) then (leb_GetSigned.j2 kj17 a1 a2 t105 (Go.bits .or .i64 x11_1 (shl .i64 (-1) (wrap64 (7 * t105)))) (wrap64 (bt a0 (ji14)))) else (none)) = some (r1, r2, r3) := by rw [if_pos rfl] at H; exact H
           clear H
           have H := H1
           clear H1
           obtain ⟨ji22, hji22⟩ : ∃ j_ : Int, (wrap64 (7 * t105)) = j_ := ⟨_, rfl⟩
           replace H : (if 0 ≤ (ji22) then (leb_GetSigned.j2 kj17 a1 a2 t105 (Go.bits .or .i64 x11_1 (shl .i64 (-1) (ji22))) (wrap64 (bt a0 (ji14)))) else (none)) = some (r1, r2, r3) := by first | (rw [hji22] at H; exact H) | (simp only [hji22] at H ⊢; exact H)
           have hji22w : (IntKind.i64.wrap (7 * t105)) = ji22 := (i64_w _).trans hji22
           by_cases c23 : 0 ≤ (ji22)
           ·rw [if_pos c23] at H
            have c23b0 := eq_true c23
            have c23b1 : decide (0 ≤ (ji22)) = true := decide_eq_true c23
            clear c23
            obtain ⟨ji24, hji24⟩ : ∃ j_ : Int, (shl .i64 (-1) (ji22)) = j_ := ⟨_, rfl⟩
            replace H : (leb_GetSigned.j2 kj17 a1 a2 t105 (Go.bits .or .i64 x11_1 (ji24)) (wrap64 (bt a0 (ji14)))) = some (r1, r2, r3) := by first | (rw [hji24] at H; exact H) | (simp only [hji24] at H ⊢; exact H)
            have hji24_ : (IntKind.i64.wrap ((-1) * 2 ^ min (ji22).toNat 64)) = ji24 := hji24
            have hji24z : (ji22) ≤ 64 → (IntKind.i64.wrap ((-1) * 2 ^ (ji22).toNat)) = ji24 := shl_small hji24
            have hji24n : (IntKind.i64.wrap (-2 ^ min (ji22).toNat 64)) = ji24 := by have h_ := hji24_; rw [Int.neg_one_mul] at h_; exact h_
            have hji24m : (ji22) ≤ 64 → (IntKind.i64.wrap (-2 ^ (ji22).toNat)) = ji24 := fun hle_ => by have h_ := hji24z hle_; rw [Int.neg_one_mul] at h_; exact h_
            have hji24k : (wrap64 (-2 ^ min (ji22).toNat 64)) = ji24 := (i64_w _).symm.trans hji24n
            have hji24j : (ji22) ≤ 64 → (wrap64 (-2 ^ (ji22).toNat)) = ji24 := fun h_ => (i64_w _).symm.trans (hji24m h_)
            have hji24y : (wrap64 ((-1) * 2 ^ min (ji22).toNat 64)) = ji24 := (i64_w _).symm.trans hji24_
            have hji24x : (ji22) ≤ 64 → (wrap64 ((-1) * 2 ^ (ji22).toNat)) = ji24 := fun h_ => (i64_w _).symm.trans (hji24z h_)
            have H' := am H
            clear H
            go_wp2
            go_meet
            case rel => exact ⟨_, (Go.bits .or .i64 x11_1 (ji24)), (by first | rfl | (simp; done) | (simp only [← hji24] <;> (first | rfl | simp)) | (simp [*]; done)), H', ⟨by have := HK1.out; have := HJ17.out; first | omega | exact Nat.le_refl _⟩, by repeat (first | exact Drawn0.refl _ | apply Drawn0.step)⟩
           ·rw [if_neg c23] at H
            exact absurd H (by simp)
          ·replace c21 := Bool.eq_false_iff.mpr c21
           subst c21
           have H1 : (leb_GetSigned.j2 kj17 a1 a2 t105 x11_1 (wrap64 (bt a0 (ji14)))) = some (r1, r2, r3) := by rw [if_neg (show ¬ (false = true) by decide)] at H; exact H
           clear H
           have H := H1
           clear H1
           have H' := am H
           clear H
           go_wp2
           go_meet
           case rel => exact ⟨_, (x11_1), (by first | rfl | (simp; done) | (simp [*]; done)), H', ⟨by have := HK1.out; have := HJ17.out; first | omega | exact Nat.le_refl _⟩, by repeat (first | exact Drawn0.refl _ | apply Drawn0.step)⟩
         case rest =>
          clear HC20
          try clear c1
          try clear p1
          try clear q1
          try clear hx1
          try clear c2
          try clear p2
          try clear c5
          try clear c5b0
          try clear c5b1
          try clear c6
          try clear c6b0
          try clear p6
          try clear c8
          try clear c8b0
          try clear c9
          try clear c9b0
          try clear p10
          try clear q10
          try clear hx10
          try clear c12
          try clear c12b0
          try clear c12b1
          try clear c15
          try clear c15b0
          try clear c16
          try clear c16b0
          try clear c17
          try clear p17
          try clear q17
          try clear hx17
          try clear c19
          try clear c19b0
          try clear c19b1
          try clear c21
          try clear c23
          try clear c23b0
          try clear c23b1
          try clear p1
          try clear p10
          try clear p17
          try clear p2
          try clear p6
          try clear q1
          try clear q10
          try clear q17
          obtain ⟨kq, x11_19, rfl, HA, HJ19, ⟨mc19, rfl⟩⟩ := hcut
          cases kq with
          | zero => exact absurd HA.out (by simp [leb_GetSigned.j2])
          | succ kj19 =>
           have H := HA.out
           clear HA
           simp only [leb_GetSigned.j2] at H
           replace H := Option.bind_eq_some_iff.mp H
           obtain ⟨t107, A250, H⟩ := H
           replace H : (if t105 = t107 then (if 0 ≤ (wrap64 ((wrap64 (a2 - (wrap64 (7 * (wrap64 (t105 - 1)))))) - 1)) then (if (shr .i64 (wrap64 (bt a0 (ji14))) (wrap64 ((wrap64 (a2 - (wrap64 (7 * (wrap64 (t105 - 1)))))) - 1))) = 0 then (some (x11_19, wrap64 (a1 + t105), 0)) else (if 0 ≤ (wrap64 (8 - (wrap64 (a2 - (wrap64 (7 * (wrap64 (t105 - 1)))))))) then (if (shr .i64 (wrap64 (bt a0 (ji14))) (wrap64 ((wrap64 (a2 - (wrap64 (7 * (wrap64 (t105 - 1)))))) - 1))) = (wrap64 ((shl .i64 1 (wrap64 (8 - (wrap64 (a2 - (wrap64 (7 * (wrap64 (t105 - 1))))))))) - 1)) then (some (x11_19, wrap64 (a1 + t105), 0)) else (some (0, 0, 1200))) else (none))) else (none)) else (some (x11_19, wrap64 (a1 + t105), 0))) = some (r1, r2, r3) := H
           have A25 := am A250
           clear A250
           by_cases c26 : t105 = t107
           ·rw [if_pos c26] at H
            have c26b0 : (t105 == t107) = true := beq_iff_eq.mpr c26
            have c26b1 : (t105 != t107) = false := bne_eq_false_iff_eq.mpr c26
            clear c26
            obtain ⟨ji27, hji27⟩ : ∃ j_ : Int, (wrap64 ((wrap64 (a2 - (wrap64 (7 * (wrap64 (t105 - 1)))))) - 1)) = j_ := ⟨_, rfl⟩
            replace H : (if 0 ≤ (ji27) then (if (shr .i64 (wrap64 (bt a0 (ji14))) (ji27)) = 0 then (some (x11_19, wrap64 (a1 + t105), 0)) else (if 0 ≤ (wrap64 (8 - (wrap64 (a2 - (wrap64 (7 * (wrap64 (t105 - 1)))))))) then (if (shr .i64 (wrap64 (bt a0 (ji14))) (ji27)) = (wrap64 ((shl .i64 1 (wrap64 (8 - (wrap64 (a2 - (wrap64 (7 * (wrap64 (t105 - 1))))))))) - 1)) then (some (x11_19, wrap64 (a1 + t105), 0)) else (some (0, 0, 1200))) else (none))) else (none)) = some (r1, r2, r3) := by first | (rw [hji27] at H; exact H) | (simp only [hji27] at H ⊢; exact H)
            (try rw [hji27] at A25)
            have hji27w : (IntKind.i64.wrap ((wrap64 (a2 - (wrap64 (7 * (wrap64 (t105 - 1)))))) - 1)) = ji27 := (i64_w _).trans hji27
            by_cases c28 : 0 ≤ (ji27)
            ·rw [if_pos c28] at H
             have c28b0 := eq_true c28
             have c28b1 : decide (0 ≤ (ji27)) = true := decide_eq_true c28
             clear c28
             obtain ⟨ji29, hji29⟩ : ∃ j_ : Int, (shr .i64 (wrap64 (bt a0 (ji14))) (ji27)) = j_ := ⟨_, rfl⟩
             replace H : (if (ji29) = 0 then (some (x11_19, wrap64 (a1 + t105), 0)) else (if 0 ≤ (wrap64 (8 - (wrap64 (a2 - (wrap64 (7 * (wrap64 (t105 - 1)))))))) then (if (ji29) = (wrap64 ((shl .i64 1 (wrap64 (8 - (wrap64 (a2 - (wrap64 (7 * (wrap64 (t105 - 1))))))))) - 1)) then (some (x11_19, wrap64 (a1 + t105), 0)) else (some (0, 0, 1200))) else (none))) = some (r1, r2, r3) := by first | (rw [hji29] at H; exact H) | (simp only [hji29] at H ⊢; exact H)
             (try rw [hji29] at A25)
             have hji29_ : ((wrap64 (bt a0 (ji14))) / 2 ^ min (ji27).toNat 64) = ji29 := hji29
             have hji29z : (ji27) ≤ 64 → ((wrap64 (bt a0 (ji14))) / 2 ^ (ji27).toNat) = ji29 := shr_small hji29
             by_cases c30 : (ji29) = 0
             ·rw [if_pos c30] at H
              have c30b0 : ((ji29) == 0) = true := beq_iff_eq.mpr c30
              have c30b1 : ((ji29) != 0) = false := bne_eq_false_iff_eq.mpr c30
              clear c30
              simp only [Option.some.injEq, Prod.mk.injEq] at H
              obtain ⟨rfl, rfl, rfl⟩ := H
              go_wp2_with (first | ((with_reducible refine gate_callee (f := 57) rfl ?_); refine goesL_ (some 65) rfl rfl Tryd.func57 (by kernel_rfl) rfl #[.int .i64 a2] rfl (by (try simp only [List.map_toArray, List.map_cons, List.map_nil]); first | done | rfl | (simp only [List.length_drop, List.length_take]; rfl)) ?_; (with_reducible refine (leb_most.calls a2 t107 _ A25.out).mono ?_); rintro e w' ⟨rfl, ⟨nd, rfl⟩⟩; refine ⟨_, rfl, ?_⟩))
              go_ret3
              exact ⟨by first | rfl | (simp; done) | (simp only [← hji14, ← hji27, ← hji29] <;> (first | rfl | simp)) | (simp [*]; done), by repeat (first | exact Drawn0.refl _ | apply Drawn0.step)⟩
             ·rw [if_neg c30] at H
              have c30b0 : ((ji29) == 0) = false := beq_eq_false_iff_ne.mpr c30
              have c30b1 : ((ji29) != 0) = true := bne_iff_ne.mpr c30
              obtain ⟨ji31, hji31⟩ : ∃ j_ : Int, (wrap64 (8 - (wrap64 (a2 - (wrap64 (7 * (wrap64 (t105 - 1)))))))) = j_ := ⟨_, rfl⟩
              replace H : (if 0 ≤ (ji31) then (if (ji29) = (wrap64 ((shl .i64 1 (ji31)) - 1)) then (some (x11_19, wrap64 (a1 + t105), 0)) else (some (0, 0, 1200))) else (none)) = some (r1, r2, r3) := by first | (rw [hji31] at H; exact H) | (simp only [hji31] at H ⊢; exact H)
              (try rw [hji31] at A25)
              have hji31w : (IntKind.i64.wrap (8 - (wrap64 (a2 - (wrap64 (7 * (wrap64 (t105 - 1)))))))) = ji31 := (i64_w _).trans hji31
              by_cases c32 : 0 ≤ (ji31)
              ·rw [if_pos c32] at H
               have c32b0 := eq_true c32
               have c32b1 : decide (0 ≤ (ji31)) = true := decide_eq_true c32
               clear c32
               obtain ⟨ji33, hji33⟩ : ∃ j_ : Int, (shl .i64 1 (ji31)) = j_ := ⟨_, rfl⟩
               replace H : (if (ji29) = (wrap64 ((ji33) - 1)) then (some (x11_19, wrap64 (a1 + t105), 0)) else (some (0, 0, 1200))) = some (r1, r2, r3) := by first | (rw [hji33] at H; exact H) | (simp only [hji33] at H ⊢; exact H)
               (try rw [hji33] at A25)
               have hji33_ : (IntKind.i64.wrap (1 * 2 ^ min (ji31).toNat 64)) = ji33 := hji33
               have hji33z : (ji31) ≤ 64 → (IntKind.i64.wrap (1 * 2 ^ (ji31).toNat)) = ji33 := shl_small hji33
               have hji33u : (IntKind.i64.wrap (2 ^ min (ji31).toNat 64)) = ji33 := by have h_ := hji33_; rw [Int.one_mul] at h_; exact h_
               have hji33v : (ji31) ≤ 64 → (IntKind.i64.wrap (2 ^ (ji31).toNat)) = ji33 := fun hle_ => by have h_ := hji33z hle_; rw [Int.one_mul] at h_; exact h_
               have hji33y : (wrap64 (1 * 2 ^ min (ji31).toNat 64)) = ji33 := (i64_w _).symm.trans hji33_
               have hji33x : (ji31) ≤ 64 → (wrap64 (1 * 2 ^ (ji31).toNat)) = ji33 := fun h_ => (i64_w _).symm.trans (hji33z h_)
               by_cases c34 : (ji29) = (wrap64 ((ji33) - 1))
               ·rw [if_pos c34] at H
                have c34b0 : ((ji29) == (wrap64 ((ji33) - 1))) = true := beq_iff_eq.mpr c34
                have c34b1 : ((ji29) != (wrap64 ((ji33) - 1))) = false := bne_eq_false_iff_eq.mpr c34
                clear c34
                simp only [Option.some.injEq, Prod.mk.injEq] at H
                obtain ⟨rfl, rfl, rfl⟩ := H
                go_wp2_with (first | ((with_reducible refine gate_callee (f := 57) rfl ?_); refine goesL_ (some 65) rfl rfl Tryd.func57 (by kernel_rfl) rfl #[.int .i64 a2] rfl (by (try simp only [List.map_toArray, List.map_cons, List.map_nil]); first | done | rfl | (simp only [List.length_drop, List.length_take]; rfl)) ?_; (with_reducible refine (leb_most.calls a2 t107 _ A25.out).mono ?_); rintro e w' ⟨rfl, ⟨nd, rfl⟩⟩; refine ⟨_, rfl, ?_⟩))
                go_ret3
                exact ⟨by first | rfl | (simp; done) | (simp only [← hji14, ← hji27, ← hji29, ← hji31, ← hji33] <;> (first | rfl | simp)) | (simp [*]; done), by repeat (first | exact Drawn0.refl _ | apply Drawn0.step)⟩
               ·rw [if_neg c34] at H
                have c34b0 : ((ji29) == (wrap64 ((ji33) - 1))) = false := beq_eq_false_iff_ne.mpr c34
                have c34b1 : ((ji29) != (wrap64 ((ji33) - 1))) = true := bne_iff_ne.mpr c34
                simp only [Option.some.injEq, Prod.mk.injEq] at H
                obtain ⟨rfl, rfl, rfl⟩ := H
                go_wp2_with (first | ((with_reducible refine gate_callee (f := 57) rfl ?_); refine goesL_ (some 65) rfl rfl Tryd.func57 (by kernel_rfl) rfl #[.int .i64 a2] rfl (by (try simp only [List.map_toArray, List.map_cons, List.map_nil]); first | done | rfl | (simp only [List.length_drop, List.length_take]; rfl)) ?_; (with_reducible refine (leb_most.calls a2 t107 _ A25.out).mono ?_); rintro e w' ⟨rfl, ⟨nd, rfl⟩⟩; refine ⟨_, rfl, ?_⟩))
                go_ret3
                exact ⟨by first | rfl | (simp; done) | (simp only [← hji14, ← hji27, ← hji29, ← hji31, ← hji33] <;> (first | rfl | simp)) | (simp [*]; done), by repeat (first | exact Drawn0.refl _ | apply Drawn0.step)⟩
              ·rw [if_neg c32] at H
               exact absurd H (by simp)
            ·rw [if_neg c28] at H
             exact absurd H (by simp)
           ·rw [if_neg c26] at H
            have c26b0 : (t105 == t107) = false := beq_eq_false_iff_ne.mpr c26
            have c26b1 : (t105 != t107) = true := bne_iff_ne.mpr c26
            simp only [Option.some.injEq, Prod.mk.injEq] at H
            obtain ⟨rfl, rfl, rfl⟩ := H
            go_wp2_with (first | ((with_reducible refine gate_callee (f := 57) rfl ?_); refine goesL_ (some 65) rfl rfl Tryd.func57 (by kernel_rfl) rfl #[.int .i64 a2] rfl (by (try simp only [List.map_toArray, List.map_cons, List.map_nil]); first | done | rfl | (simp only [List.length_drop, List.length_take]; rfl)) ?_; (with_reducible refine (leb_most.calls a2 t107 _ A25.out).mono ?_); rintro e w' ⟨rfl, ⟨nd, rfl⟩⟩; refine ⟨_, rfl, ?_⟩))
            go_ret3
            exact ⟨by first | rfl | (simp; done) | (simp only [← hji14] <;> (first | rfl | simp)) | (simp [*]; done), by repeat (first | exact Drawn0.refl _ | apply Drawn0.step)⟩
      ·rw [if_neg c16] at H
       exact absurd H (by simp)
     ·rw [if_neg c15] at H
      exact absurd H (by simp)
 ·rw [if_neg c5] at H
  have c5b0 : (t106 == 0) = false := beq_eq_false_iff_ne.mpr c5
  have c5b1 : (t106 != 0) = true := bne_iff_ne.mpr c5
  simp only [Option.some.injEq, Prod.mk.injEq] at H
  obtain ⟨rfl, rfl, rfl⟩ := H
  go_enter Tryd.func84, Tryd.ntmps84
  go_wp2_with (first | ((with_reducible refine gate_callee (f := 56) rfl ?_); refine goesL_ (some 20) rfl rfl Tryd.func56 (by kernel_rfl) rfl #[.string a0, .int .i64 a1, .int .i64 a2] rfl (by (try simp only [List.map_toArray, List.map_cons, List.map_nil]); first | done | rfl | (simp only [List.length_drop, List.length_take]; rfl)) ?_; (with_reducible refine (leb_parts.calls k a0 a1 a2 t105 t106 _ A4.out).mono ?_); rintro e w' ⟨rfl, ⟨nd, rfl⟩⟩; refine ⟨_, rfl, ?_⟩))
  go_ret3
  exact ⟨by first | rfl | (simp; done) | (simp [*]; done), by repeat (first | exact Drawn0.refl _ | apply Drawn0.step)⟩
def bits_Low.f (a0 : Int) : Option (Int) := some ((a0) % 4294967296)
set_option maxHeartbeats 8000000 in
set_option maxRecDepth 100000 in
theorem bits_Low.calls (a0 : Int) (r : Int) (w : World) (h : bits_Low.f a0 = some r) :
  Calls Tryd.prog 85 #[.int .i64 a0] w fun e w' => e = .returned (.int .i64 r) ∧ Drawn0 w w' := by
 have H : (some ((a0) % 4294967296)) = some r := h
 clear h
 obtain rfl := Option.some.inj H
 go_enter Tryd.func85, Tryd.ntmps85
 go_wp2
 go_ret
 exact ⟨by first | rfl | (simp; done) | (simp [*]; done), by repeat (first | exact Drawn0.refl _ | apply Drawn0.step)⟩
def instr_Type.f (a0 : Int) : Option (Bool) := if a0 = 64 then (some true) else (if a0 ≥ 124 then (some (decide (a0 ≤ 127))) else (some false))
set_option maxHeartbeats 8000000 in
set_option maxRecDepth 100000 in
theorem instr_Type.calls (a0 : Int) (r : Bool) (w : World) (h : instr_Type.f a0 = some r) :
  Calls Tryd.prog 71 #[.int .i64 a0] w fun e w' => e = .returned (.bool r) ∧ Drawn0 w w' := by
 have H : (if a0 = 64 then (some true) else (if a0 ≥ 124 then (some (decide (a0 ≤ 127))) else (some false))) = some r := h
 clear h
 by_cases c2 : a0 = 64
 ·rw [if_pos c2] at H
  have c2b0 : (a0 == 64) = true := beq_iff_eq.mpr c2
  have c2b1 : (a0 != 64) = false := bne_eq_false_iff_eq.mpr c2
  clear c2
  obtain rfl := Option.some.inj H
  go_enter Tryd.func71, Tryd.ntmps71
  go_wp2
  go_ret
  exact ⟨by first | rfl | (simp; done) | (simp [*]; done), by repeat (first | exact Drawn0.refl _ | apply Drawn0.step)⟩
 ·rw [if_neg c2] at H
  have c2b0 : (a0 == 64) = false := beq_eq_false_iff_ne.mpr c2
  have c2b1 : (a0 != 64) = true := bne_iff_ne.mpr c2
  by_cases c3 : a0 ≥ 124
  ·rw [if_pos c3] at H
   have c3b0 : decide (124 ≤ a0) = true := decide_eq_true c3
   clear c3
   obtain rfl := Option.some.inj H
   go_enter Tryd.func71, Tryd.ntmps71
   go_wp2
   go_ret
   exact ⟨by first | rfl | (simp; done) | (simp [*]; done), by repeat (first | exact Drawn0.refl _ | apply Drawn0.step)⟩
  ·rw [if_neg c3] at H
   have c3b0 : decide (124 ≤ a0) = false := decide_eq_false c3
   clear c3
   obtain rfl := Option.some.inj H
   go_enter Tryd.func71, Tryd.ntmps71
   go_wp2
   go_ret
   exact ⟨by first | rfl | (simp; done) | (simp [*]; done), by repeat (first | exact Drawn0.refl _ | apply Drawn0.step)⟩
def instr_wide.f (a0 : Int) : Option (Bool) := if a0 = 66 then (some true) else (some (a0 == 68))
set_option maxHeartbeats 8000000 in
set_option maxRecDepth 100000 in
theorem instr_wide.calls (a0 : Int) (r : Bool) (w : World) (h : instr_wide.f a0 = some r) :
  Calls Tryd.prog 82 #[.int .i64 a0] w fun e w' => e = .returned (.bool r) ∧ Drawn0 w w' := by
 have H : (if a0 = 66 then (some true) else (some (a0 == 68))) = some r := h
 clear h
 by_cases c2 : a0 = 66
 ·rw [if_pos c2] at H
  have c2b0 : (a0 == 66) = true := beq_iff_eq.mpr c2
  have c2b1 : (a0 != 66) = false := bne_eq_false_iff_eq.mpr c2
  clear c2
  obtain rfl := Option.some.inj H
  go_enter Tryd.func82, Tryd.ntmps82
  go_wp2
  go_ret
  exact ⟨by first | rfl | (simp; done) | (simp [*]; done), by repeat (first | exact Drawn0.refl _ | apply Drawn0.step)⟩
 ·rw [if_neg c2] at H
  have c2b0 : (a0 == 66) = false := beq_eq_false_iff_ne.mpr c2
  have c2b1 : (a0 != 66) = true := bne_iff_ne.mpr c2
  obtain rfl := Option.some.inj H
  go_enter Tryd.func82, Tryd.ntmps82
  go_wp2
  go_ret
  exact ⟨by first | rfl | (simp; done) | (simp [*]; done), by repeat (first | exact Drawn0.refl _ | apply Drawn0.step)⟩
end Go.Proofs.YtkdoijfjceeblaaDoor.F
end
section
namespace Go.Proofs.YtkdoijfjceeblaaDoor.F
open Go.RowKit Go.Proofs.YtkdoijfjceeblaaDoorW.PrintWords Go.Proofs.YtkdoijfjceeblaaDoorW.PrintLast Go.Proofs.YtkdoijfjceeblaaDoorW.PrintMore
attribute [local go_sem] max2_int min2_int max_two min_two max_three min_three max_four min_four
set_option linter.unusedVariables false
set_option linter.unusedSimpArgs false
mutual
def instr_of.j0 : Nat → Int → Bool → Option (Int)
 | 0, _, _ => none
 | k + 1, x0, x3 => if x3 = true then (some 1) else (if x0 = 2 then (instr_of.j1 k x0 true) else (if x0 = 3 then (instr_of.j1 k x0 true) else (instr_of.j1 k x0 (x0 == 4))))
def instr_of.j1 : Nat → Int → Bool → Option (Int)
 | 0, _, _ => none
 | k + 1, x0, x30 => if x30 = true then (some 2) else (if x0 = 12 then (instr_of.j2 k x0 true) else (if x0 = 13 then (instr_of.j2 k x0 true) else (if x0 = 16 then (instr_of.j2 k x0 true) else (if x0 ≥ 32 then (instr_of.j2 k x0 (decide (x0 ≤ 36))) else (instr_of.j2 k x0 false)))))
def instr_of.j2 : Nat → Int → Bool → Option (Int)
 | 0, _, _ => none
 | k + 1, x0, x41 => if x41 = true then (some 3) else (if x0 = 14 then (some 4) else (if x0 = 17 then (some 5) else (if x0 ≥ 40 then (instr_of.j3 k x0 (decide (x0 ≤ 62))) else (instr_of.j3 k x0 false))))
def instr_of.j3 : Nat → Int → Bool → Option (Int)
 | 0, _, _ => none
 | k + 1, x0, x66 => if x66 = true then (some 6) else (if x0 = 63 then (instr_of.j4 k x0 true) else (instr_of.j4 k x0 (x0 == 64)))
def instr_of.j4 : Nat → Int → Bool → Option (Int)
 | 0, _, _ => none
 | k + 1, x0, x73 => if x73 = true then (some 7) else (if x0 = 65 then (instr_of.j5 k x0 true) else (instr_of.j5 k x0 (x0 == 66)))
def instr_of.j5 : Nat → Int → Bool → Option (Int)
 | 0, _, _ => none
 | k + 1, x0, x80 => if x80 = true then (some 8) else (if x0 = 67 then (some 9) else (if x0 = 68 then (some 9) else (some 0)))
end
def instr_of.f (k : Nat) (a0 : Int) : Option (Int) := if a0 = 0 then (instr_of.j0 k a0 true) else (if a0 = 1 then (instr_of.j0 k a0 true) else (if a0 = 15 then (instr_of.j0 k a0 true) else (if a0 = 26 then (instr_of.j0 k a0 true) else (if a0 = 27 then (instr_of.j0 k a0 true) else (if a0 ≥ 69 then (instr_of.j0 k a0 (decide (a0 ≤ 191))) else (instr_of.j0 k a0 false))))))
set_option maxHeartbeats 8000000 in
set_option maxRecDepth 100000 in
theorem instr_of.calls (k : Nat) (a0 : Int) (r : Int) (w : World) (h : instr_of.f k a0 = some r) :
  Calls Tryd.prog 75 #[.int .i64 a0] w fun e w' => e = .returned (.int .i64 r) ∧ Drawn0 w w' := by
 have H : (if a0 = 0 then (instr_of.j0 k a0 true) else (if a0 = 1 then (instr_of.j0 k a0 true) else (if a0 = 15 then (instr_of.j0 k a0 true) else (if a0 = 26 then (instr_of.j0 k a0 true) else (if a0 = 27 then (instr_of.j0 k a0 true) else (if a0 ≥ 69 then (instr_of.j0 k a0 (decide (a0 ≤ 191))) else (instr_of.j0 k a0 false))))))) = some r := h
 clear h
 have HC2 := am H
 clear H
 go_enter Tryd.func75, Tryd.ntmps75
 go_upto_region 1 with (fail)
 go_cut [3] (fun v3 wc => ∃ (kq : Nat) (x3_1 : Bool), v3 = .bool x3_1 ∧ Aside0 (instr_of.j0 kq a0 x3_1 = some r) ∧ Aside0 (kq ≤ k) ∧ Drawn0 w wc)
 case first =>
  have H := HC2.out
  clear HC2
  by_cases c3 : a0 = 0
  ·rw [if_pos c3] at H
   have c3b0 : (a0 == 0) = true := beq_iff_eq.mpr c3
   have c3b1 : (a0 != 0) = false := bne_eq_false_iff_eq.mpr c3
   clear c3
   (first | rw [c3b0] | (simp only [i64_w, i32_w]; rw [c3b0]) | skip)
   have H' := am H
   clear H
   go_wp2
   go_meet
   case rel => exact ⟨_, (true), (by first | rfl | (simp; done) | (simp [*]; done)), H', ⟨by first | omega | exact Nat.le_refl _⟩, by repeat (first | exact Drawn0.refl _ | apply Drawn0.step)⟩
  ·rw [if_neg c3] at H
   have c3b0 : (a0 == 0) = false := beq_eq_false_iff_ne.mpr c3
   have c3b1 : (a0 != 0) = true := bne_iff_ne.mpr c3
   (first | rw [c3b0] | (simp only [i64_w, i32_w]; rw [c3b0]) | skip)
   by_cases c4 : a0 = 1
   ·rw [if_pos c4] at H
    have c4b0 : (a0 == 1) = true := beq_iff_eq.mpr c4
    have c4b1 : (a0 != 1) = false := bne_eq_false_iff_eq.mpr c4
    clear c4
    have H' := am H
    clear H
    go_wp2
    go_meet
    case rel => exact ⟨_, (true), (by first | rfl | (simp; done) | (simp [*]; done)), H', ⟨by first | omega | exact Nat.le_refl _⟩, by repeat (first | exact Drawn0.refl _ | apply Drawn0.step)⟩
   ·rw [if_neg c4] at H
    have c4b0 : (a0 == 1) = false := beq_eq_false_iff_ne.mpr c4
    have c4b1 : (a0 != 1) = true := bne_iff_ne.mpr c4
    by_cases c5 : a0 = 15
    ·rw [if_pos c5] at H
     have c5b0 : (a0 == 15) = true := beq_iff_eq.mpr c5
     have c5b1 : (a0 != 15) = false := bne_eq_false_iff_eq.mpr c5
     clear c5
     have H' := am H
     clear H
     go_wp2
     go_meet
     case rel => exact ⟨_, (true), (by first | rfl | (simp; done) | (simp [*]; done)), H', ⟨by first | omega | exact Nat.le_refl _⟩, by repeat (first | exact Drawn0.refl _ | apply Drawn0.step)⟩
    ·rw [if_neg c5] at H
     have c5b0 : (a0 == 15) = false := beq_eq_false_iff_ne.mpr c5
     have c5b1 : (a0 != 15) = true := bne_iff_ne.mpr c5
     by_cases c6 : a0 = 26
     ·rw [if_pos c6] at H
      have c6b0 : (a0 == 26) = true := beq_iff_eq.mpr c6
      have c6b1 : (a0 != 26) = false := bne_eq_false_iff_eq.mpr c6
      clear c6
      have H' := am H
      clear H
      go_wp2
      go_meet
      case rel => exact ⟨_, (true), (by first | rfl | (simp; done) | (simp [*]; done)), H', ⟨by first | omega | exact Nat.le_refl _⟩, by repeat (first | exact Drawn0.refl _ | apply Drawn0.step)⟩
     ·rw [if_neg c6] at H
      have c6b0 : (a0 == 26) = false := beq_eq_false_iff_ne.mpr c6
      have c6b1 : (a0 != 26) = true := bne_iff_ne.mpr c6
      by_cases c7 : a0 = 27
      ·rw [if_pos c7] at H
       have c7b0 : (a0 == 27) = true := beq_iff_eq.mpr c7
       have c7b1 : (a0 != 27) = false := bne_eq_false_iff_eq.mpr c7
       clear c7
       have H' := am H
       clear H
       go_wp2
       go_meet
       case rel => exact ⟨_, (true), (by first | rfl | (simp; done) | (simp [*]; done)), H', ⟨by first | omega | exact Nat.le_refl _⟩, by repeat (first | exact Drawn0.refl _ | apply Drawn0.step)⟩
      ·rw [if_neg c7] at H
       have c7b0 : (a0 == 27) = false := beq_eq_false_iff_ne.mpr c7
       have c7b1 : (a0 != 27) = true := bne_iff_ne.mpr c7
       by_cases c8 : a0 ≥ 69
       ·rw [if_pos c8] at H
        have c8b0 : decide (69 ≤ a0) = true := decide_eq_true c8
        clear c8
        have H' := am H
        clear H
        go_wp2
        go_meet
        case rel => exact ⟨_, (decide (a0 ≤ 191)), (by first | rfl | (simp; done) | (simp [*]; done)), H', ⟨by first | omega | exact Nat.le_refl _⟩, by repeat (first | exact Drawn0.refl _ | apply Drawn0.step)⟩
       ·rw [if_neg c8] at H
        have c8b0 : decide (69 ≤ a0) = false := decide_eq_false c8
        clear c8
        have H' := am H
        clear H
        go_wp2
        go_meet
        case rel => exact ⟨_, (false), (by first | rfl | (simp; done) | (simp [*]; done)), H', ⟨by first | omega | exact Nat.le_refl _⟩, by repeat (first | exact Drawn0.refl _ | apply Drawn0.step)⟩
 case rest =>
  clear HC2
  try clear p2
  try clear c3
  try clear c3b0
  try clear c3b1
  try clear c4
  try clear c4b0
  try clear c4b1
  try clear c5
  try clear c5b0
  try clear c5b1
  try clear c6
  try clear c6b0
  try clear c6b1
  try clear c7
  try clear c7b0
  try clear c7b1
  try clear c8
  try clear c8b0
  obtain ⟨kq, x3_1, rfl, HA, HJ1, ⟨mc1, rfl⟩⟩ := hcut
  cases kq with
  | zero => exact absurd HA.out (by simp [instr_of.j0])
  | succ kj1 =>
   have H := HA.out
   clear HA
   simp only [instr_of.j0] at H
   by_cases c9 : x3_1 = true
   ·subst c9
    have H1 : (some 1) = some r := by rw [if_pos rfl] at H; exact H
    clear H
    have H := H1
    clear H1
    obtain rfl := Option.some.inj H
    go_wp2
    go_ret
    exact ⟨by first | rfl | (simp; done) | (simp [*]; done), by repeat (first | exact Drawn0.refl _ | apply Drawn0.step)⟩
   ·replace c9 := Bool.eq_false_iff.mpr c9
    subst c9
    have H1 : (if a0 = 2 then (instr_of.j1 kj1 a0 true) else (if a0 = 3 then (instr_of.j1 kj1 a0 true) else (instr_of.j1 kj1 a0 (a0 == 4)))) = some r := by rw [if_neg (show ¬ (false = true) by decide)] at H; exact H
    clear H
    have H := H1
    clear H1
    have HC10 := am H
    clear H
    go_upto_region 3 with (fail)
    go_cut [30] (fun v30 wc => ∃ (kq : Nat) (x30_9 : Bool), v30 = .bool x30_9 ∧ Aside0 (instr_of.j1 kq a0 x30_9 = some r) ∧ Aside0 (kq ≤ kj1) ∧ Drawn0 w wc)
    case first =>
     have H := HC10.out
     clear HC10
     by_cases c11 : a0 = 2
     ·rw [if_pos c11] at H
      have c11b0 : (a0 == 2) = true := beq_iff_eq.mpr c11
      have c11b1 : (a0 != 2) = false := bne_eq_false_iff_eq.mpr c11
      clear c11
      (first | rw [c11b0] | (simp only [i64_w, i32_w]; rw [c11b0]) | skip)
      have H' := am H
      clear H
      go_wp2
      go_meet
      case rel => exact ⟨_, (true), (by first | rfl | (simp; done) | (simp [*]; done)), H', ⟨by have := HJ1.out; first | omega | exact Nat.le_refl _⟩, by repeat (first | exact Drawn0.refl _ | apply Drawn0.step)⟩
     ·rw [if_neg c11] at H
      have c11b0 : (a0 == 2) = false := beq_eq_false_iff_ne.mpr c11
      have c11b1 : (a0 != 2) = true := bne_iff_ne.mpr c11
      (first | rw [c11b0] | (simp only [i64_w, i32_w]; rw [c11b0]) | skip)
      by_cases c12 : a0 = 3
      ·rw [if_pos c12] at H
       have c12b0 : (a0 == 3) = true := beq_iff_eq.mpr c12
       have c12b1 : (a0 != 3) = false := bne_eq_false_iff_eq.mpr c12
       clear c12
       have H' := am H
       clear H
       go_wp2
       go_meet
       case rel => exact ⟨_, (true), (by first | rfl | (simp; done) | (simp [*]; done)), H', ⟨by have := HJ1.out; first | omega | exact Nat.le_refl _⟩, by repeat (first | exact Drawn0.refl _ | apply Drawn0.step)⟩
      ·rw [if_neg c12] at H
       have c12b0 : (a0 == 3) = false := beq_eq_false_iff_ne.mpr c12
       have c12b1 : (a0 != 3) = true := bne_iff_ne.mpr c12
       have H' := am H
       clear H
       go_wp2
       go_meet
       case rel => exact ⟨_, ((a0 == 4)), (by first | rfl | (simp; done) | (simp [*]; done)), H', ⟨by have := HJ1.out; first | omega | exact Nat.le_refl _⟩, by repeat (first | exact Drawn0.refl _ | apply Drawn0.step)⟩
    case rest =>
     clear HC10
     try clear c1
     try clear p2
     try clear c3
     try clear c3b0
     try clear c3b1
     try clear c4
     try clear c4b0
     try clear c4b1
     try clear c5
     try clear c5b0
     try clear c5b1
     try clear c6
     try clear c6b0
     try clear c6b1
     try clear c7
     try clear c7b0
     try clear c7b1
     try clear c8
     try clear c8b0
     try clear c9
     try clear c11
     try clear c11b0
     try clear c11b1
     try clear c12
     try clear c12b0
     try clear c12b1
     try clear p2
     obtain ⟨kq, x30_9, rfl, HA, HJ9, ⟨mc9, rfl⟩⟩ := hcut
     cases kq with
     | zero => exact absurd HA.out (by simp [instr_of.j1])
     | succ kj9 =>
      have H := HA.out
      clear HA
      simp only [instr_of.j1] at H
      by_cases c13 : x30_9 = true
      ·subst c13
       have H1 : (some 2) = some r := by rw [if_pos rfl] at H; exact H
       clear H
       have H := H1
       clear H1
       obtain rfl := Option.some.inj H
       go_wp2
       go_ret
       exact ⟨by first | rfl | (simp; done) | (simp [*]; done), by repeat (first | exact Drawn0.refl _ | apply Drawn0.step)⟩
      ·replace c13 := Bool.eq_false_iff.mpr c13
       subst c13
       have H1 : (if a0 = 12 then (instr_of.j2 kj9 a0 true) else (if a0 = 13 then (instr_of.j2 kj9 a0 true) else (if a0 = 16 then (instr_of.j2 kj9 a0 true) else (if a0 ≥ 32 then (instr_of.j2 kj9 a0 (decide (a0 ≤ 36))) else (instr_of.j2 kj9 a0 false))))) = some r := by rw [if_neg (show ¬ (false = true) by decide)] at H; exact H
       clear H
       have H := H1
       clear H1
       have HC14 := am H
       clear H
       go_upto_region 5 with (fail)
       go_cut [41] (fun v41 wc => ∃ (kq : Nat) (x41_13 : Bool), v41 = .bool x41_13 ∧ Aside0 (instr_of.j2 kq a0 x41_13 = some r) ∧ Aside0 (kq ≤ kj9) ∧ Drawn0 w wc)
       case first =>
        have H := HC14.out
        clear HC14
        by_cases c15 : a0 = 12
        ·rw [if_pos c15] at H
         have c15b0 : (a0 == 12) = true := beq_iff_eq.mpr c15
         have c15b1 : (a0 != 12) = false := bne_eq_false_iff_eq.mpr c15
         clear c15
         (first | rw [c15b0] | (simp only [i64_w, i32_w]; rw [c15b0]) | skip)
         have H' := am H
         clear H
         go_wp2
         go_meet
         case rel => exact ⟨_, (true), (by first | rfl | (simp; done) | (simp [*]; done)), H', ⟨by have := HJ1.out; have := HJ9.out; first | omega | exact Nat.le_refl _⟩, by repeat (first | exact Drawn0.refl _ | apply Drawn0.step)⟩
        ·rw [if_neg c15] at H
         have c15b0 : (a0 == 12) = false := beq_eq_false_iff_ne.mpr c15
         have c15b1 : (a0 != 12) = true := bne_iff_ne.mpr c15
         (first | rw [c15b0] | (simp only [i64_w, i32_w]; rw [c15b0]) | skip)
         by_cases c16 : a0 = 13
         ·rw [if_pos c16] at H
          have c16b0 : (a0 == 13) = true := beq_iff_eq.mpr c16
          have c16b1 : (a0 != 13) = false := bne_eq_false_iff_eq.mpr c16
          clear c16
          have H' := am H
          clear H
          go_wp2
          go_meet
          case rel => exact ⟨_, (true), (by first | rfl | (simp; done) | (simp [*]; done)), H', ⟨by have := HJ1.out; have := HJ9.out; first | omega | exact Nat.le_refl _⟩, by repeat (first | exact Drawn0.refl _ | apply Drawn0.step)⟩
         ·rw [if_neg c16] at H
          have c16b0 : (a0 == 13) = false := beq_eq_false_iff_ne.mpr c16
          have c16b1 : (a0 != 13) = true := bne_iff_ne.mpr c16
          by_cases c17 : a0 = 16
          ·rw [if_pos c17] at H
           have c17b0 : (a0 == 16) = true := beq_iff_eq.mpr c17
           have c17b1 : (a0 != 16) = false := bne_eq_false_iff_eq.mpr c17
           clear c17
           have H' := am H
           clear H
           go_wp2
           go_meet
           case rel => exact ⟨_, (true), (by first | rfl | (simp; done) | (simp [*]; done)), H', ⟨by have := HJ1.out; have := HJ9.out; first | omega | exact Nat.le_refl _⟩, by repeat (first | exact Drawn0.refl _ | apply Drawn0.step)⟩
          ·rw [if_neg c17] at H
           have c17b0 : (a0 == 16) = false := beq_eq_false_iff_ne.mpr c17
           have c17b1 : (a0 != 16) = true := bne_iff_ne.mpr c17
           by_cases c18 : a0 ≥ 32
           ·rw [if_pos c18] at H
            have c18b0 : decide (32 ≤ a0) = true := decide_eq_true c18
            clear c18
            have H' := am H
            clear H
            go_wp2
            go_meet
            case rel => exact ⟨_, (decide (a0 ≤ 36)), (by first | rfl | (simp; done) | (simp [*]; done)), H', ⟨by have := HJ1.out; have := HJ9.out; first | omega | exact Nat.le_refl _⟩, by repeat (first | exact Drawn0.refl _ | apply Drawn0.step)⟩
           ·rw [if_neg c18] at H
            have c18b0 : decide (32 ≤ a0) = false := decide_eq_false c18
            clear c18
            have H' := am H
            clear H
            go_wp2
            go_meet
            case rel => exact ⟨_, (false), (by first | rfl | (simp; done) | (simp [*]; done)), H', ⟨by have := HJ1.out; have := HJ9.out; first | omega | exact Nat.le_refl _⟩, by repeat (first | exact Drawn0.refl _ | apply Drawn0.step)⟩
       case rest =>
        clear HC14
        try clear c1
        try clear p2
        try clear c3
        try clear c3b0
        try clear c3b1
        try clear c4
        try clear c4b0
        try clear c4b1
        try clear c5
        try clear c5b0
        try clear c5b1
        try clear c6
        try clear c6b0
        try clear c6b1
        try clear c7
        try clear c7b0
        try clear c7b1
        try clear c8
        try clear c8b0
        try clear c9
        try clear c11
        try clear c11b0
        try clear c11b1
        try clear c12
        try clear c12b0
        try clear c12b1
        try clear c13
        try clear c15
        try clear c15b0
        try clear c15b1
        try clear c16
        try clear c16b0
        try clear c16b1
        try clear c17
        try clear c17b0
        try clear c17b1
        try clear c18
        try clear c18b0
        try clear p2
        obtain ⟨kq, x41_13, rfl, HA, HJ13, ⟨mc13, rfl⟩⟩ := hcut
        cases kq with
        | zero => exact absurd HA.out (by simp [instr_of.j2])
        | succ kj13 =>
         have H := HA.out
         clear HA
         simp only [instr_of.j2] at H
         by_cases c19 : x41_13 = true
         ·subst c19
          have H1 : (some 3) = some r := by rw [if_pos rfl] at H; exact H
          clear H
          have H := H1
          clear H1
          obtain rfl := Option.some.inj H
          go_wp2
          go_ret
          exact ⟨by first | rfl | (simp; done) | (simp [*]; done), by repeat (first | exact Drawn0.refl _ | apply Drawn0.step)⟩
         ·replace c19 := Bool.eq_false_iff.mpr c19
          subst c19
          have H1 : (if a0 = 14 then (some 4) else (if a0 = 17 then (some 5) else (if a0 ≥ 40 then (instr_of.j3 kj13 a0 (decide (a0 ≤ 62))) else (instr_of.j3 kj13 a0 false)))) = some r := by rw [if_neg (show ¬ (false = true) by decide)] at H; exact H
          clear H
          have H := H1
          clear H1
          by_cases c20 : a0 = 14
          ·rw [if_pos c20] at H
           have c20b0 : (a0 == 14) = true := beq_iff_eq.mpr c20
           have c20b1 : (a0 != 14) = false := bne_eq_false_iff_eq.mpr c20
           clear c20
           obtain rfl := Option.some.inj H
           go_wp2
           go_ret
           exact ⟨by first | rfl | (simp; done) | (simp [*]; done), by repeat (first | exact Drawn0.refl _ | apply Drawn0.step)⟩
          ·rw [if_neg c20] at H
           have c20b0 : (a0 == 14) = false := beq_eq_false_iff_ne.mpr c20
           have c20b1 : (a0 != 14) = true := bne_iff_ne.mpr c20
           by_cases c21 : a0 = 17
           ·rw [if_pos c21] at H
            have c21b0 : (a0 == 17) = true := beq_iff_eq.mpr c21
            have c21b1 : (a0 != 17) = false := bne_eq_false_iff_eq.mpr c21
            clear c21
            obtain rfl := Option.some.inj H
            go_wp2
            go_ret
            exact ⟨by first | rfl | (simp; done) | (simp [*]; done), by repeat (first | exact Drawn0.refl _ | apply Drawn0.step)⟩
           ·rw [if_neg c21] at H
            have c21b0 : (a0 == 17) = false := beq_eq_false_iff_ne.mpr c21
            have c21b1 : (a0 != 17) = true := bne_iff_ne.mpr c21
            have HC22 := am H
            clear H
            go_upto_region 11 with (fail)
            go_cut [66] (fun v66 wc => ∃ (kq : Nat) (x66_21 : Bool), v66 = .bool x66_21 ∧ Aside0 (instr_of.j3 kq a0 x66_21 = some r) ∧ Aside0 (kq ≤ kj13) ∧ Drawn0 w wc)
            case first =>
             have H := HC22.out
             clear HC22
             by_cases c23 : a0 ≥ 40
             ·rw [if_pos c23] at H
              have c23b0 : decide (40 ≤ a0) = true := decide_eq_true c23
              clear c23
              (first | rw [c23b0] | (simp only [i64_w, i32_w]; rw [c23b0]) | skip)
              have H' := am H
              clear H
              go_wp2
              go_meet
              case rel => exact ⟨_, (decide (a0 ≤ 62)), (by first | rfl | (simp; done) | (simp [*]; done)), H', ⟨by have := HJ1.out; have := HJ9.out; have := HJ13.out; first | omega | exact Nat.le_refl _⟩, by repeat (first | exact Drawn0.refl _ | apply Drawn0.step)⟩
             ·rw [if_neg c23] at H
              have c23b0 : decide (40 ≤ a0) = false := decide_eq_false c23
              clear c23
              (first | rw [c23b0] | (simp only [i64_w, i32_w]; rw [c23b0]) | skip)
              have H' := am H
              clear H
              go_wp2
              go_meet
              case rel => exact ⟨_, (false), (by first | rfl | (simp; done) | (simp [*]; done)), H', ⟨by have := HJ1.out; have := HJ9.out; have := HJ13.out; first | omega | exact Nat.le_refl _⟩, by repeat (first | exact Drawn0.refl _ | apply Drawn0.step)⟩
            case rest =>
             clear HC22
             try clear c1
             try clear c2
             try clear p2
             try clear c3
             try clear c3b0
             try clear c3b1
             try clear c4
             try clear c4b0
             try clear c4b1
             try clear c5
             try clear c5b0
             try clear c5b1
             try clear c6
             try clear c6b0
             try clear c6b1
             try clear c7
             try clear c7b0
             try clear c7b1
             try clear c8
             try clear c8b0
             try clear c9
             try clear c11
             try clear c11b0
             try clear c11b1
             try clear c12
             try clear c12b0
             try clear c12b1
             try clear c13
             try clear c15
             try clear c15b0
             try clear c15b1
             try clear c16
             try clear c16b0
             try clear c16b1
             try clear c17
             try clear c17b0
             try clear c17b1
             try clear c18
             try clear c18b0
             try clear c19
             try clear c20
             try clear c20b0
             try clear c20b1
             try clear c21
             try clear c21b0
             try clear c21b1
             try clear c23
             try clear c23b0
             try clear p2
             obtain ⟨kq, x66_21, rfl, HA, HJ21, ⟨mc21, rfl⟩⟩ := hcut
             cases kq with
             | zero => exact absurd HA.out (by simp [instr_of.j3])
             | succ kj21 =>
              have H := HA.out
              clear HA
              simp only [instr_of.j3] at H
              by_cases c24 : x66_21 = true
              ·subst c24
               have H1 : (some 6) = some r := by rw [if_pos rfl] at H; exact H
               clear H
               have H := H1
               clear H1
               obtain rfl := Option.some.inj H
               go_wp2
               go_ret
               exact ⟨by first | rfl | (simp; done) | (simp [*]; done), by repeat (first | exact Drawn0.refl _ | apply Drawn0.step)⟩
              ·replace c24 := Bool.eq_false_iff.mpr c24
               subst c24
               have H1 : (if a0 = 63 then (instr_of.j4 kj21 a0 true) else (instr_of.j4 kj21 a0 (a0 == 64))) = some r := by rw [if_neg (show ¬ (false = true) by decide)] at H; exact H
               clear H
               have H := H1
               clear H1
               have HC25 := am H
               clear H
               go_upto_region 13 with (fail)
               go_cut [73] (fun v73 wc => ∃ (kq : Nat) (x73_24 : Bool), v73 = .bool x73_24 ∧ Aside0 (instr_of.j4 kq a0 x73_24 = some r) ∧ Aside0 (kq ≤ kj21) ∧ Drawn0 w wc)
               case first =>
                have H := HC25.out
                clear HC25
                by_cases c26 : a0 = 63
                ·rw [if_pos c26] at H
                 have c26b0 : (a0 == 63) = true := beq_iff_eq.mpr c26
                 have c26b1 : (a0 != 63) = false := bne_eq_false_iff_eq.mpr c26
                 clear c26
                 (first | rw [c26b0] | (simp only [i64_w, i32_w]; rw [c26b0]) | skip)
                 have H' := am H
                 clear H
                 go_wp2
                 go_meet
                 case rel => exact ⟨_, (true), (by first | rfl | (simp; done) | (simp [*]; done)), H', ⟨by have := HJ1.out; have := HJ9.out; have := HJ13.out; have := HJ21.out; first | omega | exact Nat.le_refl _⟩, by repeat (first | exact Drawn0.refl _ | apply Drawn0.step)⟩
                ·rw [if_neg c26] at H
                 have c26b0 : (a0 == 63) = false := beq_eq_false_iff_ne.mpr c26
                 have c26b1 : (a0 != 63) = true := bne_iff_ne.mpr c26
                 (first | rw [c26b0] | (simp only [i64_w, i32_w]; rw [c26b0]) | skip)
                 have H' := am H
                 clear H
                 go_wp2
                 go_meet
                 case rel => exact ⟨_, ((a0 == 64)), (by first | rfl | (simp; done) | (simp [*]; done)), H', ⟨by have := HJ1.out; have := HJ9.out; have := HJ13.out; have := HJ21.out; first | omega | exact Nat.le_refl _⟩, by repeat (first | exact Drawn0.refl _ | apply Drawn0.step)⟩
               case rest =>
                clear HC25
                try clear c1
                try clear c2
                try clear p2
                try clear c3
                try clear c3b0
                try clear c3b1
                try clear c4
                try clear c4b0
                try clear c4b1
                try clear c5
                try clear c5b0
                try clear c5b1
                try clear c6
                try clear c6b0
                try clear c6b1
                try clear c7
                try clear c7b0
                try clear c7b1
                try clear c8
                try clear c8b0
                try clear c9
                try clear c11
                try clear c11b0
                try clear c11b1
                try clear c12
                try clear c12b0
                try clear c12b1
                try clear c13
                try clear c15
                try clear c15b0
                try clear c15b1
                try clear c16
                try clear c16b0
                try clear c16b1
                try clear c17
                try clear c17b0
                try clear c17b1
                try clear c18
                try clear c18b0
                try clear c19
                try clear c20
                try clear c20b0
                try clear c20b1
                try clear c21
                try clear c21b0
                try clear c21b1
                try clear c23
                try clear c23b0
                try clear c24
                try clear c26
                try clear c26b0
                try clear c26b1
                try clear p2
                obtain ⟨kq, x73_24, rfl, HA, HJ24, ⟨mc24, rfl⟩⟩ := hcut
                cases kq with
                | zero => exact absurd HA.out (by simp [instr_of.j4])
                | succ kj24 =>
                 have H := HA.out
                 clear HA
                 simp only [instr_of.j4] at H
                 by_cases c27 : x73_24 = true
                 ·subst c27
                  have H1 : (some 7) = some r := by rw [if_pos rfl] at H; exact H
                  clear H
                  have H := H1
                  clear H1
                  obtain rfl := Option.some.inj H
                  go_wp2
                  go_ret
                  exact ⟨by first | rfl | (simp; done) | (simp [*]; done), by repeat (first | exact Drawn0.refl _ | apply Drawn0.step)⟩
                 ·replace c27 := Bool.eq_false_iff.mpr c27
                  subst c27
                  have H1 : (if a0 = 65 then (instr_of.j5 kj24 a0 true) else (instr_of.j5 kj24 a0 (a0 == 66))) = some r := by rw [if_neg (show ¬ (false = true) by decide)] at H; exact H
                  clear H
                  have H := H1
                  clear H1
                  have HC28 := am H
                  clear H
                  go_upto_region 15 with (fail)
                  go_cut [80] (fun v80 wc => ∃ (kq : Nat) (x80_27 : Bool), v80 = .bool x80_27 ∧ Aside0 (instr_of.j5 kq a0 x80_27 = some r) ∧ Aside0 (kq ≤ kj24) ∧ Drawn0 w wc)
                  case first =>
                   have H := HC28.out
                   clear HC28
                   by_cases c29 : a0 = 65
                   ·rw [if_pos c29] at H
                    have c29b0 : (a0 == 65) = true := beq_iff_eq.mpr c29
                    have c29b1 : (a0 != 65) = false := bne_eq_false_iff_eq.mpr c29
                    clear c29
                    (first | rw [c29b0] | (simp only [i64_w, i32_w]; rw [c29b0]) | skip)
                    have H' := am H
                    clear H
                    go_wp2
                    go_meet
                    case rel => exact ⟨_, (true), (by first | rfl | (simp; done) | (simp [*]; done)), H', ⟨by have := HJ1.out; have := HJ9.out; have := HJ13.out; have := HJ21.out; have := HJ24.out; first | omega | exact Nat.le_refl _⟩, by repeat (first | exact Drawn0.refl _ | apply Drawn0.step)⟩
                   ·rw [if_neg c29] at H
                    have c29b0 : (a0 == 65) = false := beq_eq_false_iff_ne.mpr c29
                    have c29b1 : (a0 != 65) = true := bne_iff_ne.mpr c29
                    (first | rw [c29b0] | (simp only [i64_w, i32_w]; rw [c29b0]) | skip)
                    have H' := am H
                    clear H
                    go_wp2
                    go_meet
                    case rel => exact ⟨_, ((a0 == 66)), (by first | rfl | (simp; done) | (simp [*]; done)), H', ⟨by have := HJ1.out; have := HJ9.out; have := HJ13.out; have := HJ21.out; have := HJ24.out; first | omega | exact Nat.le_refl _⟩, by repeat (first | exact Drawn0.refl _ | apply Drawn0.step)⟩
                  case rest =>
                   clear HC28
                   try clear c1
                   try clear c2
                   try clear p2
                   try clear c3
                   try clear c3b0
                   try clear c3b1
                   try clear c4
                   try clear c4b0
                   try clear c4b1
                   try clear c5
                   try clear c5b0
                   try clear c5b1
                   try clear c6
                   try clear c6b0
                   try clear c6b1
                   try clear c7
                   try clear c7b0
                   try clear c7b1
                   try clear c8
                   try clear c8b0
                   try clear c9
                   try clear c11
                   try clear c11b0
                   try clear c11b1
                   try clear c12
                   try clear c12b0
                   try clear c12b1
                   try clear c13
                   try clear c15
                   try clear c15b0
                   try clear c15b1
                   try clear c16
                   try clear c16b0
                   try clear c16b1
                   try clear c17
                   try clear c17b0
                   try clear c17b1
                   try clear c18
                   try clear c18b0
                   try clear c19
                   try clear c20
                   try clear c20b0
                   try clear c20b1
                   try clear c21
                   try clear c21b0
                   try clear c21b1
                   try clear c23
                   try clear c23b0
                   try clear c24
                   try clear c26
                   try clear c26b0
                   try clear c26b1
                   try clear c27
                   try clear c29
                   try clear c29b0
                   try clear c29b1
                   try clear p2
                   obtain ⟨kq, x80_27, rfl, HA, HJ27, ⟨mc27, rfl⟩⟩ := hcut
                   cases kq with
                   | zero => exact absurd HA.out (by simp [instr_of.j5])
                   | succ kj27 =>
                    have H := HA.out
                    clear HA
                    simp only [instr_of.j5] at H
                    by_cases c30 : x80_27 = true
                    ·subst c30
                     have H1 : (some 8) = some r := by rw [if_pos rfl] at H; exact H
                     clear H
                     have H := H1
                     clear H1
                     obtain rfl := Option.some.inj H
                     go_wp2
                     go_ret
                     exact ⟨by first | rfl | (simp; done) | (simp [*]; done), by repeat (first | exact Drawn0.refl _ | apply Drawn0.step)⟩
                    ·replace c30 := Bool.eq_false_iff.mpr c30
                     subst c30
                     have H1 : (if a0 = 67 then (some 9) else (if a0 = 68 then (some 9) else (some 0))) = some r := by rw [if_neg (show ¬ (false = true) by decide)] at H; exact H
                     clear H
                     have H := H1
                     clear H1
                     by_cases c31 : a0 = 67
                     ·rw [if_pos c31] at H
                      have c31b0 : (a0 == 67) = true := beq_iff_eq.mpr c31
                      have c31b1 : (a0 != 67) = false := bne_eq_false_iff_eq.mpr c31
                      clear c31
                      obtain rfl := Option.some.inj H
                      go_wp2
                      go_ret
                      exact ⟨by first | rfl | (simp; done) | (simp [*]; done), by repeat (first | exact Drawn0.refl _ | apply Drawn0.step)⟩
                     ·rw [if_neg c31] at H
                      have c31b0 : (a0 == 67) = false := beq_eq_false_iff_ne.mpr c31
                      have c31b1 : (a0 != 67) = true := bne_iff_ne.mpr c31
                      by_cases c32 : a0 = 68
                      ·rw [if_pos c32] at H
                       have c32b0 : (a0 == 68) = true := beq_iff_eq.mpr c32
                       have c32b1 : (a0 != 68) = false := bne_eq_false_iff_eq.mpr c32
                       clear c32
                       obtain rfl := Option.some.inj H
                       go_wp2
                       go_ret
                       exact ⟨by first | rfl | (simp; done) | (simp [*]; done), by repeat (first | exact Drawn0.refl _ | apply Drawn0.step)⟩
                      ·rw [if_neg c32] at H
                       have c32b0 : (a0 == 68) = false := beq_eq_false_iff_ne.mpr c32
                       have c32b1 : (a0 != 68) = true := bne_iff_ne.mpr c32
                       obtain rfl := Option.some.inj H
                       go_wp2
                       go_ret
                       exact ⟨by first | rfl | (simp; done) | (simp [*]; done), by repeat (first | exact Drawn0.refl _ | apply Drawn0.step)⟩
end Go.Proofs.YtkdoijfjceeblaaDoor.F
end
