/-
  What the claim leans on, in the order of its making: words about values and worlds, the printed functions, the decoder in plain words and its walk. Cut to what is used by wip/tools/prune15.py. (Fx0 Fx3 Fx4 Fx6 Fx7 Fx8 E15B Fx5)
-/
import Derived.Test.YtkdoijfjceeblaaDoorProg
import Derived.Below
import Derived.Deep.Draws
import Derived.Deep.AppendLies
import Derived.Maps.AppendAt
import Derived.OwnWalk
import Derived.Laws.BytesArg
import Derived.Laws.MakeOwn
import Derived.Laws.OwnMore
import Derived.Deep.OwnRows
import Derived.Tactics
import Derived.Lib.ConvBytes
import Derived.Laws.Slices
import Derived.WalkKit
import Derived.KernelRfl
import Derived.RowKit3
import Derived.Deep.LoopGhost
import Derived.Deep.QuietTactic
import Derived.BigQuiet
import Derived.WideLaws
import Derived.Deep.DeepCutAuto
import Derived.Deep.CutBlock
import Derived.Deep.RegionHeld3
import Derived.Laws.Rows
import Derived.Lib.AppendStr
import Derived.ArgAppend
import Derived.Laws.IdiomCopy
import Derived.OrdersHeld
import Derived.Laws.BitsLemmas
import Derived.RowKit
import Derived.Test.YtkdoijfjceeblaaDoorQWWords
import Derived.Test.YtkdoijfjceeblaaDoorQW1
import Derived.Test.YtkdoijfjceeblaaDoorQWEqStruct
section
namespace Go.Proofs.YtkdoijfjceeblaaDoor.F
open Go.RowKit Go.Proofs.YtkdoijfjceeblaaDoorW.PrintWords Go.Proofs.YtkdoijfjceeblaaDoorW.PrintLast Go.Proofs.YtkdoijfjceeblaaDoorW.PrintMore
attribute [local go_sem] max2_int min2_int max_two min_two max_three min_three max_four min_four
set_option linter.unusedVariables false
set_option linter.unusedSimpArgs false
def errW : Option Int → Value
  | none => .nilIface
  | some c => .iface 0 (.int .i64 c)
theorem errW_none : errW none = .nilIface := rfl
theorem errW_some (c : Int) : errW (some c) = .iface 0 (.int .i64 c) := rfl
theorem info5 : (Tryd.prog.info? 5).map (fun i => (i.zero, i.size, i.bytes)) = some (some (.int .u8 0), 1, 1) := by kernel_rfl
structure S51 where
  f0 : (List Int)
  f1 : (List Int)
def z51 : S51 := ⟨([] : List Int), ([] : List Int)⟩
def k51 : Kd S51 := Kd.iso (Kd.pair (Kd.slice 3 (Kd.int .i64)) (Kd.slice 3 (Kd.int .i64))) (fun x : S51 => (x.f0, x.f1))
theorem k51_open {w : World} {x : S51} {cs : List Value} (h : k51.K w x cs) : ∃ A0 c0 A1 c1, cs = [.slice A0 x.f0.length c0, .slice A1 x.f1.length c1] ∧ x.f0.length ≤ c0 ∧ (Kd.int .i64).C w A0 x.f0.length x.f0 ∧ x.f1.length ≤ c1 ∧ (Kd.int .i64).C w A1 x.f1.length x.f1 := by
  obtain ⟨_, _, rfl, ⟨A0, c0, rfl, l0, g0⟩, ⟨A1, c1, rfl, l1, g1⟩⟩ := h
  exact ⟨A0, c0, A1, c1, rfl, l0, g0, l1, g1⟩
theorem k51_openM {w : World} {base : Nat} {ok : Nat → Prop} {x : S51} {cs : List Value} (h : k51.M w base ok x cs) : ∃ v0 v1, cs = [v0, v1] ∧ (Kd.int .i64).R 3 w base ok v0 x.f0 ∧ (Kd.int .i64).R 3 w base ok v1 x.f1 := by
  obtain ⟨_, _, rfl, ⟨v0, rfl, g0⟩, ⟨v1, rfl, g1⟩⟩ := h
  exact ⟨v0, v1, rfl, g0, g1⟩
theorem k51_mkM (w : World) (base : Nat) (ok : Nat → Prop) (x : S51) {v0 : Value} (g0 : (Kd.int .i64).R 3 w base ok v0 x.f0) {v1 : Value} (g1 : (Kd.int .i64).R 3 w base ok v1 x.f1) : k51.M w base ok x [v0, v1] := ⟨[v0], [v1], rfl, ⟨v0, rfl, g0⟩, ⟨v1, rfl, g1⟩⟩
def rd_T51 (xs : List S51) (i : Int) : S51 := xs.getD i.toNat z51
theorem at_T51 {w : World} {A : Option Addr} {n : Nat} {xs : List S51} (h : Kd.C k51 w A n xs) (i : Int) (h0 : 0 ≤ i) (h1 : i < n) : ∃ ad A0 c0 A1 c1, A = some ad ∧ w.cell? (ad.add (i.toNat * 2)) = some (.slice A0 (rd_T51 xs i).f0.length c0) ∧ w.cell? ⟨(ad.add (i.toNat * 2)).block, (ad.add (i.toNat * 2)).off + 1, none⟩ = some (.slice A1 (rd_T51 xs i).f1.length c1) ∧ (rd_T51 xs i).f0.length ≤ c0 ∧ (Kd.int .i64).C w A0 (rd_T51 xs i).f0.length (rd_T51 xs i).f0 ∧ (rd_T51 xs i).f1.length ≤ c1 ∧ (Kd.int .i64).C w A1 (rd_T51 xs i).f1.length (rd_T51 xs i).f1 := by
  obtain ⟨ad, c, e, _, hK, hc0⟩ := Kd.C_get h z51 i h0 h1
  have hc : ∀ j u, c[j]? = some u → w.cell? (ad.add (i.toNat * 2 + j)) = some u := hc0
  obtain ⟨A0, c0, A1, c1, rfl, l0, g0, l1, g1⟩ := k51_open hK
  exact ⟨ad, A0, c0, A1, c1, e, hc 0 _ rfl, by rw [← add_field _ _ 1 (by omega)]; exact hc 1 _ rfl, l0, g0, l1, g1⟩
structure S54 where
  f0 : Int
  f1 : Int
def k54 : Kd S54 := Kd.iso (Kd.pair (Kd.int .i64) (Kd.int .i64)) (fun x : S54 => (x.f0, x.f1))
theorem k54_openM {w : World} {base : Nat} {ok : Nat → Prop} {x : S54} {cs : List Value} (h : k54.M w base ok x cs) : cs = [.int .i64 x.f0, .int .i64 x.f1] := by
  obtain ⟨_, _, rfl, rfl, rfl⟩ := h
  exact rfl
theorem k54_mkM (w : World) (base : Nat) (ok : Nat → Prop) (x : S54)  : k54.M w base ok x [.int .i64 x.f0, .int .i64 x.f1] := ⟨[.int .i64 x.f0], [.int .i64 x.f1], rfl, rfl, rfl⟩
structure S92 where
  f0 : ByteArray
  f1 : ByteArray
  f2 : Int
  f3 : Int
  f4 : Bool
  f5 : S54
def k92 : Kd S92 := Kd.iso (Kd.pair Kd.string (Kd.pair Kd.string (Kd.pair (Kd.int .i64) (Kd.pair (Kd.int .i64) (Kd.pair Kd.bool k54))))) (fun x : S92 => (x.f0, x.f1, x.f2, x.f3, x.f4, x.f5))
theorem k92_openM {w : World} {base : Nat} {ok : Nat → Prop} {x : S92} {cs : List Value} (h : k92.M w base ok x cs) : cs = [.string x.f0, .string x.f1, .int .i64 x.f2, .int .i64 x.f3, .bool x.f4, .int .i64 x.f5.f0, .int .i64 x.f5.f1] := by
  obtain ⟨_, _, rfl, rfl, ⟨_, _, rfl, rfl, ⟨_, _, rfl, rfl, ⟨_, _, rfl, rfl, ⟨_, _, rfl, rfl, s5⟩⟩⟩⟩⟩ := h
  obtain rfl := k54_openM s5
  exact rfl
theorem k92_mkM (w : World) (base : Nat) (ok : Nat → Prop) (x : S92)  : k92.M w base ok x [.string x.f0, .string x.f1, .int .i64 x.f2, .int .i64 x.f3, .bool x.f4, .int .i64 x.f5.f0, .int .i64 x.f5.f1] := ⟨[.string x.f0], [.string x.f1, .int .i64 x.f2, .int .i64 x.f3, .bool x.f4, .int .i64 x.f5.f0, .int .i64 x.f5.f1], rfl, rfl, ⟨[.string x.f1], [.int .i64 x.f2, .int .i64 x.f3, .bool x.f4, .int .i64 x.f5.f0, .int .i64 x.f5.f1], rfl, rfl, ⟨[.int .i64 x.f2], [.int .i64 x.f3, .bool x.f4, .int .i64 x.f5.f0, .int .i64 x.f5.f1], rfl, rfl, ⟨[.int .i64 x.f3], [.bool x.f4, .int .i64 x.f5.f0, .int .i64 x.f5.f1], rfl, rfl, ⟨[.bool x.f4], [.int .i64 x.f5.f0, .int .i64 x.f5.f1], rfl, rfl, (k54_mkM w base ok x.f5 )⟩⟩⟩⟩⟩
structure S110 where
  f0 : Int
  f1 : Int
  f2 : Int
  f3 : Int
  f4 : Int
  f5 : (List Int)
  f6 : (List S110)
  f7 : (List S110)
def F110 (d : Kd S110) : Kd S110 := Kd.iso (Kd.pair (Kd.int .i64) (Kd.pair (Kd.int .i64) (Kd.pair (Kd.int .i64) (Kd.pair (Kd.int .i64) (Kd.pair (Kd.int .i64) (Kd.pair (Kd.slice 3 (Kd.int .i64)) (Kd.pair (Kd.slice 110 d) (Kd.slice 110 d)))))))) (fun x : S110 => (x.f0, x.f1, x.f2, x.f3, x.f4, x.f5, x.f6, x.f7))
theorem mono110 : Kd.Mono F110 := Kd.mono_iso _ (Kd.mono_pair (Kd.mono_const _) (Kd.mono_pair (Kd.mono_const _) (Kd.mono_pair (Kd.mono_const _) (Kd.mono_pair (Kd.mono_const _) (Kd.mono_pair (Kd.mono_const _) (Kd.mono_pair (Kd.mono_const _) (Kd.mono_pair (Kd.mono_slice 110 Kd.mono_id) (Kd.mono_slice 110 Kd.mono_id))))))))
theorem sub110 : Kd.Sub F110 [3, 110] := Kd.sub_iso _ (Kd.sub_pair (Kd.sub_const _ (by decide)) (Kd.sub_pair (Kd.sub_const _ (by decide)) (Kd.sub_pair (Kd.sub_const _ (by decide)) (Kd.sub_pair (Kd.sub_const _ (by decide)) (Kd.sub_pair (Kd.sub_const _ (by decide)) (Kd.sub_pair (Kd.sub_const _ (by decide)) (Kd.sub_pair (Kd.sub_slice 110 (by decide) Kd.sub_id) (Kd.sub_slice 110 (by decide) Kd.sub_id))))))))
theorem sz110 : ∀ n, (Kd.upto F110 8 [3, 110] n).sz = 8 := Kd.upto_sz (fun _ => rfl)
def k110 : Kd S110 := Kd.fix F110 8 [3, 110] sz110 (Kd.upto_E sub110)
theorem k110_mkM (w : World) (base : Nat) (ok : Nat → Prop) (x : S110) {v5 : Value} (g5 : (Kd.int .i64).R 3 w base ok v5 x.f5) {v6 : Value} (g6 : k110.R 110 w base ok v6 x.f6) {v7 : Value} (g7 : k110.R 110 w base ok v7 x.f7) : k110.M w base ok x [.int .i64 x.f0, .int .i64 x.f1, .int .i64 x.f2, .int .i64 x.f3, .int .i64 x.f4, v5, v6, v7] := by
  obtain ⟨n6, q6⟩ := Kd.fix_R_back mono110 g6
  obtain ⟨n7, q7⟩ := Kd.fix_R_back mono110 g7
  have r6 := Kd.upto_R_le mono110 sz110 (show n6 ≤ (max n6 n7) by omega) q6
  have r7 := Kd.upto_R_le mono110 sz110 (show n7 ≤ (max n6 n7) by omega) q7
  exact ⟨(max n6 n7) + 1, ⟨[.int .i64 x.f0], [.int .i64 x.f1, .int .i64 x.f2, .int .i64 x.f3, .int .i64 x.f4, v5, v6, v7], rfl, rfl, ⟨[.int .i64 x.f1], [.int .i64 x.f2, .int .i64 x.f3, .int .i64 x.f4, v5, v6, v7], rfl, rfl, ⟨[.int .i64 x.f2], [.int .i64 x.f3, .int .i64 x.f4, v5, v6, v7], rfl, rfl, ⟨[.int .i64 x.f3], [.int .i64 x.f4, v5, v6, v7], rfl, rfl, ⟨[.int .i64 x.f4], [v5, v6, v7], rfl, rfl, ⟨[v5], [v6, v7], rfl, ⟨v5, rfl, g5⟩, ⟨[v6], [v7], rfl, ⟨v6, rfl, r6⟩, ⟨v7, rfl, r7⟩⟩⟩⟩⟩⟩⟩⟩⟩
structure S72 where
  f0 : Int
  f1 : Bool
  f2 : (List S110)
def k72 : Kd S72 := Kd.iso (Kd.pair (Kd.int .i64) (Kd.pair Kd.bool (Kd.slice 110 k110))) (fun x : S72 => (x.f0, x.f1, x.f2))
theorem k72_openM {w : World} {base : Nat} {ok : Nat → Prop} {x : S72} {cs : List Value} (h : k72.M w base ok x cs) : ∃ v2, cs = [.int .i64 x.f0, .bool x.f1, v2] ∧ k110.R 110 w base ok v2 x.f2 := by
  obtain ⟨_, _, rfl, rfl, ⟨_, _, rfl, rfl, ⟨v2, rfl, g2⟩⟩⟩ := h
  exact ⟨v2, rfl, g2⟩
theorem k72_mkM (w : World) (base : Nat) (ok : Nat → Prop) (x : S72) {v2 : Value} (g2 : k110.R 110 w base ok v2 x.f2) : k72.M w base ok x [.int .i64 x.f0, .bool x.f1, v2] := ⟨[.int .i64 x.f0], [.bool x.f1, v2], rfl, rfl, ⟨[.bool x.f1], [v2], rfl, rfl, ⟨v2, rfl, g2⟩⟩⟩
structure S75 where
  f0 : ByteArray
  f1 : Int
  f2 : Int
def k75 : Kd S75 := Kd.iso (Kd.pair Kd.string (Kd.pair (Kd.int .i64) (Kd.int .i64))) (fun x : S75 => (x.f0, x.f1, x.f2))
theorem k75_openM {w : World} {base : Nat} {ok : Nat → Prop} {x : S75} {cs : List Value} (h : k75.M w base ok x cs) : cs = [.string x.f0, .int .i64 x.f1, .int .i64 x.f2] := by
  obtain ⟨_, _, rfl, rfl, ⟨_, _, rfl, rfl, rfl⟩⟩ := h
  exact rfl
theorem k75_mkM (w : World) (base : Nat) (ok : Nat → Prop) (x : S75)  : k75.M w base ok x [.string x.f0, .int .i64 x.f1, .int .i64 x.f2] := ⟨[.string x.f0], [.int .i64 x.f1, .int .i64 x.f2], rfl, rfl, ⟨[.int .i64 x.f1], [.int .i64 x.f2], rfl, rfl, rfl⟩⟩
structure S77 where
  f0 : (List S110)
  f1 : (List Int)
def k77 : Kd S77 := Kd.iso (Kd.pair (Kd.slice 110 k110) (Kd.slice 3 (Kd.int .i64))) (fun x : S77 => (x.f0, x.f1))
theorem k77_openM {w : World} {base : Nat} {ok : Nat → Prop} {x : S77} {cs : List Value} (h : k77.M w base ok x cs) : ∃ v0 v1, cs = [v0, v1] ∧ k110.R 110 w base ok v0 x.f0 ∧ (Kd.int .i64).R 3 w base ok v1 x.f1 := by
  obtain ⟨_, _, rfl, ⟨v0, rfl, g0⟩, ⟨v1, rfl, g1⟩⟩ := h
  exact ⟨v0, v1, rfl, g0, g1⟩
theorem k77_mkM (w : World) (base : Nat) (ok : Nat → Prop) (x : S77) {v0 : Value} (g0 : k110.R 110 w base ok v0 x.f0) {v1 : Value} (g1 : (Kd.int .i64).R 3 w base ok v1 x.f1) : k77.M w base ok x [v0, v1] := ⟨[v0], [v1], rfl, ⟨v0, rfl, g0⟩, ⟨v1, rfl, g1⟩⟩
structure S57 where
  f0 : (List Int)
  f1 : (List S110)
def k57 : Kd S57 := Kd.iso (Kd.pair (Kd.slice 3 (Kd.int .i64)) (Kd.slice 110 k110)) (fun x : S57 => (x.f0, x.f1))
theorem k57_openM {w : World} {base : Nat} {ok : Nat → Prop} {x : S57} {cs : List Value} (h : k57.M w base ok x cs) : ∃ v0 v1, cs = [v0, v1] ∧ (Kd.int .i64).R 3 w base ok v0 x.f0 ∧ k110.R 110 w base ok v1 x.f1 := by
  obtain ⟨_, _, rfl, ⟨v0, rfl, g0⟩, ⟨v1, rfl, g1⟩⟩ := h
  exact ⟨v0, v1, rfl, g0, g1⟩
theorem k57_mkM (w : World) (base : Nat) (ok : Nat → Prop) (x : S57) {v0 : Value} (g0 : (Kd.int .i64).R 3 w base ok v0 x.f0) {v1 : Value} (g1 : k110.R 110 w base ok v1 x.f1) : k57.M w base ok x [v0, v1] := ⟨[v0], [v1], rfl, ⟨v0, rfl, g0⟩, ⟨v1, rfl, g1⟩⟩
structure S80 where
  f0 : (List S110)
  f1 : ByteArray
def k80 : Kd S80 := Kd.iso (Kd.pair (Kd.slice 110 k110) Kd.string) (fun x : S80 => (x.f0, x.f1))
theorem k80_openM {w : World} {base : Nat} {ok : Nat → Prop} {x : S80} {cs : List Value} (h : k80.M w base ok x cs) : ∃ v0, cs = [v0, .string x.f1] ∧ k110.R 110 w base ok v0 x.f0 := by
  obtain ⟨_, _, rfl, ⟨v0, rfl, g0⟩, rfl⟩ := h
  exact ⟨v0, rfl, g0⟩
theorem k80_mkM (w : World) (base : Nat) (ok : Nat → Prop) (x : S80) {v0 : Value} (g0 : k110.R 110 w base ok v0 x.f0) : k80.M w base ok x [v0, .string x.f1] := ⟨[v0], [.string x.f1], rfl, ⟨v0, rfl, g0⟩, rfl⟩
end Go.Proofs.YtkdoijfjceeblaaDoor.F
end
section
namespace Go.Proofs.YtkdoijfjceeblaaDoor.F
open Go.RowKit Go.Proofs.YtkdoijfjceeblaaDoorW.PrintWords Go.Proofs.YtkdoijfjceeblaaDoorW.PrintLast Go.Proofs.YtkdoijfjceeblaaDoorW.PrintMore
attribute [local go_sem] max2_int min2_int max_two min_two max_three min_three max_four min_four
set_option linter.unusedVariables false
set_option linter.unusedSimpArgs false
def leb_most.f (a0 : Int) : Option (Int) := some (wrap64 (Int.tdiv (wrap64 (a0 + 6)) 7))
set_option maxHeartbeats 8000000 in
set_option maxRecDepth 100000 in
theorem leb_most.calls (a0 : Int) (r : Int) (w : World) (h : leb_most.f a0 = some r) :
    Calls Tryd.prog 57 #[.int .i64 a0] w fun e w' => e = .returned (.int .i64 r) ∧ Drawn0 w w' := by
  have H : (some (wrap64 (Int.tdiv (wrap64 (a0 + 6)) 7))) = some r := h
  clear h
  obtain rfl := Option.some.inj H
  go_enter Tryd.func57, Tryd.ntmps57
  go_wp2
  go_ret
  exact ⟨by first | rfl | (simp; done) | (simp [*]; done), by repeat (first | exact Drawn0.refl _ | apply Drawn0.step)⟩
mutual
def leb_parts.j0 : Nat → ByteArray → Int → Int → Bool → Option (Int × Int)
  | 0, _, _, _, _ => none
  | k + 1, x0, x1, x2, x24 => if x24 = true then (some (0, 1200)) else (leb_parts.l0 k x0 x1 x2 0)
def leb_parts.l0 : Nat → ByteArray → Int → Int → Int → Option (Int × Int)
  | 0, _, _, _, _ => none
  | k + 1, x0, x1, x2, x8 => (leb_most.f x2).bind fun t101 => (if x8 < t101 then (if (wrap64 (x1 + x8)) = (x0.size : Int) then (some (0, 1201)) else (if 0 ≤ (wrap64 (x1 + x8)) then (if (wrap64 (x1 + x8)) < (x0.size : Int) then (if (bt x0 (wrap64 (x1 + x8))) < 128 then (some (wrap64 (x8 + 1), 0)) else (leb_parts.l0 k x0 x1 x2 (wrap64 (x8 + 1)))) else (none)) else (none))) else (some (0, 1200)))
end
def leb_parts.f (k : Nat) (a0 : ByteArray) (a1 : Int) (a2 : Int) : Option (Int × Int) := if a2 = 32 then (if a1 < 0 then (leb_parts.j0 k a0 a1 a2 true) else (leb_parts.j0 k a0 a1 a2 (decide (a1 > (a0.size : Int))))) else (if a2 = 64 then (if a1 < 0 then (leb_parts.j0 k a0 a1 a2 true) else (leb_parts.j0 k a0 a1 a2 (decide (a1 > (a0.size : Int))))) else (leb_parts.j0 k a0 a1 a2 true))
theorem leb_parts.mono_l : ∀ k, (∀ y0 y1 y2 y3, LeO (leb_parts.j0 k y0 y1 y2 y3) (leb_parts.j0 (k + 1) y0 y1 y2 y3)) ∧ (∀ y0 y1 y2 y3, LeO (leb_parts.l0 k y0 y1 y2 y3) (leb_parts.l0 (k + 1) y0 y1 y2 y3))
  | 0 => ⟨fun _ _ _ _ r h => by simp [leb_parts.j0] at h, fun _ _ _ _ r h => by simp [leb_parts.l0] at h⟩
  | k + 1 => by
    obtain ⟨ih0, ih1⟩ := leb_parts.mono_l k
    refine ⟨?_, ?_⟩
    · intro y0 y1 y2 y3
      unfold leb_parts.j0
      repeat' first
      | (with_reducible exact ih0 _ _ _ _)
      | (with_reducible exact ih1 _ _ _ _)
      | (with_reducible exact LeO.refl _)
      | (with_reducible exact LeO.none _)
      | (with_reducible refine LeO.ite ?_ ?_)
      | (with_reducible refine LeO.bind ?_ (fun _ => ?_))
      | exact ih0 _ _ _ _
      | exact ih1 _ _ _ _
      | exact LeO.none _
      | refine LeO.ite ?_ ?_
      | refine LeO.bind ?_ (fun _ => ?_)
    · intro y0 y1 y2 y3
      unfold leb_parts.l0
      repeat' first
      | (with_reducible exact ih0 _ _ _ _)
      | (with_reducible exact ih1 _ _ _ _)
      | (with_reducible exact LeO.refl _)
      | (with_reducible exact LeO.none _)
      | (with_reducible refine LeO.ite ?_ ?_)
      | (with_reducible refine LeO.bind ?_ (fun _ => ?_))
      | exact ih0 _ _ _ _
      | exact ih1 _ _ _ _
      | exact LeO.none _
      | refine LeO.ite ?_ ?_
      | refine LeO.bind ?_ (fun _ => ?_)
theorem leb_parts.mono : ∀ a0 a1 a2 k, LeO (leb_parts.f k a0 a1 a2) (leb_parts.f (k + 1) a0 a1 a2) := by
  intro a0 a1 a2 k
  obtain ⟨ih0, ih1⟩ := leb_parts.mono_l k
  unfold leb_parts.f
  repeat' first
      | (with_reducible exact ih0 _ _ _ _)
      | (with_reducible exact ih1 _ _ _ _)
      | (with_reducible exact LeO.refl _)
      | (with_reducible exact LeO.none _)
      | (with_reducible refine LeO.ite ?_ ?_)
      | (with_reducible refine LeO.bind ?_ (fun _ => ?_))
      | exact ih0 _ _ _ _
      | exact ih1 _ _ _ _
      | exact LeO.none _
      | refine LeO.ite ?_ ?_
      | refine LeO.bind ?_ (fun _ => ?_)
set_option maxHeartbeats 8000000 in
set_option maxRecDepth 100000 in
theorem leb_parts.calls (k : Nat) (a0 : ByteArray) (a1 : Int) (a2 : Int) (r1 : Int) (r2 : Int) (w : World) (h : leb_parts.f k a0 a1 a2 = some (r1, r2)) :
    Calls Tryd.prog 56 #[.string a0, .int .i64 a1, .int .i64 a2] w fun e w' => e = .returned (.tuple #[.int .i64 r1, .int .i64 r2]) ∧ Drawn0 w w' := by
  have H : (if a2 = 32 then (if a1 < 0 then (leb_parts.j0 k a0 a1 a2 true) else (leb_parts.j0 k a0 a1 a2 (decide (a1 > (a0.size : Int))))) else (if a2 = 64 then (if a1 < 0 then (leb_parts.j0 k a0 a1 a2 true) else (leb_parts.j0 k a0 a1 a2 (decide (a1 > (a0.size : Int))))) else (leb_parts.j0 k a0 a1 a2 true))) = some (r1, r2) := h
  clear h
  have HC4 := Aside0.mk H
  clear H
  go_enter Tryd.func56, Tryd.ntmps56
  go_upto_region 1 with (fail)
  go_cut [24] (fun v24 wc => ∃ (kq : Nat) (x24_3 : Bool), v24 = .bool x24_3 ∧ Aside0 (leb_parts.j0 kq a0 a1 a2 x24_3 = some (r1, r2)) ∧ Aside0 (kq ≤ k) ∧ Drawn0 w wc)
  case first =>
    have H := HC4.out
    clear HC4
    by_cases c5 : a2 = 32
    · rw [if_pos c5] at H
      have c5b0 : (a2 == 32) = true := beq_iff_eq.mpr c5
      have c5b1 : (a2 != 32) = false := bne_eq_false_iff_eq.mpr c5
      clear c5
      (first | rw [c5b0] | (simp only [i64_w, i32_w]; rw [c5b0]) | skip)
      by_cases c6 : a1 < 0
      · rw [if_pos c6] at H
        have c6b0 : decide (a1 < 0) = true := decide_eq_true c6
        clear c6
        have H' := Aside0.mk H
        clear H
        go_wp2
        go_meet
        case rel => exact ⟨_, (true), (by first | rfl | (simp; done) | (simp [*]; done)), H', ⟨by first | omega | exact Nat.le_refl _⟩, by repeat (first | exact Drawn0.refl _ | apply Drawn0.step)⟩
      · rw [if_neg c6] at H
        have c6b0 : decide (a1 < 0) = false := decide_eq_false c6
        clear c6
        have H' := Aside0.mk H
        clear H
        go_wp2
        go_meet
        case rel => exact ⟨_, (decide (a1 > (a0.size : Int))), (by first | rfl | (simp; done) | (simp [*]; done)), H', ⟨by first | omega | exact Nat.le_refl _⟩, by repeat (first | exact Drawn0.refl _ | apply Drawn0.step)⟩
    · rw [if_neg c5] at H
      have c5b0 : (a2 == 32) = false := beq_eq_false_iff_ne.mpr c5
      have c5b1 : (a2 != 32) = true := bne_iff_ne.mpr c5
      (first | rw [c5b0] | (simp only [i64_w, i32_w]; rw [c5b0]) | skip)
      by_cases c7 : a2 = 64
      · rw [if_pos c7] at H
        have c7b0 : (a2 == 64) = true := beq_iff_eq.mpr c7
        have c7b1 : (a2 != 64) = false := bne_eq_false_iff_eq.mpr c7
        clear c7
        by_cases c8 : a1 < 0
        · rw [if_pos c8] at H
          have c8b0 : decide (a1 < 0) = true := decide_eq_true c8
          clear c8
          have H' := Aside0.mk H
          clear H
          go_wp2
          go_meet
          case rel => exact ⟨_, (true), (by first | rfl | (simp; done) | (simp [*]; done)), H', ⟨by first | omega | exact Nat.le_refl _⟩, by repeat (first | exact Drawn0.refl _ | apply Drawn0.step)⟩
        · rw [if_neg c8] at H
          have c8b0 : decide (a1 < 0) = false := decide_eq_false c8
          clear c8
          have H' := Aside0.mk H
          clear H
          go_wp2
          go_meet
          case rel => exact ⟨_, (decide (a1 > (a0.size : Int))), (by first | rfl | (simp; done) | (simp [*]; done)), H', ⟨by first | omega | exact Nat.le_refl _⟩, by repeat (first | exact Drawn0.refl _ | apply Drawn0.step)⟩
      · rw [if_neg c7] at H
        have c7b0 : (a2 == 64) = false := beq_eq_false_iff_ne.mpr c7
        have c7b1 : (a2 != 64) = true := bne_iff_ne.mpr c7
        have H' := Aside0.mk H
        clear H
        go_wp2
        go_meet
        case rel => exact ⟨_, (true), (by first | rfl | (simp; done) | (simp [*]; done)), H', ⟨by first | omega | exact Nat.le_refl _⟩, by repeat (first | exact Drawn0.refl _ | apply Drawn0.step)⟩
  case rest =>
    clear HC4
    try clear p2
    try clear c5
    try clear c5b0
    try clear c5b1
    try clear c6
    try clear c6b0
    try clear c7
    try clear c7b0
    try clear c7b1
    try clear c8
    try clear c8b0
    obtain ⟨kq, x24_3, rfl, HA, HJ3, ⟨mc3, rfl⟩⟩ := hcut
    cases kq with
    | zero => exact absurd HA.out (by simp [leb_parts.j0])
    | succ kj3 =>
      have H := HA.out
      clear HA
      simp only [leb_parts.j0] at H
      by_cases c9 : x24_3 = true
      · subst c9
        have H1 : (some (0, 1200)) = some (r1, r2) := by rw [if_pos rfl] at H; exact H
        clear H
        have H := H1
        clear H1
        simp only [Option.some.injEq, Prod.mk.injEq] at H
        obtain ⟨rfl, rfl⟩ := H
        go_wp2
        go_ret2
        exact ⟨by first | rfl | (simp; done) | (simp [*]; done), by repeat (first | exact Drawn0.refl _ | apply Drawn0.step)⟩
      · replace c9 := Bool.eq_false_iff.mpr c9
        subst c9
        have H1 : (leb_parts.l0 kj3 a0 a1 a2 0) = some (r1, r2) := by rw [if_neg (show ¬ (false = true) by decide)] at H; exact H
        clear H
        have H := H1
        clear H1
        have H' := Aside0.mk H
        clear H
        go_wp2
        go_loopg [8] kj3 (fun kq v8 w' => ∃ (x8_2 : Int), v8 = .int .i64 x8_2 ∧ Aside0 (leb_parts.l0 kq a0 a1 a2 x8_2 = some (r1, r2)) ∧ Aside0 (kq ≤ kj3) ∧ Drawn0 w w')
        case atStart => exact ⟨(0), (by first | rfl | (simp; done) | (simp [*]; done)), H', ⟨Nat.le_refl _⟩, by repeat (first | exact Drawn0.refl _ | apply Drawn0.step)⟩
        case round =>
          clear H'
          try clear p2
          try clear c3
          try clear c5
          try clear c5b0
          try clear c5b1
          try clear c6
          try clear c6b0
          try clear c7
          try clear c7b0
          try clear c7b1
          try clear c8
          try clear c8b0
          try clear c9
          try clear p2
          obtain ⟨x8_2, rfl, HA, HK2, ⟨m2, rfl⟩⟩ := hrel
          cases gk with
          | zero => exact absurd HA.out (by simp [leb_parts.l0])
          | succ k2 =>
            have H := HA.out
            clear HA
            simp only [leb_parts.l0] at H
            replace H := Option.bind_eq_some_iff.mp H
            obtain ⟨t101, A100, H⟩ := H
            replace H : (if x8_2 < t101 then (if (wrap64 (a1 + x8_2)) = (a0.size : Int) then (some (0, 1201)) else (if 0 ≤ (wrap64 (a1 + x8_2)) then (if (wrap64 (a1 + x8_2)) < (a0.size : Int) then (if (bt a0 (wrap64 (a1 + x8_2))) < 128 then (some (wrap64 (x8_2 + 1), 0)) else (leb_parts.l0 k2 a0 a1 a2 (wrap64 (x8_2 + 1)))) else (none)) else (none))) else (some (0, 1200))) = some (r1, r2) := H
            have A10 := Aside0.mk A100
            clear A100
            by_cases c11 : x8_2 < t101
            · rw [if_pos c11] at H
              have c11b0 : decide (x8_2 < t101) = true := decide_eq_true c11
              clear c11
              by_cases c12 : (wrap64 (a1 + x8_2)) = (a0.size : Int)
              · rw [if_pos c12] at H
                have c12b0 : ((wrap64 (a1 + x8_2)) == (a0.size : Int)) = true := beq_iff_eq.mpr c12
                have c12b1 : ((wrap64 (a1 + x8_2)) != (a0.size : Int)) = false := bne_eq_false_iff_eq.mpr c12
                clear c12
                simp only [Option.some.injEq, Prod.mk.injEq] at H
                obtain ⟨rfl, rfl⟩ := H
                go_wp2_with (first | ((with_reducible refine gate_callee (f := 57) rfl ?_); refine goesL_ (some 27) rfl rfl Tryd.func57 (by kernel_rfl) rfl #[.int .i64 a2] rfl (by (try simp only [List.map_toArray, List.map_cons, List.map_nil]); first | done | rfl | (simp only [List.length_drop, List.length_take]; rfl)) ?_; (with_reducible refine (leb_most.calls a2 t101 _ A10.out).mono ?_); rintro e w' ⟨rfl, ⟨nd, rfl⟩⟩; refine ⟨_, rfl, ?_⟩))
                go_ret2
                exact ⟨by first | rfl | (simp; done) | (simp [*]; done), by repeat (first | exact Drawn0.refl _ | apply Drawn0.step)⟩
              · rw [if_neg c12] at H
                have c12b0 : ((wrap64 (a1 + x8_2)) == (a0.size : Int)) = false := beq_eq_false_iff_ne.mpr c12
                have c12b1 : ((wrap64 (a1 + x8_2)) != (a0.size : Int)) = true := bne_iff_ne.mpr c12
                obtain ⟨ji13, hji13⟩ : ∃ j_ : Int, (wrap64 (a1 + x8_2)) = j_ := ⟨_, rfl⟩
                replace H : (if 0 ≤ (ji13) then (if (ji13) < (a0.size : Int) then (if (bt a0 (ji13)) < 128 then (some (wrap64 (x8_2 + 1), 0)) else (leb_parts.l0 k2 a0 a1 a2 (wrap64 (x8_2 + 1)))) else (none)) else (none)) = some (r1, r2) := by first | (rw [hji13] at H; exact H) | (simp only [hji13] at H ⊢; exact H)
                (try rw [hji13] at c12b0)
                (try rw [hji13] at c12b1)
                (try rw [hji13] at A10)
                have hji13w : (IntKind.i64.wrap (a1 + x8_2)) = ji13 := (i64_w _).trans hji13
                by_cases c14 : 0 ≤ (ji13)
                · rw [if_pos c14] at H
                  have c14b0 : decide (0 ≤ (ji13)) = true := decide_eq_true c14
                  clear c14
                  by_cases c15 : (ji13) < (a0.size : Int)
                  · rw [if_pos c15] at H
                    have c15b0 : decide ((ji13) < (a0.size : Int)) = true := decide_eq_true c15
                    clear c15
                    by_cases c17 : (bt a0 (ji13)) < 128
                    · rw [if_pos c17] at H
                      have c17b0 : decide ((bt a0 (ji13)) < 128) = true := decide_eq_true c17
                      clear c17
                      simp only [Option.some.injEq, Prod.mk.injEq] at H
                      obtain ⟨rfl, rfl⟩ := H
                      go_wp2_with (first | ((with_reducible refine gate_callee (f := 57) rfl ?_); refine goesL_ (some 27) rfl rfl Tryd.func57 (by kernel_rfl) rfl #[.int .i64 a2] rfl (by (try simp only [List.map_toArray, List.map_cons, List.map_nil]); first | done | rfl | (simp only [List.length_drop, List.length_take]; rfl)) ?_; (with_reducible refine (leb_most.calls a2 t101 _ A10.out).mono ?_); rintro e w' ⟨rfl, ⟨nd, rfl⟩⟩; refine ⟨_, rfl, ?_⟩; have p16 : 0 ≤ ((ji13) : Int) := of_decide_eq_true (by first | (with_reducible assumption) | assumption); have q16 : (ji13) < (a0.size : Int) := of_decide_eq_true (by first | (with_reducible assumption) | assumption); have hx16 := bt_at a0 (ji13); replace p16 := eq_true p16; replace q16 := eq_true q16))
                      go_ret2
                      exact ⟨by first | rfl | (simp; done) | (simp only [← hji13] <;> (first | rfl | simp)) | (simp [*]; done), by repeat (first | exact Drawn0.refl _ | apply Drawn0.step)⟩
                    · rw [if_neg c17] at H
                      have c17b0 : decide ((bt a0 (ji13)) < 128) = false := decide_eq_false c17
                      clear c17
                      have H' := Aside0.mk H
                      clear H
                      go_wp2_with (first | ((with_reducible refine gate_callee (f := 57) rfl ?_); refine goesL_ (some 27) rfl rfl Tryd.func57 (by kernel_rfl) rfl #[.int .i64 a2] rfl (by (try simp only [List.map_toArray, List.map_cons, List.map_nil]); first | done | rfl | (simp only [List.length_drop, List.length_take]; rfl)) ?_; (with_reducible refine (leb_most.calls a2 t101 _ A10.out).mono ?_); rintro e w' ⟨rfl, ⟨nd, rfl⟩⟩; refine ⟨_, rfl, ?_⟩; have p16 : 0 ≤ ((ji13) : Int) := of_decide_eq_true (by first | (with_reducible assumption) | assumption); have q16 : (ji13) < (a0.size : Int) := of_decide_eq_true (by first | (with_reducible assumption) | assumption); have hx16 := bt_at a0 (ji13); replace p16 := eq_true p16; replace q16 := eq_true q16))
                      go_roundg k2
                      case measure => have := HJ3.out; have := HK2.out; omega
                      case rel => exact ⟨(wrap64 (x8_2 + 1)), (by first | rfl | (simp; done) | (simp [*]; done)), H', ⟨by have := HJ3.out; have := HK2.out; omega⟩, by repeat (first | exact Drawn0.refl _ | apply Drawn0.step)⟩
                  · rw [if_neg c15] at H
                    exact absurd H (by simp)
                · rw [if_neg c14] at H
                  exact absurd H (by simp)
            · rw [if_neg c11] at H
              have c11b0 : decide (x8_2 < t101) = false := decide_eq_false c11
              clear c11
              simp only [Option.some.injEq, Prod.mk.injEq] at H
              obtain ⟨rfl, rfl⟩ := H
              go_wp2_with (first | ((with_reducible refine gate_callee (f := 57) rfl ?_); refine goesL_ (some 27) rfl rfl Tryd.func57 (by kernel_rfl) rfl #[.int .i64 a2] rfl (by (try simp only [List.map_toArray, List.map_cons, List.map_nil]); first | done | rfl | (simp only [List.length_drop, List.length_take]; rfl)) ?_; (with_reducible refine (leb_most.calls a2 t101 _ A10.out).mono ?_); rintro e w' ⟨rfl, ⟨nd, rfl⟩⟩; refine ⟨_, rfl, ?_⟩))
              go_ret2
              exact ⟨by first | rfl | (simp; done) | (simp [*]; done), by repeat (first | exact Drawn0.refl _ | apply Drawn0.step)⟩
def leb_Get.l0 : Nat → ByteArray → Int → Int → Int → Int → Int → Int → Option (Int × Int × Int)
  | 0, _, _, _, _, _, _, _ => none
  | k + 1, x0, x1, x2, x9, x11, x23, x24 => if x24 < x23 then (if 0 ≤ (wrap64 (x1 + x24)) then (if (wrap64 (x1 + x24)) < (x0.size : Int) then (if 0 ≤ (wrap64 (7 * x24)) then (leb_Get.l0 k x0 x1 x2 x9 (Go.bits .or .u64 x11 (shl .u64 (IntKind.u64.wrap (Go.bits .and .u8 (bt x0 (wrap64 (x1 + x24))) 127)) (wrap64 (7 * x24)))) x23 (wrap64 (x24 + 1))) else (none)) else (none)) else (none)) else ((leb_most.f x2).bind fun t104 => (if x9 = t104 then (if 0 ≤ (wrap64 ((wrap64 (x1 + x9)) - 1)) then (if (wrap64 ((wrap64 (x1 + x9)) - 1)) < (x0.size : Int) then (if 0 ≤ (wrap64 (x2 - (wrap64 (7 * (wrap64 (x9 - 1)))))) then (if (shr .u8 (bt x0 (wrap64 ((wrap64 (x1 + x9)) - 1))) (wrap64 (x2 - (wrap64 (7 * (wrap64 (x9 - 1))))))) = 0 then (some (wrap64 (x11), wrap64 (x1 + x9), 0)) else (some (0, 0, 1200))) else (none)) else (none)) else (none)) else (some (wrap64 (x11), wrap64 (x1 + x9), 0))))
def leb_Get.f (k : Nat) (a0 : ByteArray) (a1 : Int) (a2 : Int) : Option (Int × Int × Int) := (leb_parts.f k a0 a1 a2).bind fun bt102 => (if bt102.2 = 0 then (leb_Get.l0 k a0 a1 a2 bt102.1 0 bt102.1 0) else (some (0, 0, bt102.2)))
theorem leb_Get.mono_l : ∀ k, (∀ y0 y1 y2 y3 y4 y5 y6, LeO (leb_Get.l0 k y0 y1 y2 y3 y4 y5 y6) (leb_Get.l0 (k + 1) y0 y1 y2 y3 y4 y5 y6))
  | 0 => fun _ _ _ _ _ _ _ r h => by simp [leb_Get.l0] at h
  | k + 1 => by
    have ih0 := leb_Get.mono_l k
    · intro y0 y1 y2 y3 y4 y5 y6
      unfold leb_Get.l0
      repeat' first
      | (with_reducible exact ih0 _ _ _ _ _ _ _)
      | (with_reducible exact leb_parts.mono _ _ _ _)
      | (with_reducible exact LeO.refl _)
      | (with_reducible exact LeO.none _)
      | (with_reducible refine LeO.ite ?_ ?_)
      | (with_reducible refine LeO.bind ?_ (fun _ => ?_))
      | exact ih0 _ _ _ _ _ _ _
      | exact leb_parts.mono _ _ _ _
      | exact LeO.none _
      | refine LeO.ite ?_ ?_
      | refine LeO.bind ?_ (fun _ => ?_)
theorem leb_Get.mono : ∀ a0 a1 a2 k, LeO (leb_Get.f k a0 a1 a2) (leb_Get.f (k + 1) a0 a1 a2) := by
  intro a0 a1 a2 k
  have ih0 := leb_Get.mono_l k
  unfold leb_Get.f
  repeat' first
      | (with_reducible exact ih0 _ _ _ _ _ _ _)
      | (with_reducible exact leb_parts.mono _ _ _ _)
      | (with_reducible exact LeO.refl _)
      | (with_reducible exact LeO.none _)
      | (with_reducible refine LeO.ite ?_ ?_)
      | (with_reducible refine LeO.bind ?_ (fun _ => ?_))
      | exact ih0 _ _ _ _ _ _ _
      | exact leb_parts.mono _ _ _ _
      | exact LeO.none _
      | refine LeO.ite ?_ ?_
      | refine LeO.bind ?_ (fun _ => ?_)
set_option maxHeartbeats 8000000 in
set_option maxRecDepth 100000 in
theorem leb_Get.calls (k : Nat) (a0 : ByteArray) (a1 : Int) (a2 : Int) (r1 : Int) (r2 : Int) (r3 : Int) (w : World) (h : leb_Get.f k a0 a1 a2 = some (r1, r2, r3)) :
    Calls Tryd.prog 34 #[.string a0, .int .i64 a1, .int .i64 a2] w fun e w' => e = .returned (.tuple #[.int .i64 r1, .int .i64 r2, .int .i64 r3]) ∧ Drawn0 w w' := by
  have H : ((leb_parts.f k a0 a1 a2).bind fun bt102 => (if bt102.2 = 0 then (leb_Get.l0 k a0 a1 a2 bt102.1 0 bt102.1 0) else (some (0, 0, bt102.2)))) = some (r1, r2, r3) := h
  clear h
  replace H := Option.bind_eq_some_iff.mp H
  obtain ⟨⟨t102, t103⟩, A40, H⟩ := H
  replace H : (if t103 = 0 then (leb_Get.l0 k a0 a1 a2 t102 0 t102 0) else (some (0, 0, t103))) = some (r1, r2, r3) := H
  have A4 := Aside0.mk A40
  clear A40
  by_cases c5 : t103 = 0
  · rw [if_pos c5] at H
    have c5b0 : (t103 == 0) = true := beq_iff_eq.mpr c5
    have c5b1 : (t103 != 0) = false := bne_eq_false_iff_eq.mpr c5
    clear c5
    have H' := Aside0.mk H
    clear H
    go_enter Tryd.func34, Tryd.ntmps34
    go_wp2_with (first | ((with_reducible refine gate_callee (f := 56) rfl ?_); refine goesL_ (some 17) rfl rfl Tryd.func56 (by kernel_rfl) rfl #[.string a0, .int .i64 a1, .int .i64 a2] rfl (by (try simp only [List.map_toArray, List.map_cons, List.map_nil]); first | done | rfl | (simp only [List.length_drop, List.length_take]; rfl)) ?_; (with_reducible refine (leb_parts.calls k a0 a1 a2 t102 t103 _ A4.out).mono ?_); rintro e w' ⟨rfl, ⟨nd, rfl⟩⟩; refine ⟨_, rfl, ?_⟩))
    go_loopg [11, 24] k (fun kq v11 v24 w' => ∃ (x11_1 : Int) (x24_1 : Int), v11 = .int .u64 x11_1 ∧ v24 = .int .i64 x24_1 ∧ Aside0 (leb_Get.l0 kq a0 a1 a2 t102 x11_1 t102 x24_1 = some (r1, r2, r3)) ∧ Aside0 (kq ≤ k) ∧ Drawn0 w w')
    case atStart => exact ⟨(0), (0), (by first | rfl | (simp; done) | (simp [*]; done)), (by first | rfl | (simp; done) | (simp [*]; done)), H', ⟨Nat.le_refl _⟩, by repeat (first | exact Drawn0.refl _ | apply Drawn0.step)⟩
    case round =>
      clear H'
      try clear p2
      try clear c3
      try clear c5
      try clear c5b0
      try clear c5b1
      obtain ⟨x11_1, x24_1, rfl, rfl, HA, HK1, ⟨m1, rfl⟩⟩ := hrel
      cases gk with
      | zero => exact absurd HA.out (by simp [leb_Get.l0])
      | succ k1 =>
        have H := HA.out
        clear HA
        simp only [leb_Get.l0] at H
        by_cases c6 : x24_1 < t102
        · rw [if_pos c6] at H
          have c6b0 : decide (x24_1 < t102) = true := decide_eq_true c6
          clear c6
          obtain ⟨ji7, hji7⟩ : ∃ j_ : Int, (wrap64 (a1 + x24_1)) = j_ := ⟨_, rfl⟩
          replace H : (if 0 ≤ (ji7) then (if (ji7) < (a0.size : Int) then (if 0 ≤ (wrap64 (7 * x24_1)) then (leb_Get.l0 k1 a0 a1 a2 t102 (Go.bits .or .u64 x11_1 (shl .u64 (IntKind.u64.wrap (Go.bits .and .u8 (bt a0 (ji7)) 127)) (wrap64 (7 * x24_1)))) t102 (wrap64 (x24_1 + 1))) else (none)) else (none)) else (none)) = some (r1, r2, r3) := by first | (rw [hji7] at H; exact H) | (simp only [hji7] at H ⊢; exact H)
          have hji7w : (IntKind.i64.wrap (a1 + x24_1)) = ji7 := (i64_w _).trans hji7
          by_cases c8 : 0 ≤ (ji7)
          · rw [if_pos c8] at H
            have c8b0 : decide (0 ≤ (ji7)) = true := decide_eq_true c8
            clear c8
            by_cases c9 : (ji7) < (a0.size : Int)
            · rw [if_pos c9] at H
              have c9b0 : decide ((ji7) < (a0.size : Int)) = true := decide_eq_true c9
              clear c9
              obtain ⟨ji11, hji11⟩ : ∃ j_ : Int, (wrap64 (7 * x24_1)) = j_ := ⟨_, rfl⟩
              replace H : (if 0 ≤ (ji11) then (leb_Get.l0 k1 a0 a1 a2 t102 (Go.bits .or .u64 x11_1 (shl .u64 (IntKind.u64.wrap (Go.bits .and .u8 (bt a0 (ji7)) 127)) (ji11))) t102 (wrap64 (x24_1 + 1))) else (none)) = some (r1, r2, r3) := by first | (rw [hji11] at H; exact H) | (simp only [hji11] at H ⊢; exact H)
              have hji11w : (IntKind.i64.wrap (7 * x24_1)) = ji11 := (i64_w _).trans hji11
              by_cases c12 : 0 ≤ (ji11)
              · rw [if_pos c12] at H
                have c12b0 := eq_true c12
                have c12b1 : decide (0 ≤ (ji11)) = true := decide_eq_true c12
                clear c12
                obtain ⟨ji13, hji13⟩ : ∃ j_ : Int, (shl .u64 (IntKind.u64.wrap (Go.bits .and .u8 (bt a0 (ji7)) 127)) (ji11)) = j_ := ⟨_, rfl⟩
                replace H : (leb_Get.l0 k1 a0 a1 a2 t102 (Go.bits .or .u64 x11_1 (ji13)) t102 (wrap64 (x24_1 + 1))) = some (r1, r2, r3) := by first | (rw [hji13] at H; exact H) | (simp only [hji13] at H ⊢; exact H)
                have hji13_ : (IntKind.u64.wrap ((IntKind.u64.wrap (Go.bits .and .u8 (bt a0 (ji7)) 127)) * 2 ^ min (ji11).toNat 64)) = ji13 := hji13
                have hji13z : (ji11) ≤ 64 → (IntKind.u64.wrap ((IntKind.u64.wrap (Go.bits .and .u8 (bt a0 (ji7)) 127)) * 2 ^ (ji11).toNat)) = ji13 := shl_small hji13
                have H' := Aside0.mk H
                clear H
                have p10 : 0 ≤ ((ji7) : Int) := of_decide_eq_true (by first | (with_reducible assumption) | assumption)
                have q10 : (ji7) < (a0.size : Int) := of_decide_eq_true (by first | (with_reducible assumption) | assumption)
                have hx10 := bt_at a0 (ji7)
                replace p10 := eq_true p10
                replace q10 := eq_true q10
                go_wp2
                go_roundg k1
                case measure => have := HK1.out; omega
                case rel => exact ⟨(Go.bits .or .u64 x11_1 (ji13)), (wrap64 (x24_1 + 1)), (by first | rfl | (simp; done) | (simp only [← hji13] <;> (first | rfl | simp)) | (simp [*]; done)), (by first | rfl | (simp; done) | (simp [*]; done)), H', ⟨by have := HK1.out; omega⟩, by repeat (first | exact Drawn0.refl _ | apply Drawn0.step)⟩
              · rw [if_neg c12] at H
                exact absurd H (by simp)
            · rw [if_neg c9] at H
              exact absurd H (by simp)
          · rw [if_neg c8] at H
            exact absurd H (by simp)
        · rw [if_neg c6] at H
          have c6b0 : decide (x24_1 < t102) = false := decide_eq_false c6
          clear c6
          replace H := Option.bind_eq_some_iff.mp H
          obtain ⟨t104, A140, H⟩ := H
          replace H : (if t102 = t104 then (if 0 ≤ (wrap64 ((wrap64 (a1 + t102)) - 1)) then (if (wrap64 ((wrap64 (a1 + t102)) - 1)) < (a0.size : Int) then (if 0 ≤ (wrap64 (a2 - (wrap64 (7 * (wrap64 (t102 - 1)))))) then (if (shr .u8 (bt a0 (wrap64 ((wrap64 (a1 + t102)) - 1))) (wrap64 (a2 - (wrap64 (7 * (wrap64 (t102 - 1))))))) = 0 then (some (wrap64 (x11_1), wrap64 (a1 + t102), 0)) else (some (0, 0, 1200))) else (none)) else (none)) else (none)) else (some (wrap64 (x11_1), wrap64 (a1 + t102), 0))) = some (r1, r2, r3) := H
          have A14 := Aside0.mk A140
          clear A140
          by_cases c15 : t102 = t104
          · rw [if_pos c15] at H
            have c15b0 : (t102 == t104) = true := beq_iff_eq.mpr c15
            have c15b1 : (t102 != t104) = false := bne_eq_false_iff_eq.mpr c15
            clear c15
            obtain ⟨ji16, hji16⟩ : ∃ j_ : Int, (wrap64 ((wrap64 (a1 + t102)) - 1)) = j_ := ⟨_, rfl⟩
            replace H : (if 0 ≤ (ji16) then (if (ji16) < (a0.size : Int) then (if 0 ≤ (wrap64 (a2 - (wrap64 (7 * (wrap64 (t102 - 1)))))) then (if (shr .u8 (bt a0 (ji16)) (wrap64 (a2 - (wrap64 (7 * (wrap64 (t102 - 1))))))) = 0 then (some (wrap64 (x11_1), wrap64 (a1 + t102), 0)) else (some (0, 0, 1200))) else (none)) else (none)) else (none)) = some (r1, r2, r3) := by first | (rw [hji16] at H; exact H) | (simp only [hji16] at H ⊢; exact H)
            (try rw [hji16] at A14)
            have hji16w : (IntKind.i64.wrap ((wrap64 (a1 + t102)) - 1)) = ji16 := (i64_w _).trans hji16
            by_cases c17 : 0 ≤ (ji16)
            · rw [if_pos c17] at H
              have c17b0 : decide (0 ≤ (ji16)) = true := decide_eq_true c17
              clear c17
              by_cases c18 : (ji16) < (a0.size : Int)
              · rw [if_pos c18] at H
                have c18b0 : decide ((ji16) < (a0.size : Int)) = true := decide_eq_true c18
                clear c18
                obtain ⟨ji20, hji20⟩ : ∃ j_ : Int, (wrap64 (a2 - (wrap64 (7 * (wrap64 (t102 - 1)))))) = j_ := ⟨_, rfl⟩
                replace H : (if 0 ≤ (ji20) then (if (shr .u8 (bt a0 (ji16)) (ji20)) = 0 then (some (wrap64 (x11_1), wrap64 (a1 + t102), 0)) else (some (0, 0, 1200))) else (none)) = some (r1, r2, r3) := by first | (rw [hji20] at H; exact H) | (simp only [hji20] at H ⊢; exact H)
                (try rw [hji20] at A14)
                have hji20w : (IntKind.i64.wrap (a2 - (wrap64 (7 * (wrap64 (t102 - 1)))))) = ji20 := (i64_w _).trans hji20
                by_cases c21 : 0 ≤ (ji20)
                · rw [if_pos c21] at H
                  have c21b0 := eq_true c21
                  have c21b1 : decide (0 ≤ (ji20)) = true := decide_eq_true c21
                  clear c21
                  obtain ⟨ji22, hji22⟩ : ∃ j_ : Int, (shr .u8 (bt a0 (ji16)) (ji20)) = j_ := ⟨_, rfl⟩
                  replace H : (if (ji22) = 0 then (some (wrap64 (x11_1), wrap64 (a1 + t102), 0)) else (some (0, 0, 1200))) = some (r1, r2, r3) := by first | (rw [hji22] at H; exact H) | (simp only [hji22] at H ⊢; exact H)
                  (try rw [hji22] at A14)
                  have hji22_ : ((bt a0 (ji16)) / 2 ^ min (ji20).toNat 8) = ji22 := hji22
                  have hji22z : (ji20) ≤ 8 → ((bt a0 (ji16)) / 2 ^ (ji20).toNat) = ji22 := shr_small hji22
                  by_cases c23 : (ji22) = 0
                  · rw [if_pos c23] at H
                    have c23b0 : ((ji22) == 0) = true := beq_iff_eq.mpr c23
                    have c23b1 : ((ji22) != 0) = false := bne_eq_false_iff_eq.mpr c23
                    clear c23
                    simp only [Option.some.injEq, Prod.mk.injEq] at H
                    obtain ⟨rfl, rfl, rfl⟩ := H
                    go_wp2_with (first | ((with_reducible refine gate_callee (f := 57) rfl ?_); refine goesL_ (some 42) rfl rfl Tryd.func57 (by kernel_rfl) rfl #[.int .i64 a2] rfl (by (try simp only [List.map_toArray, List.map_cons, List.map_nil]); first | done | rfl | (simp only [List.length_drop, List.length_take]; rfl)) ?_; (with_reducible refine (leb_most.calls a2 t104 _ A14.out).mono ?_); rintro e w' ⟨rfl, ⟨nd, rfl⟩⟩; refine ⟨_, rfl, ?_⟩; have p19 : 0 ≤ ((ji16) : Int) := of_decide_eq_true (by first | (with_reducible assumption) | assumption); have q19 : (ji16) < (a0.size : Int) := of_decide_eq_true (by first | (with_reducible assumption) | assumption); have hx19 := bt_at a0 (ji16); replace p19 := eq_true p19; replace q19 := eq_true q19))
                    go_ret3
                    exact ⟨by first | rfl | (simp; done) | (simp only [← hji16, ← hji20, ← hji22] <;> (first | rfl | simp)) | (simp [*]; done), by repeat (first | exact Drawn0.refl _ | apply Drawn0.step)⟩
                  · rw [if_neg c23] at H
                    have c23b0 : ((ji22) == 0) = false := beq_eq_false_iff_ne.mpr c23
                    have c23b1 : ((ji22) != 0) = true := bne_iff_ne.mpr c23
                    simp only [Option.some.injEq, Prod.mk.injEq] at H
                    obtain ⟨rfl, rfl, rfl⟩ := H
                    go_wp2_with (first | ((with_reducible refine gate_callee (f := 57) rfl ?_); refine goesL_ (some 42) rfl rfl Tryd.func57 (by kernel_rfl) rfl #[.int .i64 a2] rfl (by (try simp only [List.map_toArray, List.map_cons, List.map_nil]); first | done | rfl | (simp only [List.length_drop, List.length_take]; rfl)) ?_; (with_reducible refine (leb_most.calls a2 t104 _ A14.out).mono ?_); rintro e w' ⟨rfl, ⟨nd, rfl⟩⟩; refine ⟨_, rfl, ?_⟩; have p19 : 0 ≤ ((ji16) : Int) := of_decide_eq_true (by first | (with_reducible assumption) | assumption); have q19 : (ji16) < (a0.size : Int) := of_decide_eq_true (by first | (with_reducible assumption) | assumption); have hx19 := bt_at a0 (ji16); replace p19 := eq_true p19; replace q19 := eq_true q19))
                    go_ret3
                    exact ⟨by first | rfl | (simp; done) | (simp only [← hji16, ← hji20, ← hji22] <;> (first | rfl | simp)) | (simp [*]; done), by repeat (first | exact Drawn0.refl _ | apply Drawn0.step)⟩
                · rw [if_neg c21] at H
                  exact absurd H (by simp)
              · rw [if_neg c18] at H
                exact absurd H (by simp)
            · rw [if_neg c17] at H
              exact absurd H (by simp)
          · rw [if_neg c15] at H
            have c15b0 : (t102 == t104) = false := beq_eq_false_iff_ne.mpr c15
            have c15b1 : (t102 != t104) = true := bne_iff_ne.mpr c15
            simp only [Option.some.injEq, Prod.mk.injEq] at H
            obtain ⟨rfl, rfl, rfl⟩ := H
            go_wp2_with (first | ((with_reducible refine gate_callee (f := 57) rfl ?_); refine goesL_ (some 42) rfl rfl Tryd.func57 (by kernel_rfl) rfl #[.int .i64 a2] rfl (by (try simp only [List.map_toArray, List.map_cons, List.map_nil]); first | done | rfl | (simp only [List.length_drop, List.length_take]; rfl)) ?_; (with_reducible refine (leb_most.calls a2 t104 _ A14.out).mono ?_); rintro e w' ⟨rfl, ⟨nd, rfl⟩⟩; refine ⟨_, rfl, ?_⟩))
            go_ret3
            exact ⟨by first | rfl | (simp; done) | (simp [*]; done), by repeat (first | exact Drawn0.refl _ | apply Drawn0.step)⟩
  · rw [if_neg c5] at H
    have c5b0 : (t103 == 0) = false := beq_eq_false_iff_ne.mpr c5
    have c5b1 : (t103 != 0) = true := bne_iff_ne.mpr c5
    simp only [Option.some.injEq, Prod.mk.injEq] at H
    obtain ⟨rfl, rfl, rfl⟩ := H
    go_enter Tryd.func34, Tryd.ntmps34
    go_wp2_with (first | ((with_reducible refine gate_callee (f := 56) rfl ?_); refine goesL_ (some 17) rfl rfl Tryd.func56 (by kernel_rfl) rfl #[.string a0, .int .i64 a1, .int .i64 a2] rfl (by (try simp only [List.map_toArray, List.map_cons, List.map_nil]); first | done | rfl | (simp only [List.length_drop, List.length_take]; rfl)) ?_; (with_reducible refine (leb_parts.calls k a0 a1 a2 t102 t103 _ A4.out).mono ?_); rintro e w' ⟨rfl, ⟨nd, rfl⟩⟩; refine ⟨_, rfl, ?_⟩))
    go_ret3
    exact ⟨by first | rfl | (simp; done) | (simp [*]; done), by repeat (first | exact Drawn0.refl _ | apply Drawn0.step)⟩
end Go.Proofs.YtkdoijfjceeblaaDoor.F
end
section
namespace Go.Proofs.YtkdoijfjceeblaaDoor.F
open Go.RowKit Go.Proofs.YtkdoijfjceeblaaDoorW.PrintWords Go.Proofs.YtkdoijfjceeblaaDoorW.PrintLast Go.Proofs.YtkdoijfjceeblaaDoorW.PrintMore
attribute [local go_sem] max2_int min2_int max_two min_two max_three min_three max_four min_four
set_option linter.unusedVariables false
set_option linter.unusedSimpArgs false
mutual
def leb_GetSigned.l0 : Nat → ByteArray → Int → Int → Int → Int → Int → Int → Option (Int × Int × Int)
  | 0, _, _, _, _, _, _, _ => none
  | k + 1, x0, x1, x2, x9, x11, x26, x27 => if x27 < x26 then (if 0 ≤ (wrap64 (x1 + x27)) then (if (wrap64 (x1 + x27)) < (x0.size : Int) then (if 0 ≤ (wrap64 (7 * x27)) then (leb_GetSigned.l0 k x0 x1 x2 x9 (Go.bits .or .i64 x11 (shl .i64 (wrap64 (Go.bits .and .u8 (bt x0 (wrap64 (x1 + x27))) 127)) (wrap64 (7 * x27)))) x26 (wrap64 (x27 + 1))) else (none)) else (none)) else (none)) else (if 0 ≤ (wrap64 ((wrap64 (x1 + x9)) - 1)) then (if (wrap64 ((wrap64 (x1 + x9)) - 1)) < (x0.size : Int) then (if (Go.bits .and .i64 (wrap64 (bt x0 (wrap64 ((wrap64 (x1 + x9)) - 1)))) 64) = 0 then (leb_GetSigned.j1 k x1 x2 x9 x11 (wrap64 (bt x0 (wrap64 ((wrap64 (x1 + x9)) - 1)))) false) else (leb_GetSigned.j1 k x1 x2 x9 x11 (wrap64 (bt x0 (wrap64 ((wrap64 (x1 + x9)) - 1)))) (decide ((wrap64 (7 * x9)) < 64)))) else (none)) else (none))
def leb_GetSigned.j1 : Nat → Int → Int → Int → Int → Int → Bool → Option (Int × Int × Int)
  | 0, _, _, _, _, _, _ => none
  | k + 1, x1, x2, x9, x11, x13, x57 => if x57 = true then (if 0 ≤ (wrap64 (7 * x9)) then (leb_GetSigned.j2 k x1 x2 x9 (Go.bits .or .i64 x11 (shl .i64 (-1) (wrap64 (7 * x9)))) x13) else (none)) else (leb_GetSigned.j2 k x1 x2 x9 x11 x13)
def leb_GetSigned.j2 : Nat → Int → Int → Int → Int → Int → Option (Int × Int × Int)
  | 0, _, _, _, _, _ => none
  | k + 1, x1, x2, x9, x11, x13 => (leb_most.f x2).bind fun t107 => (if x9 = t107 then (if 0 ≤ (wrap64 ((wrap64 (x2 - (wrap64 (7 * (wrap64 (x9 - 1)))))) - 1)) then (if (shr .i64 x13 (wrap64 ((wrap64 (x2 - (wrap64 (7 * (wrap64 (x9 - 1)))))) - 1))) = 0 then (some (x11, wrap64 (x1 + x9), 0)) else (if 0 ≤ (wrap64 (8 - (wrap64 (x2 - (wrap64 (7 * (wrap64 (x9 - 1)))))))) then (if (shr .i64 x13 (wrap64 ((wrap64 (x2 - (wrap64 (7 * (wrap64 (x9 - 1)))))) - 1))) = (wrap64 ((shl .i64 1 (wrap64 (8 - (wrap64 (x2 - (wrap64 (7 * (wrap64 (x9 - 1))))))))) - 1)) then (some (x11, wrap64 (x1 + x9), 0)) else (some (0, 0, 1200))) else (none))) else (none)) else (some (x11, wrap64 (x1 + x9), 0)))
end
def leb_GetSigned.f (k : Nat) (a0 : ByteArray) (a1 : Int) (a2 : Int) : Option (Int × Int × Int) := (leb_parts.f k a0 a1 a2).bind fun bt105 => (if bt105.2 = 0 then (leb_GetSigned.l0 k a0 a1 a2 bt105.1 0 bt105.1 0) else (some (0, 0, bt105.2)))
theorem leb_GetSigned.mono_l : ∀ k, (∀ y0 y1 y2 y3 y4 y5 y6, LeO (leb_GetSigned.l0 k y0 y1 y2 y3 y4 y5 y6) (leb_GetSigned.l0 (k + 1) y0 y1 y2 y3 y4 y5 y6)) ∧ (∀ y0 y1 y2 y3 y4 y5, LeO (leb_GetSigned.j1 k y0 y1 y2 y3 y4 y5) (leb_GetSigned.j1 (k + 1) y0 y1 y2 y3 y4 y5)) ∧ (∀ y0 y1 y2 y3 y4, LeO (leb_GetSigned.j2 k y0 y1 y2 y3 y4) (leb_GetSigned.j2 (k + 1) y0 y1 y2 y3 y4))
  | 0 => ⟨fun _ _ _ _ _ _ _ r h => by simp [leb_GetSigned.l0] at h, fun _ _ _ _ _ _ r h => by simp [leb_GetSigned.j1] at h, fun _ _ _ _ _ r h => by simp [leb_GetSigned.j2] at h⟩
  | k + 1 => by
    obtain ⟨ih0, ih1, ih2⟩ := leb_GetSigned.mono_l k
    refine ⟨?_, ?_, ?_⟩
    · intro y0 y1 y2 y3 y4 y5 y6
      unfold leb_GetSigned.l0
      repeat' first
      | (with_reducible exact ih0 _ _ _ _ _ _ _)
      | (with_reducible exact ih1 _ _ _ _ _ _)
      | (with_reducible exact ih2 _ _ _ _ _)
      | (with_reducible exact leb_parts.mono _ _ _ _)
      | (with_reducible exact LeO.refl _)
      | (with_reducible exact LeO.none _)
      | (with_reducible refine LeO.ite ?_ ?_)
      | (with_reducible refine LeO.bind ?_ (fun _ => ?_))
      | exact ih0 _ _ _ _ _ _ _
      | exact ih1 _ _ _ _ _ _
      | exact ih2 _ _ _ _ _
      | exact leb_parts.mono _ _ _ _
      | exact LeO.none _
      | refine LeO.ite ?_ ?_
      | refine LeO.bind ?_ (fun _ => ?_)
    · intro y0 y1 y2 y3 y4 y5
      unfold leb_GetSigned.j1
      repeat' first
      | (with_reducible exact ih0 _ _ _ _ _ _ _)
      | (with_reducible exact ih1 _ _ _ _ _ _)
      | (with_reducible exact ih2 _ _ _ _ _)
      | (with_reducible exact leb_parts.mono _ _ _ _)
      | (with_reducible exact LeO.refl _)
      | (with_reducible exact LeO.none _)
      | (with_reducible refine LeO.ite ?_ ?_)
      | (with_reducible refine LeO.bind ?_ (fun _ => ?_))
      | exact ih0 _ _ _ _ _ _ _
      | exact ih1 _ _ _ _ _ _
      | exact ih2 _ _ _ _ _
      | exact leb_parts.mono _ _ _ _
      | exact LeO.none _
      | refine LeO.ite ?_ ?_
      | refine LeO.bind ?_ (fun _ => ?_)
    · intro y0 y1 y2 y3 y4
      unfold leb_GetSigned.j2
      repeat' first
      | (with_reducible exact ih0 _ _ _ _ _ _ _)
      | (with_reducible exact ih1 _ _ _ _ _ _)
      | (with_reducible exact ih2 _ _ _ _ _)
      | (with_reducible exact leb_parts.mono _ _ _ _)
      | (with_reducible exact LeO.refl _)
      | (with_reducible exact LeO.none _)
      | (with_reducible refine LeO.ite ?_ ?_)
      | (with_reducible refine LeO.bind ?_ (fun _ => ?_))
      | exact ih0 _ _ _ _ _ _ _
      | exact ih1 _ _ _ _ _ _
      | exact ih2 _ _ _ _ _
      | exact leb_parts.mono _ _ _ _
      | exact LeO.none _
      | refine LeO.ite ?_ ?_
      | refine LeO.bind ?_ (fun _ => ?_)
theorem leb_GetSigned.mono : ∀ a0 a1 a2 k, LeO (leb_GetSigned.f k a0 a1 a2) (leb_GetSigned.f (k + 1) a0 a1 a2) := by
  intro a0 a1 a2 k
  obtain ⟨ih0, ih1, ih2⟩ := leb_GetSigned.mono_l k
  unfold leb_GetSigned.f
  repeat' first
      | (with_reducible exact ih0 _ _ _ _ _ _ _)
      | (with_reducible exact ih1 _ _ _ _ _ _)
      | (with_reducible exact ih2 _ _ _ _ _)
      | (with_reducible exact leb_parts.mono _ _ _ _)
      | (with_reducible exact LeO.refl _)
      | (with_reducible exact LeO.none _)
      | (with_reducible refine LeO.ite ?_ ?_)
      | (with_reducible refine LeO.bind ?_ (fun _ => ?_))
      | exact ih0 _ _ _ _ _ _ _
      | exact ih1 _ _ _ _ _ _
      | exact ih2 _ _ _ _ _
      | exact leb_parts.mono _ _ _ _
      | exact LeO.none _
      | refine LeO.ite ?_ ?_
      | refine LeO.bind ?_ (fun _ => ?_)
set_option maxHeartbeats 8000000 in
set_option maxRecDepth 100000 in
theorem leb_GetSigned.calls (k : Nat) (a0 : ByteArray) (a1 : Int) (a2 : Int) (r1 : Int) (r2 : Int) (r3 : Int) (w : World) (h : leb_GetSigned.f k a0 a1 a2 = some (r1, r2, r3)) :
    Calls Tryd.prog 84 #[.string a0, .int .i64 a1, .int .i64 a2] w fun e w' => e = .returned (.tuple #[.int .i64 r1, .int .i64 r2, .int .i64 r3]) ∧ Drawn0 w w' := by
  have H : ((leb_parts.f k a0 a1 a2).bind fun bt105 => (if bt105.2 = 0 then (leb_GetSigned.l0 k a0 a1 a2 bt105.1 0 bt105.1 0) else (some (0, 0, bt105.2)))) = some (r1, r2, r3) := h
  clear h
  replace H := Option.bind_eq_some_iff.mp H
  obtain ⟨⟨t105, t106⟩, A40, H⟩ := H
  replace H : (if t106 = 0 then (leb_GetSigned.l0 k a0 a1 a2 t105 0 t105 0) else (some (0, 0, t106))) = some (r1, r2, r3) := H
  have A4 := Aside0.mk A40
  clear A40
  by_cases c5 : t106 = 0
  · rw [if_pos c5] at H
    have c5b0 : (t106 == 0) = true := beq_iff_eq.mpr c5
    have c5b1 : (t106 != 0) = false := bne_eq_false_iff_eq.mpr c5
    clear c5
    have H' := Aside0.mk H
    clear H
    go_enter Tryd.func84, Tryd.ntmps84
    go_wp2_with (first | ((with_reducible refine gate_callee (f := 56) rfl ?_); refine goesL_ (some 20) rfl rfl Tryd.func56 (by kernel_rfl) rfl #[.string a0, .int .i64 a1, .int .i64 a2] rfl (by (try simp only [List.map_toArray, List.map_cons, List.map_nil]); first | done | rfl | (simp only [List.length_drop, List.length_take]; rfl)) ?_; (with_reducible refine (leb_parts.calls k a0 a1 a2 t105 t106 _ A4.out).mono ?_); rintro e w' ⟨rfl, ⟨nd, rfl⟩⟩; refine ⟨_, rfl, ?_⟩))
    go_loopg [11, 27] k (fun kq v11 v27 w' => ∃ (x11_1 : Int) (x27_1 : Int), v11 = .int .i64 x11_1 ∧ v27 = .int .i64 x27_1 ∧ Aside0 (leb_GetSigned.l0 kq a0 a1 a2 t105 x11_1 t105 x27_1 = some (r1, r2, r3)) ∧ Aside0 (kq ≤ k) ∧ Drawn0 w w')
    case atStart => exact ⟨(0), (0), (by first | rfl | (simp; done) | (simp [*]; done)), (by first | rfl | (simp; done) | (simp [*]; done)), H', ⟨Nat.le_refl _⟩, by repeat (first | exact Drawn0.refl _ | apply Drawn0.step)⟩
    case round =>
      clear H'
      try clear p2
      try clear c5
      try clear c5b0
      try clear c5b1
      obtain ⟨x11_1, x27_1, rfl, rfl, HA, HK1, ⟨m1, rfl⟩⟩ := hrel
      cases gk with
      | zero => exact absurd HA.out (by simp [leb_GetSigned.l0])
      | succ k1 =>
        have H := HA.out
        clear HA
        simp only [leb_GetSigned.l0] at H
        by_cases c6 : x27_1 < t105
        · rw [if_pos c6] at H
          have c6b0 : decide (x27_1 < t105) = true := decide_eq_true c6
          clear c6
          obtain ⟨ji7, hji7⟩ : ∃ j_ : Int, (wrap64 (a1 + x27_1)) = j_ := ⟨_, rfl⟩
          replace H : (if 0 ≤ (ji7) then (if (ji7) < (a0.size : Int) then (if 0 ≤ (wrap64 (7 * x27_1)) then (leb_GetSigned.l0 k1 a0 a1 a2 t105 (Go.bits .or .i64 x11_1 (shl .i64 (wrap64 (Go.bits .and .u8 (bt a0 (ji7)) 127)) (wrap64 (7 * x27_1)))) t105 (wrap64 (x27_1 + 1))) else (none)) else (none)) else (none)) = some (r1, r2, r3) := by first | (rw [hji7] at H; exact H) | (simp only [hji7] at H ⊢; exact H)
          have hji7w : (IntKind.i64.wrap (a1 + x27_1)) = ji7 := (i64_w _).trans hji7
          by_cases c8 : 0 ≤ (ji7)
          · rw [if_pos c8] at H
            have c8b0 : decide (0 ≤ (ji7)) = true := decide_eq_true c8
            clear c8
            by_cases c9 : (ji7) < (a0.size : Int)
            · rw [if_pos c9] at H
              have c9b0 : decide ((ji7) < (a0.size : Int)) = true := decide_eq_true c9
              clear c9
              obtain ⟨ji11, hji11⟩ : ∃ j_ : Int, (wrap64 (7 * x27_1)) = j_ := ⟨_, rfl⟩
              replace H : (if 0 ≤ (ji11) then (leb_GetSigned.l0 k1 a0 a1 a2 t105 (Go.bits .or .i64 x11_1 (shl .i64 (wrap64 (Go.bits .and .u8 (bt a0 (ji7)) 127)) (ji11))) t105 (wrap64 (x27_1 + 1))) else (none)) = some (r1, r2, r3) := by first | (rw [hji11] at H; exact H) | (simp only [hji11] at H ⊢; exact H)
              have hji11w : (IntKind.i64.wrap (7 * x27_1)) = ji11 := (i64_w _).trans hji11
              by_cases c12 : 0 ≤ (ji11)
              · rw [if_pos c12] at H
                have c12b0 := eq_true c12
                have c12b1 : decide (0 ≤ (ji11)) = true := decide_eq_true c12
                clear c12
                obtain ⟨ji13, hji13⟩ : ∃ j_ : Int, (shl .i64 (wrap64 (Go.bits .and .u8 (bt a0 (ji7)) 127)) (ji11)) = j_ := ⟨_, rfl⟩
                replace H : (leb_GetSigned.l0 k1 a0 a1 a2 t105 (Go.bits .or .i64 x11_1 (ji13)) t105 (wrap64 (x27_1 + 1))) = some (r1, r2, r3) := by first | (rw [hji13] at H; exact H) | (simp only [hji13] at H ⊢; exact H)
                have hji13_ : (IntKind.i64.wrap ((wrap64 (Go.bits .and .u8 (bt a0 (ji7)) 127)) * 2 ^ min (ji11).toNat 64)) = ji13 := hji13
                have hji13z : (ji11) ≤ 64 → (IntKind.i64.wrap ((wrap64 (Go.bits .and .u8 (bt a0 (ji7)) 127)) * 2 ^ (ji11).toNat)) = ji13 := shl_small hji13
                have hji13y : (wrap64 ((wrap64 (Go.bits .and .u8 (bt a0 (ji7)) 127)) * 2 ^ min (ji11).toNat 64)) = ji13 := (i64_w _).symm.trans hji13_
                have hji13x : (ji11) ≤ 64 → (wrap64 ((wrap64 (Go.bits .and .u8 (bt a0 (ji7)) 127)) * 2 ^ (ji11).toNat)) = ji13 := fun h_ => (i64_w _).symm.trans (hji13z h_)
                have H' := Aside0.mk H
                clear H
                have p10 : 0 ≤ ((ji7) : Int) := of_decide_eq_true (by first | (with_reducible assumption) | assumption)
                have q10 : (ji7) < (a0.size : Int) := of_decide_eq_true (by first | (with_reducible assumption) | assumption)
                have hx10 := bt_at a0 (ji7)
                replace p10 := eq_true p10
                replace q10 := eq_true q10
                go_wp2
                go_roundg k1
                case measure => have := HK1.out; omega
                case rel => exact ⟨(Go.bits .or .i64 x11_1 (ji13)), (wrap64 (x27_1 + 1)), (by first | rfl | (simp; done) | (simp only [← hji13] <;> (first | rfl | simp)) | (simp [*]; done)), (by first | rfl | (simp; done) | (simp [*]; done)), H', ⟨by have := HK1.out; omega⟩, by repeat (first | exact Drawn0.refl _ | apply Drawn0.step)⟩
              · rw [if_neg c12] at H
                exact absurd H (by simp)
            · rw [if_neg c9] at H
              exact absurd H (by simp)
          · rw [if_neg c8] at H
            exact absurd H (by simp)
        · rw [if_neg c6] at H
          have c6b0 : decide (x27_1 < t105) = false := decide_eq_false c6
          clear c6
          obtain ⟨ji14, hji14⟩ : ∃ j_ : Int, (wrap64 ((wrap64 (a1 + t105)) - 1)) = j_ := ⟨_, rfl⟩
          replace H : (if 0 ≤ (ji14) then (if (ji14) < (a0.size : Int) then (if (Go.bits .and .i64 (wrap64 (bt a0 (ji14))) 64) = 0 then (leb_GetSigned.j1 k1 a1 a2 t105 x11_1 (wrap64 (bt a0 (ji14))) false) else (leb_GetSigned.j1 k1 a1 a2 t105 x11_1 (wrap64 (bt a0 (ji14))) (decide ((wrap64 (7 * t105)) < 64)))) else (none)) else (none)) = some (r1, r2, r3) := by first | (rw [hji14] at H; exact H) | (simp only [hji14] at H ⊢; exact H)
          have hji14w : (IntKind.i64.wrap ((wrap64 (a1 + t105)) - 1)) = ji14 := (i64_w _).trans hji14
          by_cases c15 : 0 ≤ (ji14)
          · rw [if_pos c15] at H
            have c15b0 : decide (0 ≤ (ji14)) = true := decide_eq_true c15
            clear c15
            by_cases c16 : (ji14) < (a0.size : Int)
            · rw [if_pos c16] at H
              have c16b0 : decide ((ji14) < (a0.size : Int)) = true := decide_eq_true c16
              clear c16
              have HC18 := Aside0.mk H
              clear H
              have p17 : 0 ≤ ((ji14) : Int) := of_decide_eq_true (by first | (with_reducible assumption) | assumption)
              have q17 : (ji14) < (a0.size : Int) := of_decide_eq_true (by first | (with_reducible assumption) | assumption)
              have hx17 := bt_at a0 (ji14)
              replace p17 := eq_true p17
              replace q17 := eq_true q17
              go_upto_region 11 with (fail)
              go_cut [57] (fun v57 wc => ∃ (kq : Nat) (x57_17 : Bool), v57 = .bool x57_17 ∧ Aside0 (leb_GetSigned.j1 kq a1 a2 t105 x11_1 (wrap64 (bt a0 (ji14))) x57_17 = some (r1, r2, r3)) ∧ Aside0 (kq ≤ k1) ∧ Drawn0 w wc)
              case first =>
                have H := HC18.out
                clear HC18
                by_cases c19 : (Go.bits .and .i64 (wrap64 (bt a0 (ji14))) 64) = 0
                · rw [if_pos c19] at H
                  have c19b0 : ((Go.bits .and .i64 (wrap64 (bt a0 (ji14))) 64) == 0) = true := beq_iff_eq.mpr c19
                  have c19b1 : ((Go.bits .and .i64 (wrap64 (bt a0 (ji14))) 64) != 0) = false := bne_eq_false_iff_eq.mpr c19
                  clear c19
                  (first | rw [c19b0] | (simp only [i64_w, i32_w]; rw [c19b0]) | skip)
                  have H' := Aside0.mk H
                  clear H
                  go_wp2
                  go_meet
                  case rel => exact ⟨_, (false), (by first | rfl | (simp; done) | (simp [*]; done)), H', ⟨by have := HK1.out; first | omega | exact Nat.le_refl _⟩, by repeat (first | exact Drawn0.refl _ | apply Drawn0.step)⟩
                · rw [if_neg c19] at H
                  have c19b0 : ((Go.bits .and .i64 (wrap64 (bt a0 (ji14))) 64) == 0) = false := beq_eq_false_iff_ne.mpr c19
                  have c19b1 : ((Go.bits .and .i64 (wrap64 (bt a0 (ji14))) 64) != 0) = true := bne_iff_ne.mpr c19
                  (first | rw [c19b0] | (simp only [i64_w, i32_w]; rw [c19b0]) | skip)
                  have H' := Aside0.mk H
                  clear H
                  go_wp2
                  go_meet
                  case rel => exact ⟨_, (decide ((wrap64 (7 * t105)) < 64)), (by first | rfl | (simp; done) | (simp [*]; done)), H', ⟨by have := HK1.out; first | omega | exact Nat.le_refl _⟩, by repeat (first | exact Drawn0.refl _ | apply Drawn0.step)⟩
              case rest =>
                clear HC18
                try clear c1
                try clear p1
                try clear q1
                try clear hx1
                try clear p2
                try clear c5
                try clear c5b0
                try clear c5b1
                try clear c6
                try clear c6b0
                try clear p6
                try clear c8
                try clear c8b0
                try clear c9
                try clear c9b0
                try clear p10
                try clear q10
                try clear hx10
                try clear c12
                try clear c12b0
                try clear c12b1
                try clear c15
                try clear c15b0
                try clear c16
                try clear c16b0
                try clear p17
                try clear q17
                try clear hx17
                try clear c19
                try clear c19b0
                try clear c19b1
                try clear p10
                try clear p17
                try clear p2
                try clear q10
                try clear q17
                obtain ⟨kq, x57_17, rfl, HA, HJ17, ⟨mc17, rfl⟩⟩ := hcut
                cases kq with
                | zero => exact absurd HA.out (by simp [leb_GetSigned.j1])
                | succ kj17 =>
                  have H := HA.out
                  clear HA
                  simp only [leb_GetSigned.j1] at H
                  have HC20 := Aside0.mk H
                  clear H
                  go_upto_if 57 with (fail)
                  go_cut [11] (fun v11 wc => ∃ (kq : Nat) (x11_19 : Int), v11 = .int .i64 x11_19 ∧ Aside0 (leb_GetSigned.j2 kq a1 a2 t105 x11_19 (wrap64 (bt a0 (ji14))) = some (r1, r2, r3)) ∧ Aside0 (kq ≤ kj17) ∧ Drawn0 w wc)
                  case first =>
                    have H := HC20.out
                    clear HC20
                    by_cases c21 : x57_17 = true
                    · subst c21
                      have H1 : (if 0 ≤ (wrap64 (7 * t105)) then (leb_GetSigned.j2 kj17 a1 a2 t105 (Go.bits .or .i64 x11_1 (shl .i64 (-1) (wrap64 (7 * t105)))) (wrap64 (bt a0 (ji14)))) else (none)) = some (r1, r2, r3) := by rw [if_pos rfl] at H; exact H
                      clear H
                      have H := H1
                      clear H1
                      obtain ⟨ji22, hji22⟩ : ∃ j_ : Int, (wrap64 (7 * t105)) = j_ := ⟨_, rfl⟩
                      replace H : (if 0 ≤ (ji22) then (leb_GetSigned.j2 kj17 a1 a2 t105 (Go.bits .or .i64 x11_1 (shl .i64 (-1) (ji22))) (wrap64 (bt a0 (ji14)))) else (none)) = some (r1, r2, r3) := by first | (rw [hji22] at H; exact H) | (simp only [hji22] at H ⊢; exact H)
                      have hji22w : (IntKind.i64.wrap (7 * t105)) = ji22 := (i64_w _).trans hji22
                      by_cases c23 : 0 ≤ (ji22)
                      · rw [if_pos c23] at H
                        have c23b0 := eq_true c23
                        have c23b1 : decide (0 ≤ (ji22)) = true := decide_eq_true c23
                        clear c23
                        obtain ⟨ji24, hji24⟩ : ∃ j_ : Int, (shl .i64 (-1) (ji22)) = j_ := ⟨_, rfl⟩
                        replace H : (leb_GetSigned.j2 kj17 a1 a2 t105 (Go.bits .or .i64 x11_1 (ji24)) (wrap64 (bt a0 (ji14)))) = some (r1, r2, r3) := by first | (rw [hji24] at H; exact H) | (simp only [hji24] at H ⊢; exact H)
                        have hji24_ : (IntKind.i64.wrap ((-1) * 2 ^ min (ji22).toNat 64)) = ji24 := hji24
                        have hji24z : (ji22) ≤ 64 → (IntKind.i64.wrap ((-1) * 2 ^ (ji22).toNat)) = ji24 := shl_small hji24
                        have hji24n : (IntKind.i64.wrap (-2 ^ min (ji22).toNat 64)) = ji24 := by have h_ := hji24_; rw [Int.neg_one_mul] at h_; exact h_
                        have hji24m : (ji22) ≤ 64 → (IntKind.i64.wrap (-2 ^ (ji22).toNat)) = ji24 := fun hle_ => by have h_ := hji24z hle_; rw [Int.neg_one_mul] at h_; exact h_
                        have hji24k : (wrap64 (-2 ^ min (ji22).toNat 64)) = ji24 := (i64_w _).symm.trans hji24n
                        have hji24j : (ji22) ≤ 64 → (wrap64 (-2 ^ (ji22).toNat)) = ji24 := fun h_ => (i64_w _).symm.trans (hji24m h_)
                        have hji24y : (wrap64 ((-1) * 2 ^ min (ji22).toNat 64)) = ji24 := (i64_w _).symm.trans hji24_
                        have hji24x : (ji22) ≤ 64 → (wrap64 ((-1) * 2 ^ (ji22).toNat)) = ji24 := fun h_ => (i64_w _).symm.trans (hji24z h_)
                        have H' := Aside0.mk H
                        clear H
                        go_wp2
                        go_meet
                        case rel => exact ⟨_, (Go.bits .or .i64 x11_1 (ji24)), (by first | rfl | (simp; done) | (simp only [← hji24] <;> (first | rfl | simp)) | (simp [*]; done)), H', ⟨by have := HK1.out; have := HJ17.out; first | omega | exact Nat.le_refl _⟩, by repeat (first | exact Drawn0.refl _ | apply Drawn0.step)⟩
                      · rw [if_neg c23] at H
                        exact absurd H (by simp)
                    · replace c21 := Bool.eq_false_iff.mpr c21
                      subst c21
                      have H1 : (leb_GetSigned.j2 kj17 a1 a2 t105 x11_1 (wrap64 (bt a0 (ji14)))) = some (r1, r2, r3) := by rw [if_neg (show ¬ (false = true) by decide)] at H; exact H
                      clear H
                      have H := H1
                      clear H1
                      have H' := Aside0.mk H
                      clear H
                      go_wp2
                      go_meet
                      case rel => exact ⟨_, (x11_1), (by first | rfl | (simp; done) | (simp [*]; done)), H', ⟨by have := HK1.out; have := HJ17.out; first | omega | exact Nat.le_refl _⟩, by repeat (first | exact Drawn0.refl _ | apply Drawn0.step)⟩
                  case rest =>
                    clear HC20
                    try clear c1
                    try clear p1
                    try clear q1
                    try clear hx1
                    try clear c2
                    try clear p2
                    try clear c5
                    try clear c5b0
                    try clear c5b1
                    try clear c6
                    try clear c6b0
                    try clear p6
                    try clear c8
                    try clear c8b0
                    try clear c9
                    try clear c9b0
                    try clear p10
                    try clear q10
                    try clear hx10
                    try clear c12
                    try clear c12b0
                    try clear c12b1
                    try clear c15
                    try clear c15b0
                    try clear c16
                    try clear c16b0
                    try clear c17
                    try clear p17
                    try clear q17
                    try clear hx17
                    try clear c19
                    try clear c19b0
                    try clear c19b1
                    try clear c21
                    try clear c23
                    try clear c23b0
                    try clear c23b1
                    try clear p1
                    try clear p10
                    try clear p17
                    try clear p2
                    try clear p6
                    try clear q1
                    try clear q10
                    try clear q17
                    obtain ⟨kq, x11_19, rfl, HA, HJ19, ⟨mc19, rfl⟩⟩ := hcut
                    cases kq with
                    | zero => exact absurd HA.out (by simp [leb_GetSigned.j2])
                    | succ kj19 =>
                      have H := HA.out
                      clear HA
                      simp only [leb_GetSigned.j2] at H
                      replace H := Option.bind_eq_some_iff.mp H
                      obtain ⟨t107, A250, H⟩ := H
                      replace H : (if t105 = t107 then (if 0 ≤ (wrap64 ((wrap64 (a2 - (wrap64 (7 * (wrap64 (t105 - 1)))))) - 1)) then (if (shr .i64 (wrap64 (bt a0 (ji14))) (wrap64 ((wrap64 (a2 - (wrap64 (7 * (wrap64 (t105 - 1)))))) - 1))) = 0 then (some (x11_19, wrap64 (a1 + t105), 0)) else (if 0 ≤ (wrap64 (8 - (wrap64 (a2 - (wrap64 (7 * (wrap64 (t105 - 1)))))))) then (if (shr .i64 (wrap64 (bt a0 (ji14))) (wrap64 ((wrap64 (a2 - (wrap64 (7 * (wrap64 (t105 - 1)))))) - 1))) = (wrap64 ((shl .i64 1 (wrap64 (8 - (wrap64 (a2 - (wrap64 (7 * (wrap64 (t105 - 1))))))))) - 1)) then (some (x11_19, wrap64 (a1 + t105), 0)) else (some (0, 0, 1200))) else (none))) else (none)) else (some (x11_19, wrap64 (a1 + t105), 0))) = some (r1, r2, r3) := H
                      have A25 := Aside0.mk A250
                      clear A250
                      by_cases c26 : t105 = t107
                      · rw [if_pos c26] at H
                        have c26b0 : (t105 == t107) = true := beq_iff_eq.mpr c26
                        have c26b1 : (t105 != t107) = false := bne_eq_false_iff_eq.mpr c26
                        clear c26
                        obtain ⟨ji27, hji27⟩ : ∃ j_ : Int, (wrap64 ((wrap64 (a2 - (wrap64 (7 * (wrap64 (t105 - 1)))))) - 1)) = j_ := ⟨_, rfl⟩
                        replace H : (if 0 ≤ (ji27) then (if (shr .i64 (wrap64 (bt a0 (ji14))) (ji27)) = 0 then (some (x11_19, wrap64 (a1 + t105), 0)) else (if 0 ≤ (wrap64 (8 - (wrap64 (a2 - (wrap64 (7 * (wrap64 (t105 - 1)))))))) then (if (shr .i64 (wrap64 (bt a0 (ji14))) (ji27)) = (wrap64 ((shl .i64 1 (wrap64 (8 - (wrap64 (a2 - (wrap64 (7 * (wrap64 (t105 - 1))))))))) - 1)) then (some (x11_19, wrap64 (a1 + t105), 0)) else (some (0, 0, 1200))) else (none))) else (none)) = some (r1, r2, r3) := by first | (rw [hji27] at H; exact H) | (simp only [hji27] at H ⊢; exact H)
                        (try rw [hji27] at A25)
                        have hji27w : (IntKind.i64.wrap ((wrap64 (a2 - (wrap64 (7 * (wrap64 (t105 - 1)))))) - 1)) = ji27 := (i64_w _).trans hji27
                        by_cases c28 : 0 ≤ (ji27)
                        · rw [if_pos c28] at H
                          have c28b0 := eq_true c28
                          have c28b1 : decide (0 ≤ (ji27)) = true := decide_eq_true c28
                          clear c28
                          obtain ⟨ji29, hji29⟩ : ∃ j_ : Int, (shr .i64 (wrap64 (bt a0 (ji14))) (ji27)) = j_ := ⟨_, rfl⟩
                          replace H : (if (ji29) = 0 then (some (x11_19, wrap64 (a1 + t105), 0)) else (if 0 ≤ (wrap64 (8 - (wrap64 (a2 - (wrap64 (7 * (wrap64 (t105 - 1)))))))) then (if (ji29) = (wrap64 ((shl .i64 1 (wrap64 (8 - (wrap64 (a2 - (wrap64 (7 * (wrap64 (t105 - 1))))))))) - 1)) then (some (x11_19, wrap64 (a1 + t105), 0)) else (some (0, 0, 1200))) else (none))) = some (r1, r2, r3) := by first | (rw [hji29] at H; exact H) | (simp only [hji29] at H ⊢; exact H)
                          (try rw [hji29] at A25)
                          have hji29_ : ((wrap64 (bt a0 (ji14))) / 2 ^ min (ji27).toNat 64) = ji29 := hji29
                          have hji29z : (ji27) ≤ 64 → ((wrap64 (bt a0 (ji14))) / 2 ^ (ji27).toNat) = ji29 := shr_small hji29
                          by_cases c30 : (ji29) = 0
                          · rw [if_pos c30] at H
                            have c30b0 : ((ji29) == 0) = true := beq_iff_eq.mpr c30
                            have c30b1 : ((ji29) != 0) = false := bne_eq_false_iff_eq.mpr c30
                            clear c30
                            simp only [Option.some.injEq, Prod.mk.injEq] at H
                            obtain ⟨rfl, rfl, rfl⟩ := H
                            go_wp2_with (first | ((with_reducible refine gate_callee (f := 57) rfl ?_); refine goesL_ (some 65) rfl rfl Tryd.func57 (by kernel_rfl) rfl #[.int .i64 a2] rfl (by (try simp only [List.map_toArray, List.map_cons, List.map_nil]); first | done | rfl | (simp only [List.length_drop, List.length_take]; rfl)) ?_; (with_reducible refine (leb_most.calls a2 t107 _ A25.out).mono ?_); rintro e w' ⟨rfl, ⟨nd, rfl⟩⟩; refine ⟨_, rfl, ?_⟩))
                            go_ret3
                            exact ⟨by first | rfl | (simp; done) | (simp only [← hji14, ← hji27, ← hji29] <;> (first | rfl | simp)) | (simp [*]; done), by repeat (first | exact Drawn0.refl _ | apply Drawn0.step)⟩
                          · rw [if_neg c30] at H
                            have c30b0 : ((ji29) == 0) = false := beq_eq_false_iff_ne.mpr c30
                            have c30b1 : ((ji29) != 0) = true := bne_iff_ne.mpr c30
                            obtain ⟨ji31, hji31⟩ : ∃ j_ : Int, (wrap64 (8 - (wrap64 (a2 - (wrap64 (7 * (wrap64 (t105 - 1)))))))) = j_ := ⟨_, rfl⟩
                            replace H : (if 0 ≤ (ji31) then (if (ji29) = (wrap64 ((shl .i64 1 (ji31)) - 1)) then (some (x11_19, wrap64 (a1 + t105), 0)) else (some (0, 0, 1200))) else (none)) = some (r1, r2, r3) := by first | (rw [hji31] at H; exact H) | (simp only [hji31] at H ⊢; exact H)
                            (try rw [hji31] at A25)
                            have hji31w : (IntKind.i64.wrap (8 - (wrap64 (a2 - (wrap64 (7 * (wrap64 (t105 - 1)))))))) = ji31 := (i64_w _).trans hji31
                            by_cases c32 : 0 ≤ (ji31)
                            · rw [if_pos c32] at H
                              have c32b0 := eq_true c32
                              have c32b1 : decide (0 ≤ (ji31)) = true := decide_eq_true c32
                              clear c32
                              obtain ⟨ji33, hji33⟩ : ∃ j_ : Int, (shl .i64 1 (ji31)) = j_ := ⟨_, rfl⟩
                              replace H : (if (ji29) = (wrap64 ((ji33) - 1)) then (some (x11_19, wrap64 (a1 + t105), 0)) else (some (0, 0, 1200))) = some (r1, r2, r3) := by first | (rw [hji33] at H; exact H) | (simp only [hji33] at H ⊢; exact H)
                              (try rw [hji33] at A25)
                              have hji33_ : (IntKind.i64.wrap (1 * 2 ^ min (ji31).toNat 64)) = ji33 := hji33
                              have hji33z : (ji31) ≤ 64 → (IntKind.i64.wrap (1 * 2 ^ (ji31).toNat)) = ji33 := shl_small hji33
                              have hji33u : (IntKind.i64.wrap (2 ^ min (ji31).toNat 64)) = ji33 := by have h_ := hji33_; rw [Int.one_mul] at h_; exact h_
                              have hji33v : (ji31) ≤ 64 → (IntKind.i64.wrap (2 ^ (ji31).toNat)) = ji33 := fun hle_ => by have h_ := hji33z hle_; rw [Int.one_mul] at h_; exact h_
                              have hji33y : (wrap64 (1 * 2 ^ min (ji31).toNat 64)) = ji33 := (i64_w _).symm.trans hji33_
                              have hji33x : (ji31) ≤ 64 → (wrap64 (1 * 2 ^ (ji31).toNat)) = ji33 := fun h_ => (i64_w _).symm.trans (hji33z h_)
                              by_cases c34 : (ji29) = (wrap64 ((ji33) - 1))
                              · rw [if_pos c34] at H
                                have c34b0 : ((ji29) == (wrap64 ((ji33) - 1))) = true := beq_iff_eq.mpr c34
                                have c34b1 : ((ji29) != (wrap64 ((ji33) - 1))) = false := bne_eq_false_iff_eq.mpr c34
                                clear c34
                                simp only [Option.some.injEq, Prod.mk.injEq] at H
                                obtain ⟨rfl, rfl, rfl⟩ := H
                                go_wp2_with (first | ((with_reducible refine gate_callee (f := 57) rfl ?_); refine goesL_ (some 65) rfl rfl Tryd.func57 (by kernel_rfl) rfl #[.int .i64 a2] rfl (by (try simp only [List.map_toArray, List.map_cons, List.map_nil]); first | done | rfl | (simp only [List.length_drop, List.length_take]; rfl)) ?_; (with_reducible refine (leb_most.calls a2 t107 _ A25.out).mono ?_); rintro e w' ⟨rfl, ⟨nd, rfl⟩⟩; refine ⟨_, rfl, ?_⟩))
                                go_ret3
                                exact ⟨by first | rfl | (simp; done) | (simp only [← hji14, ← hji27, ← hji29, ← hji31, ← hji33] <;> (first | rfl | simp)) | (simp [*]; done), by repeat (first | exact Drawn0.refl _ | apply Drawn0.step)⟩
                              · rw [if_neg c34] at H
                                have c34b0 : ((ji29) == (wrap64 ((ji33) - 1))) = false := beq_eq_false_iff_ne.mpr c34
                                have c34b1 : ((ji29) != (wrap64 ((ji33) - 1))) = true := bne_iff_ne.mpr c34
                                simp only [Option.some.injEq, Prod.mk.injEq] at H
                                obtain ⟨rfl, rfl, rfl⟩ := H
                                go_wp2_with (first | ((with_reducible refine gate_callee (f := 57) rfl ?_); refine goesL_ (some 65) rfl rfl Tryd.func57 (by kernel_rfl) rfl #[.int .i64 a2] rfl (by (try simp only [List.map_toArray, List.map_cons, List.map_nil]); first | done | rfl | (simp only [List.length_drop, List.length_take]; rfl)) ?_; (with_reducible refine (leb_most.calls a2 t107 _ A25.out).mono ?_); rintro e w' ⟨rfl, ⟨nd, rfl⟩⟩; refine ⟨_, rfl, ?_⟩))
                                go_ret3
                                exact ⟨by first | rfl | (simp; done) | (simp only [← hji14, ← hji27, ← hji29, ← hji31, ← hji33] <;> (first | rfl | simp)) | (simp [*]; done), by repeat (first | exact Drawn0.refl _ | apply Drawn0.step)⟩
                            · rw [if_neg c32] at H
                              exact absurd H (by simp)
                        · rw [if_neg c28] at H
                          exact absurd H (by simp)
                      · rw [if_neg c26] at H
                        have c26b0 : (t105 == t107) = false := beq_eq_false_iff_ne.mpr c26
                        have c26b1 : (t105 != t107) = true := bne_iff_ne.mpr c26
                        simp only [Option.some.injEq, Prod.mk.injEq] at H
                        obtain ⟨rfl, rfl, rfl⟩ := H
                        go_wp2_with (first | ((with_reducible refine gate_callee (f := 57) rfl ?_); refine goesL_ (some 65) rfl rfl Tryd.func57 (by kernel_rfl) rfl #[.int .i64 a2] rfl (by (try simp only [List.map_toArray, List.map_cons, List.map_nil]); first | done | rfl | (simp only [List.length_drop, List.length_take]; rfl)) ?_; (with_reducible refine (leb_most.calls a2 t107 _ A25.out).mono ?_); rintro e w' ⟨rfl, ⟨nd, rfl⟩⟩; refine ⟨_, rfl, ?_⟩))
                        go_ret3
                        exact ⟨by first | rfl | (simp; done) | (simp only [← hji14] <;> (first | rfl | simp)) | (simp [*]; done), by repeat (first | exact Drawn0.refl _ | apply Drawn0.step)⟩
            · rw [if_neg c16] at H
              exact absurd H (by simp)
          · rw [if_neg c15] at H
            exact absurd H (by simp)
  · rw [if_neg c5] at H
    have c5b0 : (t106 == 0) = false := beq_eq_false_iff_ne.mpr c5
    have c5b1 : (t106 != 0) = true := bne_iff_ne.mpr c5
    simp only [Option.some.injEq, Prod.mk.injEq] at H
    obtain ⟨rfl, rfl, rfl⟩ := H
    go_enter Tryd.func84, Tryd.ntmps84
    go_wp2_with (first | ((with_reducible refine gate_callee (f := 56) rfl ?_); refine goesL_ (some 20) rfl rfl Tryd.func56 (by kernel_rfl) rfl #[.string a0, .int .i64 a1, .int .i64 a2] rfl (by (try simp only [List.map_toArray, List.map_cons, List.map_nil]); first | done | rfl | (simp only [List.length_drop, List.length_take]; rfl)) ?_; (with_reducible refine (leb_parts.calls k a0 a1 a2 t105 t106 _ A4.out).mono ?_); rintro e w' ⟨rfl, ⟨nd, rfl⟩⟩; refine ⟨_, rfl, ?_⟩))
    go_ret3
    exact ⟨by first | rfl | (simp; done) | (simp [*]; done), by repeat (first | exact Drawn0.refl _ | apply Drawn0.step)⟩
def bits_Low.f (a0 : Int) : Option (Int) := some ((a0) % 4294967296)
set_option maxHeartbeats 8000000 in
set_option maxRecDepth 100000 in
theorem bits_Low.calls (a0 : Int) (r : Int) (w : World) (h : bits_Low.f a0 = some r) :
    Calls Tryd.prog 85 #[.int .i64 a0] w fun e w' => e = .returned (.int .i64 r) ∧ Drawn0 w w' := by
  have H : (some ((a0) % 4294967296)) = some r := h
  clear h
  obtain rfl := Option.some.inj H
  go_enter Tryd.func85, Tryd.ntmps85
  go_wp2
  go_ret
  exact ⟨by first | rfl | (simp; done) | (simp [*]; done), by repeat (first | exact Drawn0.refl _ | apply Drawn0.step)⟩
def instr_Type.f (a0 : Int) : Option (Bool) := if a0 = 64 then (some true) else (if a0 ≥ 124 then (some (decide (a0 ≤ 127))) else (some false))
set_option maxHeartbeats 8000000 in
set_option maxRecDepth 100000 in
theorem instr_Type.calls (a0 : Int) (r : Bool) (w : World) (h : instr_Type.f a0 = some r) :
    Calls Tryd.prog 71 #[.int .i64 a0] w fun e w' => e = .returned (.bool r) ∧ Drawn0 w w' := by
  have H : (if a0 = 64 then (some true) else (if a0 ≥ 124 then (some (decide (a0 ≤ 127))) else (some false))) = some r := h
  clear h
  by_cases c2 : a0 = 64
  · rw [if_pos c2] at H
    have c2b0 : (a0 == 64) = true := beq_iff_eq.mpr c2
    have c2b1 : (a0 != 64) = false := bne_eq_false_iff_eq.mpr c2
    clear c2
    obtain rfl := Option.some.inj H
    go_enter Tryd.func71, Tryd.ntmps71
    go_wp2
    go_ret
    exact ⟨by first | rfl | (simp; done) | (simp [*]; done), by repeat (first | exact Drawn0.refl _ | apply Drawn0.step)⟩
  · rw [if_neg c2] at H
    have c2b0 : (a0 == 64) = false := beq_eq_false_iff_ne.mpr c2
    have c2b1 : (a0 != 64) = true := bne_iff_ne.mpr c2
    by_cases c3 : a0 ≥ 124
    · rw [if_pos c3] at H
      have c3b0 : decide (124 ≤ a0) = true := decide_eq_true c3
      clear c3
      obtain rfl := Option.some.inj H
      go_enter Tryd.func71, Tryd.ntmps71
      go_wp2
      go_ret
      exact ⟨by first | rfl | (simp; done) | (simp [*]; done), by repeat (first | exact Drawn0.refl _ | apply Drawn0.step)⟩
    · rw [if_neg c3] at H
      have c3b0 : decide (124 ≤ a0) = false := decide_eq_false c3
      clear c3
      obtain rfl := Option.some.inj H
      go_enter Tryd.func71, Tryd.ntmps71
      go_wp2
      go_ret
      exact ⟨by first | rfl | (simp; done) | (simp [*]; done), by repeat (first | exact Drawn0.refl _ | apply Drawn0.step)⟩
def instr_wide.f (a0 : Int) : Option (Bool) := if a0 = 66 then (some true) else (some (a0 == 68))
set_option maxHeartbeats 8000000 in
set_option maxRecDepth 100000 in
theorem instr_wide.calls (a0 : Int) (r : Bool) (w : World) (h : instr_wide.f a0 = some r) :
    Calls Tryd.prog 82 #[.int .i64 a0] w fun e w' => e = .returned (.bool r) ∧ Drawn0 w w' := by
  have H : (if a0 = 66 then (some true) else (some (a0 == 68))) = some r := h
  clear h
  by_cases c2 : a0 = 66
  · rw [if_pos c2] at H
    have c2b0 : (a0 == 66) = true := beq_iff_eq.mpr c2
    have c2b1 : (a0 != 66) = false := bne_eq_false_iff_eq.mpr c2
    clear c2
    obtain rfl := Option.some.inj H
    go_enter Tryd.func82, Tryd.ntmps82
    go_wp2
    go_ret
    exact ⟨by first | rfl | (simp; done) | (simp [*]; done), by repeat (first | exact Drawn0.refl _ | apply Drawn0.step)⟩
  · rw [if_neg c2] at H
    have c2b0 : (a0 == 66) = false := beq_eq_false_iff_ne.mpr c2
    have c2b1 : (a0 != 66) = true := bne_iff_ne.mpr c2
    obtain rfl := Option.some.inj H
    go_enter Tryd.func82, Tryd.ntmps82
    go_wp2
    go_ret
    exact ⟨by first | rfl | (simp; done) | (simp [*]; done), by repeat (first | exact Drawn0.refl _ | apply Drawn0.step)⟩
end Go.Proofs.YtkdoijfjceeblaaDoor.F
end
section
namespace Go.Proofs.YtkdoijfjceeblaaDoor.F
open Go.RowKit Go.Proofs.YtkdoijfjceeblaaDoorW.PrintWords Go.Proofs.YtkdoijfjceeblaaDoorW.PrintLast Go.Proofs.YtkdoijfjceeblaaDoorW.PrintMore
attribute [local go_sem] max2_int min2_int max_two min_two max_three min_three max_four min_four
set_option linter.unusedVariables false
set_option linter.unusedSimpArgs false
def ftype_Value.f (a0 : Int) : Option (Bool) := if a0 = 64 then (some false) else ((instr_Type.f a0).bind fun t108 => (some t108))
set_option maxHeartbeats 8000000 in
set_option maxRecDepth 100000 in
theorem ftype_Value.calls (a0 : Int) (r : Bool) (w : World) (h : ftype_Value.f a0 = some r) :
    Calls Tryd.prog 68 #[.int .i64 a0] w fun e w' => e = .returned (.bool r) ∧ Drawn0 w w' := by
  have H : (if a0 = 64 then (some false) else ((instr_Type.f a0).bind fun t108 => (some t108))) = some r := h
  clear h
  by_cases c2 : a0 = 64
  · rw [if_pos c2] at H
    have c2b0 : (a0 == 64) = true := beq_iff_eq.mpr c2
    have c2b1 : (a0 != 64) = false := bne_eq_false_iff_eq.mpr c2
    clear c2
    obtain rfl := Option.some.inj H
    go_enter Tryd.func68, Tryd.ntmps68
    go_wp2
    go_ret
    exact ⟨by first | rfl | (simp; done) | (simp [*]; done), by repeat (first | exact Drawn0.refl _ | apply Drawn0.step)⟩
  · rw [if_neg c2] at H
    have c2b0 : (a0 == 64) = false := beq_eq_false_iff_ne.mpr c2
    have c2b1 : (a0 != 64) = true := bne_iff_ne.mpr c2
    replace H := Option.bind_eq_some_iff.mp H
    obtain ⟨t108, A30, H⟩ := H
    replace H : (some t108) = some r := H
    have A3 := Aside0.mk A30
    clear A30
    obtain rfl := Option.some.inj H
    go_enter Tryd.func68, Tryd.ntmps68
    go_wp2_with (first | (go_at_call 71; (with_reducible refine (instr_Type.calls a0 t108 _ A3.out).mono ?_); rintro e w' ⟨rfl, ⟨nd, rfl⟩⟩))
    go_ret
    exact ⟨by first | rfl | (simp; done) | (simp [*]; done), by repeat (first | exact Drawn0.refl _ | apply Drawn0.step)⟩
def peloruslaw0_SameInts.l0 : Nat → List Int → List Int → Int → Option (Bool)
  | 0, _, _, _ => none
  | k + 1, x0, x1, x5 => if x5 < (x0.length : Int) then (if 0 ≤ x5 then (if x5 < (x1.length : Int) then (if (rd x0 x5) = (rd x1 x5) then (peloruslaw0_SameInts.l0 k x0 x1 (wrap64 (x5 + 1))) else (some false)) else (none)) else (none)) else (some true)
def peloruslaw0_SameInts.f (k : Nat) (l0 : List Int) (l1 : List Int) : Option (Bool) := if (l0.length : Int) = (l1.length : Int) then (peloruslaw0_SameInts.l0 k l0 l1 0) else (some false)
theorem peloruslaw0_SameInts.mono_l : ∀ k, (∀ y0 y1 y2, LeO (peloruslaw0_SameInts.l0 k y0 y1 y2) (peloruslaw0_SameInts.l0 (k + 1) y0 y1 y2))
  | 0 => fun _ _ _ r h => by simp [peloruslaw0_SameInts.l0] at h
  | k + 1 => by
    have ih0 := peloruslaw0_SameInts.mono_l k
    · intro y0 y1 y2
      unfold peloruslaw0_SameInts.l0
      repeat' first
      | (with_reducible exact ih0 _ _ _)
      | (with_reducible exact LeO.refl _)
      | (with_reducible exact LeO.none _)
      | (with_reducible refine LeO.ite ?_ ?_)
      | (with_reducible refine LeO.bind ?_ (fun _ => ?_))
      | exact ih0 _ _ _
      | exact LeO.none _
      | refine LeO.ite ?_ ?_
      | refine LeO.bind ?_ (fun _ => ?_)
theorem peloruslaw0_SameInts.mono : ∀ a0 a1 k, LeO (peloruslaw0_SameInts.f k a0 a1) (peloruslaw0_SameInts.f (k + 1) a0 a1) := by
  intro a0 a1 k
  have ih0 := peloruslaw0_SameInts.mono_l k
  unfold peloruslaw0_SameInts.f
  repeat' first
      | (with_reducible exact ih0 _ _ _)
      | (with_reducible exact LeO.refl _)
      | (with_reducible exact LeO.none _)
      | (with_reducible refine LeO.ite ?_ ?_)
      | (with_reducible refine LeO.bind ?_ (fun _ => ?_))
      | exact ih0 _ _ _
      | exact LeO.none _
      | refine LeO.ite ?_ ?_
      | refine LeO.bind ?_ (fun _ => ?_)
set_option maxHeartbeats 8000000 in
set_option maxRecDepth 100000 in
theorem peloruslaw0_SameInts.calls (k : Nat) (A0 : Option Addr) (c0 : Nat) (l0 : List Int) (A1 : Option Addr) (c1 : Nat) (l1 : List Int) (r : Bool) (w : World) (hr0 : Kd.C (Kd.int .i64) w A0 l0.length l0) (hc0 : l0.length ≤ c0) (hr1 : Kd.C (Kd.int .i64) w A1 l1.length l1) (hc1 : l1.length ≤ c1) (h : peloruslaw0_SameInts.f k l0 l1 = some r) :
    Calls Tryd.prog 30 #[.slice A0 l0.length c0, .slice A1 l1.length c1] w fun e w' => e = .returned (.bool r) ∧ Drawn0 w w' := by
  have HR0 := Aside0.mk hr0
  have HC0 := Aside0.mk hc0
  clear hr0 hc0
  have HR1 := Aside0.mk hr1
  have HC1 := Aside0.mk hc1
  clear hr1 hc1
  have H : (if (l0.length : Int) = (l1.length : Int) then (peloruslaw0_SameInts.l0 k l0 l1 0) else (some false)) = some r := h
  clear h
  by_cases c3 : (l0.length : Int) = (l1.length : Int)
  · rw [if_pos c3] at H
    have c3b0 : ((l0.length : Int) == (l1.length : Int)) = true := beq_iff_eq.mpr c3
    have c3b1 : ((l0.length : Int) != (l1.length : Int)) = false := bne_eq_false_iff_eq.mpr c3
    have c3b2 : (l0.length == l1.length) = true := by first | simpa using c3 | (simp at c3 ⊢; omega)
    clear c3
    have H' := Aside0.mk H
    clear H
    go_enter Tryd.func30, Tryd.ntmps30
    go_wp2
    repeat (go_quiet (fail); try go_wp2)
    go_loopg [5] k (fun kq v5 w' => ∃ (x5_1 : Int), v5 = .int .i64 x5_1 ∧ Aside0 (peloruslaw0_SameInts.l0 kq l0 l1 x5_1 = some r) ∧ Aside0 (kq ≤ k) ∧ Drawn0 w w')
    case atStart => exact ⟨(0), (by first | rfl | (simp; done) | (simp [*]; done)), H', ⟨Nat.le_refl _⟩, by repeat (first | exact Drawn0.refl _ | apply Drawn0.step)⟩
    case round =>
      clear H'
      try clear c1
      try clear p2
      try clear c3
      try clear c3b0
      try clear c3b1
      try clear c3b2
      obtain ⟨x5_1, rfl, HA, HK1, ⟨m1, rfl⟩⟩ := hrel
      cases gk with
      | zero => exact absurd HA.out (by simp [peloruslaw0_SameInts.l0])
      | succ k1 =>
        have H := HA.out
        clear HA
        simp only [peloruslaw0_SameInts.l0] at H
        by_cases c4 : x5_1 < (l0.length : Int)
        · rw [if_pos c4] at H
          have c4b0 : decide (x5_1 < (l0.length : Int)) = true := decide_eq_true c4
          clear c4
          by_cases c5 : 0 ≤ x5_1
          · rw [if_pos c5] at H
            have c5b0 : decide (0 ≤ x5_1) = true := decide_eq_true c5
            clear c5
            by_cases c6 : x5_1 < (l1.length : Int)
            · rw [if_pos c6] at H
              have c6b0 : decide (x5_1 < (l1.length : Int)) = true := decide_eq_true c6
              clear c6
              by_cases c7 : (rd l0 x5_1) = (rd l1 x5_1)
              · rw [if_pos c7] at H
                have c7b0 : ((rd l0 x5_1) == (rd l1 x5_1)) = true := beq_iff_eq.mpr c7
                have c7b1 : ((rd l0 x5_1) != (rd l1 x5_1)) = false := bne_eq_false_iff_eq.mpr c7
                clear c7
                have H' := Aside0.mk H
                clear H
                have p109 : 0 ≤ (x5_1 : Int) := of_decide_eq_true (by first | (with_reducible assumption) | assumption)
                have q109 : x5_1 < (l0.length : Int) := of_decide_eq_true (by first | (with_reducible assumption) | assumption)
                obtain ⟨ad109, e109, hx109_0⟩ := Kd.at_int HR0.out x5_1 p109 q109
                cases e109
                replace p109 := eq_true p109
                replace q109 := eq_true q109
                have p110 : 0 ≤ (x5_1 : Int) := of_decide_eq_true (by first | (with_reducible assumption) | assumption)
                have q110 : x5_1 < (l1.length : Int) := of_decide_eq_true (by first | (with_reducible assumption) | assumption)
                obtain ⟨ad110, e110, hx110_0⟩ := Kd.at_int HR1.out x5_1 p110 q110
                cases e110
                replace p110 := eq_true p110
                replace q110 := eq_true q110
                go_wp2
                repeat (go_quiet (fail); try go_wp2)
                go_roundg k1
                case measure => have := HK1.out; omega
                case rel => exact ⟨(wrap64 (x5_1 + 1)), (by first | rfl | (simp; done) | (simp [*]; done)), H', ⟨by have := HK1.out; omega⟩, by repeat (first | exact Drawn0.refl _ | apply Drawn0.step)⟩
              · rw [if_neg c7] at H
                have c7b0 : ((rd l0 x5_1) == (rd l1 x5_1)) = false := beq_eq_false_iff_ne.mpr c7
                have c7b1 : ((rd l0 x5_1) != (rd l1 x5_1)) = true := bne_iff_ne.mpr c7
                obtain rfl := Option.some.inj H
                have p109 : 0 ≤ (x5_1 : Int) := of_decide_eq_true (by first | (with_reducible assumption) | assumption)
                have q109 : x5_1 < (l0.length : Int) := of_decide_eq_true (by first | (with_reducible assumption) | assumption)
                obtain ⟨ad109, e109, hx109_0⟩ := Kd.at_int HR0.out x5_1 p109 q109
                cases e109
                replace p109 := eq_true p109
                replace q109 := eq_true q109
                have p110 : 0 ≤ (x5_1 : Int) := of_decide_eq_true (by first | (with_reducible assumption) | assumption)
                have q110 : x5_1 < (l1.length : Int) := of_decide_eq_true (by first | (with_reducible assumption) | assumption)
                obtain ⟨ad110, e110, hx110_0⟩ := Kd.at_int HR1.out x5_1 p110 q110
                cases e110
                replace p110 := eq_true p110
                replace q110 := eq_true q110
                go_wp2
                repeat (go_quiet (fail); try go_wp2)
                go_ret
                exact ⟨by first | rfl | (simp; done) | (simp [*]; done), by repeat (first | exact Drawn0.refl _ | apply Drawn0.step)⟩
            · rw [if_neg c6] at H
              exact absurd H (by simp)
          · rw [if_neg c5] at H
            exact absurd H (by simp)
        · rw [if_neg c4] at H
          have c4b0 : decide (x5_1 < (l0.length : Int)) = false := decide_eq_false c4
          clear c4
          obtain rfl := Option.some.inj H
          go_wp2
          repeat (go_quiet (fail); try go_wp2)
          go_ret
          exact ⟨by first | rfl | (simp; done) | (simp [*]; done), by repeat (first | exact Drawn0.refl _ | apply Drawn0.step)⟩
  · rw [if_neg c3] at H
    have c3b0 : ((l0.length : Int) == (l1.length : Int)) = false := beq_eq_false_iff_ne.mpr c3
    have c3b1 : ((l0.length : Int) != (l1.length : Int)) = true := bne_iff_ne.mpr c3
    have c3b2 : (l0.length == l1.length) = false := by first | simpa using c3 | (simp at c3 ⊢; omega)
    obtain rfl := Option.some.inj H
    go_enter Tryd.func30, Tryd.ntmps30
    go_wp2
    repeat (go_quiet (fail); try go_wp2)
    go_ret
    exact ⟨by first | rfl | (simp; done) | (simp [*]; done), by repeat (first | exact Drawn0.refl _ | apply Drawn0.step)⟩
def peloruslaw0_SameType.f (k : Nat) (l0_0 : List Int) (l0_1 : List Int) (l1_0 : List Int) (l1_1 : List Int) : Option (Bool) := (peloruslaw0_SameInts.f k l0_0 l1_0).bind fun t113 => (if t113 = true then ((peloruslaw0_SameInts.f k l0_1 l1_1).bind fun t114 => (some t114)) else (some false))
theorem peloruslaw0_SameType.mono : ∀ a0 a1 a2 a3 k, LeO (peloruslaw0_SameType.f k a0 a1 a2 a3) (peloruslaw0_SameType.f (k + 1) a0 a1 a2 a3) := by
  intro a0 a1 a2 a3 k
  unfold peloruslaw0_SameType.f
  repeat' first
      | (with_reducible exact peloruslaw0_SameInts.mono _ _ _)
      | (with_reducible exact LeO.refl _)
      | (with_reducible exact LeO.none _)
      | (with_reducible refine LeO.ite ?_ ?_)
      | (with_reducible refine LeO.bind ?_ (fun _ => ?_))
      | exact peloruslaw0_SameInts.mono _ _ _
      | exact LeO.none _
      | refine LeO.ite ?_ ?_
      | refine LeO.bind ?_ (fun _ => ?_)
set_option maxHeartbeats 8000000 in
set_option maxRecDepth 100000 in
theorem peloruslaw0_SameType.calls (k : Nat) (A0_0 : Option Addr) (c0_0 : Nat) (l0_0 : List Int) (A0_1 : Option Addr) (c0_1 : Nat) (l0_1 : List Int) (A1_0 : Option Addr) (c1_0 : Nat) (l1_0 : List Int) (A1_1 : Option Addr) (c1_1 : Nat) (l1_1 : List Int) (r : Bool) (w : World) (hr0_0 : Kd.C (Kd.int .i64) w A0_0 l0_0.length l0_0) (hc0_0 : l0_0.length ≤ c0_0) (hr0_1 : Kd.C (Kd.int .i64) w A0_1 l0_1.length l0_1) (hc0_1 : l0_1.length ≤ c0_1) (hr1_0 : Kd.C (Kd.int .i64) w A1_0 l1_0.length l1_0) (hc1_0 : l1_0.length ≤ c1_0) (hr1_1 : Kd.C (Kd.int .i64) w A1_1 l1_1.length l1_1) (hc1_1 : l1_1.length ≤ c1_1) (h : peloruslaw0_SameType.f k l0_0 l0_1 l1_0 l1_1 = some r) :
    Calls Tryd.prog 21 #[.agg #[.slice A0_0 l0_0.length c0_0, .slice A0_1 l0_1.length c0_1], .agg #[.slice A1_0 l1_0.length c1_0, .slice A1_1 l1_1.length c1_1]] w fun e w' => e = .returned (.bool r) ∧ Below w.heap.size w w' := by
  have hu51 := Tryd.underlying51
  have HR0_0 := Aside0.mk hr0_0
  have HC0_0 := Aside0.mk hc0_0
  clear hr0_0 hc0_0
  have HR0_1 := Aside0.mk hr0_1
  have HC0_1 := Aside0.mk hc0_1
  clear hr0_1 hc0_1
  have HR1_0 := Aside0.mk hr1_0
  have HC1_0 := Aside0.mk hc1_0
  clear hr1_0 hc1_0
  have HR1_1 := Aside0.mk hr1_1
  have HC1_1 := Aside0.mk hc1_1
  clear hr1_1 hc1_1
  have HB := Aside0.mk (Below.refl w.heap.size w)
  have H : ((peloruslaw0_SameInts.f k l0_0 l1_0).bind fun t113 => (if t113 = true then ((peloruslaw0_SameInts.f k l0_1 l1_1).bind fun t114 => (some t114)) else (some false))) = some r := h
  clear h
  replace H := Option.bind_eq_some_iff.mp H
  obtain ⟨t113, A30, H⟩ := H
  replace H : (if t113 = true then ((peloruslaw0_SameInts.f k l0_1 l1_1).bind fun t114 => (some t114)) else (some false)) = some r := H
  have A3 := Aside0.mk A30
  clear A30
  by_cases c4 : t113 = true
  · subst c4
    have H1 : ((peloruslaw0_SameInts.f k l0_1 l1_1).bind fun t114 => (some t114)) = some r := by rw [if_pos rfl] at H; exact H
    clear H
    have H := H1
    clear H1
    replace H := Option.bind_eq_some_iff.mp H
    obtain ⟨t114, A50, H⟩ := H
    replace H : (some t114) = some r := H
    have A5 := Aside0.mk A50
    clear A50
    obtain rfl := Option.some.inj H
    go_enter Tryd.func21, Tryd.ntmps21
    go_wp2_with (first | ((with_reducible refine gate_dst (N := 2) rfl ?_); refine box_event ?hg (N := 2) ?hd (cs := #[.slice A0_0 l0_0.length c0_0, .slice A0_1 l0_1.length c0_1]) (t := 51) ?hr ?_; (case hd => rfl); (case hg => rfl); (case hr => first | (go_simp; done) | (go_simp; rfl)); intro gb111 hg w6 hbox hb; have n0_ := Aside0.mk (below_step (by repeat (first | (with_reducible first | exact HB.out | apply below_alloc | apply pw_below_drewN | apply below_drew1) | exact HB.out)) hb); have n1_ := Aside0.mk (hbox); have n2_ := Aside0.mk ((by rw [hg]; exact (below_size (by repeat (first | (with_reducible first | exact HB.out | apply below_alloc | apply pw_below_drewN | apply below_drew1) | exact HB.out))) : w.heap.size ≤ gb111)); have n3_ := Aside0.mk ((by rw [hg]; exact (below_size (by repeat (first | (with_reducible first | exact HB.out | apply below_alloc | apply pw_below_drewN | apply below_drew1) | exact HB.out))) : w.heap.size ≤ gb111)); clear HB; have HB := n0_; have BK111 := n1_; have GW111 := n2_; have GE111 := n3_; clear n0_ n1_ n2_ n3_; clear hb hbox hg) | ((with_reducible refine gate_dst (N := 3) rfl ?_); refine box_event ?hg (N := 3) ?hd (cs := #[.slice A1_0 l1_0.length c1_0, .slice A1_1 l1_1.length c1_1]) (t := 51) ?hr ?_; (case hd => rfl); (case hg => rfl); (case hr => first | (go_simp; done) | (go_simp; rfl)); intro gb112 hg w7 hbox hb; have n0_ := Aside0.mk (blk_below (g := gb111) (o := .cells #[.slice A0_0 l0_0.length c0_0, .slice A0_1 l0_1.length c0_1] 51 (0, 0)) (by (with_reducible repeat (first | refine blk_drewN ?_ _ | refine blk_drew ?_ | refine blk_alloc ?_ _)); exact BK111.out) hb); have n1_ := Aside0.mk (below_step (by repeat (first | (with_reducible first | exact HB.out | apply below_alloc | apply pw_below_drewN | apply below_drew1 | refine below_set ?_ GE111.out) | exact HB.out)) hb); have n2_ := Aside0.mk (hbox); have n3_ := Aside0.mk ((by rw [hg]; exact (below_size (by repeat (first | (with_reducible first | exact HB.out | apply below_alloc | apply pw_below_drewN | apply below_drew1 | refine below_set ?_ GE111.out) | exact HB.out))) : w.heap.size ≤ gb112)); have n4_ := Aside0.mk ((by rw [hg]; exact (below_size (by repeat (first | (with_reducible first | exact HB.out | apply below_alloc | apply pw_below_drewN | apply below_drew1 | refine below_set ?_ GE111.out) | exact HB.out))) : w.heap.size ≤ gb112)); have n5_ := Aside0.mk ((by rw [hg]; exact Nat.ne_of_lt (blk_lt (g := gb111) (o := .cells #[.slice A0_0 l0_0.length c0_0, .slice A0_1 l0_1.length c0_1] 51 (0, 0)) (by (with_reducible repeat (first | refine blk_drewN ?_ _ | refine blk_drew ?_ | refine blk_alloc ?_ _)); exact BK111.out)) : gb111 ≠ gb112)); have n6_ := Aside0.mk ((by rw [hg]; exact Nat.ne_of_gt (blk_lt (g := gb111) (o := .cells #[.slice A0_0 l0_0.length c0_0, .slice A0_1 l0_1.length c0_1] 51 (0, 0)) (by (with_reducible repeat (first | refine blk_drewN ?_ _ | refine blk_drew ?_ | refine blk_alloc ?_ _)); exact BK111.out)) : gb112 ≠ gb111)); clear BK111; clear HB; have BK111 := n0_; have HB := n1_; have BK112 := n2_; have GW112 := n3_; have GE112 := n4_; have NB111_112 := n5_; have NB112_111 := n6_; clear n0_ n1_ n2_ n3_ n4_ n5_ n6_; clear hb hbox hg; have hnb8 := NB111_112.out; have hnc8 := NB112_111.out; have hcz9_0 : w7.cell? ⟨gb111, 0, none⟩ = some (.slice A0_0 l0_0.length c0_0) := (blk_cell BK111.out 0).trans rfl; have hcz9_1 : w7.cell? ⟨gb111, 1, none⟩ = some (.slice A0_1 l0_1.length c0_1) := (blk_cell BK111.out 1).trans rfl; have hfz9_0 := blk_frozen BK111.out 0; have hfz9_1 := blk_frozen BK111.out 1; have hcz10_0 : w7.cell? ⟨gb112, 0, none⟩ = some (.slice A1_0 l1_0.length c1_0) := (blk_cell BK112.out 0).trans rfl; have hcz10_1 : w7.cell? ⟨gb112, 1, none⟩ = some (.slice A1_1 l1_1.length c1_1) := (blk_cell BK112.out 1).trans rfl; have hfz10_0 := blk_frozen BK112.out 0; have hfz10_1 := blk_frozen BK112.out 1) | ((with_reducible refine gate_callee (f := 30) rfl ?_); refine goesL_ (some 9) rfl rfl Tryd.func30 (by kernel_rfl) rfl #[.slice A0_0 l0_0.length c0_0, .slice A1_0 l1_0.length c1_0] rfl (by (try simp only [List.map_toArray, List.map_cons, List.map_nil]); first | done | rfl | (simp only [List.length_drop, List.length_take]; rfl)) ?_; (with_reducible refine (peloruslaw0_SameInts.calls k _ _ l0_0 _ _ l1_0 true _ ?side1 ?side2 ?side3 ?side4 A3.out).mono ?_); (case side1 => repeat (first | exact (Kd.C_below HR0_0.out HB.out) | (with_reducible refine Kd.C_alloc ?_ _) | (with_reducible refine Kd.C_drewN ?_ _) | (with_reducible refine Kd.C_drew ?_))); (case side2 => exact HC0_0.out); (case side3 => repeat (first | exact (Kd.C_below HR1_0.out HB.out) | (with_reducible refine Kd.C_alloc ?_ _) | (with_reducible refine Kd.C_drewN ?_ _) | (with_reducible refine Kd.C_drew ?_))); (case side4 => exact HC1_0.out); rintro e w' ⟨rfl, ⟨nd, rfl⟩⟩; refine ⟨_, rfl, ?_⟩) | (go_at_call 30; (with_reducible refine (peloruslaw0_SameInts.calls k _ _ l0_1 _ _ l1_1 t114 _ ?side1 ?side2 ?side3 ?side4 A5.out).mono ?_); (case side1 => repeat (first | exact (Kd.C_below HR0_1.out (by repeat (first | (with_reducible first | exact HB.out | apply below_alloc | apply pw_below_drewN | apply below_drew1 | refine below_set ?_ GE111.out | refine below_set ?_ GE112.out) | exact HB.out))) | (with_reducible refine Kd.C_alloc ?_ _) | (with_reducible refine Kd.C_drewN ?_ _) | (with_reducible refine Kd.C_drew ?_))); (case side2 => exact HC0_1.out); (case side3 => repeat (first | exact (Kd.C_below HR1_1.out (by repeat (first | (with_reducible first | exact HB.out | apply below_alloc | apply pw_below_drewN | apply below_drew1 | refine below_set ?_ GE111.out | refine below_set ?_ GE112.out) | exact HB.out))) | (with_reducible refine Kd.C_alloc ?_ _) | (with_reducible refine Kd.C_drewN ?_ _) | (with_reducible refine Kd.C_drew ?_))); (case side4 => exact HC1_1.out); rintro e w' ⟨rfl, ⟨nd, rfl⟩⟩))
    go_ret
    exact ⟨by first | rfl | (simp [errW_none, errW_some] <;> rfl) | (simp [*, errW_none, errW_some] <;> rfl), by repeat (first | (with_reducible first | exact HB.out | apply below_alloc | apply pw_below_drewN | apply below_drew1 | refine below_set ?_ GE111.out | refine below_set ?_ GE112.out) | exact HB.out)⟩
  · replace c4 := Bool.eq_false_iff.mpr c4
    subst c4
    have H1 : (some false) = some r := by rw [if_neg (show ¬ (false = true) by decide)] at H; exact H
    clear H
    have H := H1
    clear H1
    obtain rfl := Option.some.inj H
    go_enter Tryd.func21, Tryd.ntmps21
    go_wp2_with (first | ((with_reducible refine gate_dst (N := 2) rfl ?_); refine box_event ?hg (N := 2) ?hd (cs := #[.slice A0_0 l0_0.length c0_0, .slice A0_1 l0_1.length c0_1]) (t := 51) ?hr ?_; (case hd => rfl); (case hg => rfl); (case hr => first | (go_simp; done) | (go_simp; rfl)); intro gb111 hg w11 hbox hb; have n0_ := Aside0.mk (below_step (by repeat (first | (with_reducible first | exact HB.out | apply below_alloc | apply pw_below_drewN | apply below_drew1) | exact HB.out)) hb); have n1_ := Aside0.mk (hbox); have n2_ := Aside0.mk ((by rw [hg]; exact (below_size (by repeat (first | (with_reducible first | exact HB.out | apply below_alloc | apply pw_below_drewN | apply below_drew1) | exact HB.out))) : w.heap.size ≤ gb111)); have n3_ := Aside0.mk ((by rw [hg]; exact (below_size (by repeat (first | (with_reducible first | exact HB.out | apply below_alloc | apply pw_below_drewN | apply below_drew1) | exact HB.out))) : w.heap.size ≤ gb111)); clear HB; have HB := n0_; have BK111 := n1_; have GW111 := n2_; have GE111 := n3_; clear n0_ n1_ n2_ n3_; clear hb hbox hg) | ((with_reducible refine gate_dst (N := 3) rfl ?_); refine box_event ?hg (N := 3) ?hd (cs := #[.slice A1_0 l1_0.length c1_0, .slice A1_1 l1_1.length c1_1]) (t := 51) ?hr ?_; (case hd => rfl); (case hg => rfl); (case hr => first | (go_simp; done) | (go_simp; rfl)); intro gb112 hg w12 hbox hb; have n0_ := Aside0.mk (blk_below (g := gb111) (o := .cells #[.slice A0_0 l0_0.length c0_0, .slice A0_1 l0_1.length c0_1] 51 (0, 0)) (by (with_reducible repeat (first | refine blk_drewN ?_ _ | refine blk_drew ?_ | refine blk_alloc ?_ _)); exact BK111.out) hb); have n1_ := Aside0.mk (below_step (by repeat (first | (with_reducible first | exact HB.out | apply below_alloc | apply pw_below_drewN | apply below_drew1 | refine below_set ?_ GE111.out) | exact HB.out)) hb); have n2_ := Aside0.mk (hbox); have n3_ := Aside0.mk ((by rw [hg]; exact (below_size (by repeat (first | (with_reducible first | exact HB.out | apply below_alloc | apply pw_below_drewN | apply below_drew1 | refine below_set ?_ GE111.out) | exact HB.out))) : w.heap.size ≤ gb112)); have n4_ := Aside0.mk ((by rw [hg]; exact (below_size (by repeat (first | (with_reducible first | exact HB.out | apply below_alloc | apply pw_below_drewN | apply below_drew1 | refine below_set ?_ GE111.out) | exact HB.out))) : w.heap.size ≤ gb112)); have n5_ := Aside0.mk ((by rw [hg]; exact Nat.ne_of_lt (blk_lt (g := gb111) (o := .cells #[.slice A0_0 l0_0.length c0_0, .slice A0_1 l0_1.length c0_1] 51 (0, 0)) (by (with_reducible repeat (first | refine blk_drewN ?_ _ | refine blk_drew ?_ | refine blk_alloc ?_ _)); exact BK111.out)) : gb111 ≠ gb112)); have n6_ := Aside0.mk ((by rw [hg]; exact Nat.ne_of_gt (blk_lt (g := gb111) (o := .cells #[.slice A0_0 l0_0.length c0_0, .slice A0_1 l0_1.length c0_1] 51 (0, 0)) (by (with_reducible repeat (first | refine blk_drewN ?_ _ | refine blk_drew ?_ | refine blk_alloc ?_ _)); exact BK111.out)) : gb112 ≠ gb111)); clear BK111; clear HB; have BK111 := n0_; have HB := n1_; have BK112 := n2_; have GW112 := n3_; have GE112 := n4_; have NB111_112 := n5_; have NB112_111 := n6_; clear n0_ n1_ n2_ n3_ n4_ n5_ n6_; clear hb hbox hg; have hnb13 := NB111_112.out; have hnc13 := NB112_111.out; have hcz14_0 : w12.cell? ⟨gb111, 0, none⟩ = some (.slice A0_0 l0_0.length c0_0) := (blk_cell BK111.out 0).trans rfl; have hcz14_1 : w12.cell? ⟨gb111, 1, none⟩ = some (.slice A0_1 l0_1.length c0_1) := (blk_cell BK111.out 1).trans rfl; have hfz14_0 := blk_frozen BK111.out 0; have hfz14_1 := blk_frozen BK111.out 1; have hcz15_0 : w12.cell? ⟨gb112, 0, none⟩ = some (.slice A1_0 l1_0.length c1_0) := (blk_cell BK112.out 0).trans rfl; have hcz15_1 : w12.cell? ⟨gb112, 1, none⟩ = some (.slice A1_1 l1_1.length c1_1) := (blk_cell BK112.out 1).trans rfl; have hfz15_0 := blk_frozen BK112.out 0; have hfz15_1 := blk_frozen BK112.out 1) | ((with_reducible refine gate_callee (f := 30) rfl ?_); refine goesL_ (some 9) rfl rfl Tryd.func30 (by kernel_rfl) rfl #[.slice A0_0 l0_0.length c0_0, .slice A1_0 l1_0.length c1_0] rfl (by (try simp only [List.map_toArray, List.map_cons, List.map_nil]); first | done | rfl | (simp only [List.length_drop, List.length_take]; rfl)) ?_; (with_reducible refine (peloruslaw0_SameInts.calls k _ _ l0_0 _ _ l1_0 false _ ?side1 ?side2 ?side3 ?side4 A3.out).mono ?_); (case side1 => repeat (first | exact (Kd.C_below HR0_0.out HB.out) | (with_reducible refine Kd.C_alloc ?_ _) | (with_reducible refine Kd.C_drewN ?_ _) | (with_reducible refine Kd.C_drew ?_))); (case side2 => exact HC0_0.out); (case side3 => repeat (first | exact (Kd.C_below HR1_0.out HB.out) | (with_reducible refine Kd.C_alloc ?_ _) | (with_reducible refine Kd.C_drewN ?_ _) | (with_reducible refine Kd.C_drew ?_))); (case side4 => exact HC1_0.out); rintro e w' ⟨rfl, ⟨nd, rfl⟩⟩; refine ⟨_, rfl, ?_⟩))
    go_ret
    exact ⟨by first | rfl | (simp [errW_none, errW_some] <;> rfl) | (simp [*, errW_none, errW_some] <;> rfl), by repeat (first | (with_reducible first | exact HB.out | apply below_alloc | apply pw_below_drewN | apply below_drew1 | refine below_set ?_ GE111.out | refine below_set ?_ GE112.out) | exact HB.out)⟩
end Go.Proofs.YtkdoijfjceeblaaDoor.F
end
section
namespace Go.Proofs.YtkdoijfjceeblaaDoor.F
open Go.RowKit Go.Proofs.YtkdoijfjceeblaaDoorW.PrintWords Go.Proofs.YtkdoijfjceeblaaDoorW.PrintLast Go.Proofs.YtkdoijfjceeblaaDoorW.PrintMore
attribute [local go_sem] max2_int min2_int max_two min_two max_three min_three max_four min_four
set_option linter.unusedVariables false
set_option linter.unusedSimpArgs false
def pelorusref12_Leb.l0 : Nat → List Int → Int → Option (ByteArray)
  | 0, _, _ => none
  | k + 1, x3, x4 => if x4 ≥ 128 then (if x3.length < 140737488355328 then (pelorusref12_Leb.l0 k (x3 ++ [(IntKind.u64.wrap ((Int.tmod x4 128) + 128)) % 256]) (IntKind.u64.wrap (Int.tdiv x4 128))) else (none)) else (if x3.length < 140737488355328 then (some (strOfNums (x3 ++ [(x4) % 256]))) else (none))
def pelorusref12_Leb.f (k : Nat) (a0 : Int) : Option (ByteArray) := pelorusref12_Leb.l0 k ([] : List Int) (IntKind.u64.wrap (a0))
theorem pelorusref12_Leb.mono_l : ∀ k, (∀ y0 y1, LeO (pelorusref12_Leb.l0 k y0 y1) (pelorusref12_Leb.l0 (k + 1) y0 y1))
  | 0 => fun _ _ r h => by simp [pelorusref12_Leb.l0] at h
  | k + 1 => by
    have ih0 := pelorusref12_Leb.mono_l k
    · intro y0 y1
      unfold pelorusref12_Leb.l0
      repeat' first
      | (with_reducible exact ih0 _ _)
      | (with_reducible exact LeO.refl _)
      | (with_reducible exact LeO.none _)
      | (with_reducible refine LeO.ite ?_ ?_)
      | (with_reducible refine LeO.bind ?_ (fun _ => ?_))
      | exact ih0 _ _
      | exact LeO.none _
      | refine LeO.ite ?_ ?_
      | refine LeO.bind ?_ (fun _ => ?_)
theorem pelorusref12_Leb.mono : ∀ a0 k, LeO (pelorusref12_Leb.f k a0) (pelorusref12_Leb.f (k + 1) a0) := by
  intro a0 k
  have ih0 := pelorusref12_Leb.mono_l k
  unfold pelorusref12_Leb.f
  repeat' first
      | (with_reducible exact ih0 _ _)
      | (with_reducible exact LeO.refl _)
      | (with_reducible exact LeO.none _)
      | (with_reducible refine LeO.ite ?_ ?_)
      | (with_reducible refine LeO.bind ?_ (fun _ => ?_))
      | exact ih0 _ _
      | exact LeO.none _
      | refine LeO.ite ?_ ?_
      | refine LeO.bind ?_ (fun _ => ?_)
set_option maxHeartbeats 8000000 in
set_option maxRecDepth 100000 in
theorem pelorusref12_Leb.calls (k : Nat) (a0 : Int) (r : ByteArray) (w : World) (h : pelorusref12_Leb.f k a0 = some r) :
    Calls Tryd.prog 17 #[.int .i64 a0] w fun e w' => e = .returned (.string r) ∧ Below w.heap.size w w' := by
  have HB := Aside0.mk (Below.refl w.heap.size w)
  have H : (pelorusref12_Leb.l0 k ([] : List Int) (IntKind.u64.wrap (a0))) = some r := h
  clear h
  have H' := Aside0.mk H
  clear H
  go_enter Tryd.func17, Tryd.ntmps17
  go_wp2
  go_loopg [3, 4] k (fun kq v3 v4 w' => ∃ (x3_1 : List Int) (x4_1 : Int), v4 = .int .u64 x4_1 ∧ Aside0 (pelorusref12_Leb.l0 kq x3_1 x4_1 = some r) ∧ Aside0 (kq ≤ k) ∧ Aside0 (Kd.R (Kd.int .u8) 5 w' w.heap.size (fun _ => True) v3 x3_1) ∧ Aside0 (Below w.heap.size w w'))
  case atStart => exact ⟨(([] : List Int)), (IntKind.u64.wrap (a0)), (by first | rfl | (simp; done) | (simp [*]; done)), H', ⟨Nat.le_refl _⟩, ⟨by first | exact Kd.R_nil _ _ _ _ _ | exact Kd.N_nil _ _ _ _ _ | exact Kd.V_nil _ _ _ _ _ | exact Kd.Q_nil _ _ _ _ _ | exact Kd.S_nil _ _ _ _ _⟩, ⟨by repeat (first | (with_reducible first | exact HB.out | apply below_alloc | apply pw_below_drewN | apply below_drew1) | exact HB.out)⟩⟩
  case round =>
    clear H'
    try clear c1
    obtain ⟨x3_1, x4_1, rfl, HA, HK1, HO_3, HB⟩ := hrel
    cases gk with
    | zero => exact absurd HA.out (by simp [pelorusref12_Leb.l0])
    | succ k1 =>
      have H := HA.out
      clear HA
      simp only [pelorusref12_Leb.l0] at H
      by_cases c2 : x4_1 ≥ 128
      · rw [if_pos c2] at H
        have c2b0 : decide (128 ≤ x4_1) = true := decide_eq_true c2
        clear c2
        by_cases c3 : x3_1.length < 140737488355328
        · rw [if_pos c3] at H
          have LMc3 := Aside0.mk c3
          clear c3
          obtain ⟨y117, hy117⟩ : ∃ y_ : List Int, y_ = (x3_1 ++ [(IntKind.u64.wrap ((Int.tmod x4_1 128) + 128)) % 256]) := ⟨_, rfl⟩
          replace H : (pelorusref12_Leb.l0 k1 y117 (IntKind.u64.wrap (Int.tdiv x4_1 128))) = some r := by first | (rw [hy117]; with_reducible exact H) | (have H2_ := (Option.bind_some _ _).symm.trans H; rw [hy117]; with_reducible exact H2_) | (have H2_ := (Option.bind_some _ _).symm.trans H; with_reducible exact H2_) | with_reducible exact H | (rw [hy117]; exact H) | exact H
          have Ny117 := Aside0.mk hy117
          clear hy117
          have H' := Aside0.mk H
          clear H
          go_wp2_with (first | ((with_reducible refine gate_builtin (b := .append) (xs := #[.tmp 9, .tmp 14]) rfl ?_); at_builtin; refine Kd.R_append (Kd.int .u8) (w0 := w) w.heap.size rfl (.tmp 9) (.tmp 14) 48 5 (.int .u8 0) 1 rfl Tryd.underlying48 info5 rfl (by decide) (by omega) u3 x3_1 ((IntKind.u64.wrap ((Int.tmod x4_1 128) + 128)) % 256) [.int .u8 ((IntKind.u64.wrap ((Int.tmod x4_1 128) + 128)) % 256)] (fun _ => True) (fun _ => False) rfl rfl ?aP (fun _ hk => hk.elim) ?aF ?aO ?aB ?aS ?aL ?_; (case aP => exact rfl); (case aB => exact (by repeat (first | (with_reducible first | exact HB.out | apply below_alloc | apply pw_below_drewN | apply below_drew1) | exact HB.out))); (case aF => exact (fun _ _ => trivial)); (case aO => exact (by (with_reducible repeat (first | apply Kd.R_alloc | apply Kd.R_drewN | apply Kd.R_drew)); exact HO_3.out)); (case aS => exact (below_size (by repeat (first | (with_reducible first | exact HB.out | apply below_alloc | apply pw_below_drewN | apply below_drew1) | exact HB.out)))); (case aL => have := LMc3.out; omega); intro v118 w4 ho hb hg hat; rw [← Ny117.out] at ho; have n0_ := Aside0.mk (hb); have n1_ := Aside0.mk (ho); clear HB; clear HO_3; have HB := n0_; have HO119 := n1_; clear n0_ n1_; clear ho hb hg hat))
          go_roundg k1
          case measure => have := HK1.out; omega
          case rel => exact ⟨(y117), (IntKind.u64.wrap (Int.tdiv x4_1 128)), (by first | rfl | (simp; done) | (simp [*]; done)), H', ⟨by have := HK1.out; omega⟩, ⟨by (with_reducible repeat (first | apply Kd.R_alloc | apply Kd.R_drewN | apply Kd.R_drew)); exact HO119.out⟩, ⟨by repeat (first | (with_reducible first | exact HB.out | apply below_alloc | apply pw_below_drewN | apply below_drew1) | exact HB.out)⟩⟩
        · rw [if_neg c3] at H
          exact absurd H (by simp)
      · rw [if_neg c2] at H
        have c2b0 : decide (128 ≤ x4_1) = false := decide_eq_false c2
        clear c2
        by_cases c5 : x3_1.length < 140737488355328
        · rw [if_pos c5] at H
          have LMc5 := Aside0.mk c5
          clear c5
          obtain ⟨y120, hy120⟩ : ∃ y_ : List Int, y_ = (x3_1 ++ [(x4_1) % 256]) := ⟨_, rfl⟩
          replace H : (some (strOfNums y120)) = some r := by first | (rw [hy120]; with_reducible exact H) | (have H2_ := (Option.bind_some _ _).symm.trans H; rw [hy120]; with_reducible exact H2_) | (have H2_ := (Option.bind_some _ _).symm.trans H; with_reducible exact H2_) | with_reducible exact H | (rw [hy120]; exact H) | exact H
          have Ny120 := Aside0.mk hy120
          clear hy120
          obtain rfl := Option.some.inj H
          go_wp2_with (first | ((with_reducible refine gate_builtin (b := .append) (xs := #[.tmp 18, .tmp 21]) rfl ?_); at_builtin; refine Kd.R_append (Kd.int .u8) (w0 := w) w.heap.size rfl (.tmp 18) (.tmp 21) 48 5 (.int .u8 0) 1 rfl Tryd.underlying48 info5 rfl (by decide) (by omega) u3 x3_1 ((x4_1) % 256) [.int .u8 ((x4_1) % 256)] (fun _ => True) (fun _ => False) rfl rfl ?aP (fun _ hk => hk.elim) ?aF ?aO ?aB ?aS ?aL ?_; (case aP => exact rfl); (case aB => exact (by repeat (first | (with_reducible first | exact HB.out | apply below_alloc | apply pw_below_drewN | apply below_drew1) | exact HB.out))); (case aF => exact (fun _ _ => trivial)); (case aO => exact (by (with_reducible repeat (first | apply Kd.R_alloc | apply Kd.R_drewN | apply Kd.R_drew)); exact HO_3.out)); (case aS => exact (below_size (by repeat (first | (with_reducible first | exact HB.out | apply below_alloc | apply pw_below_drewN | apply below_drew1) | exact HB.out)))); (case aL => have := LMc5.out; omega); intro v121 w6 ho hb hg hat; rw [← Ny120.out] at ho; have n0_ := Aside0.mk (hb); have n1_ := Aside0.mk (ho); clear HB; clear HO_3; have HB := n0_; have HO122 := n1_; clear n0_ n1_; clear ho hb hg hat; have hcv7 := own_string (P := Tryd.prog) Tryd.underlying48 Tryd.underlying5 Tryd.underlying9 (Kd.own_of_R HO122.out)))
          go_ret
          exact ⟨by first | rfl | (simp [errW_none, errW_some] <;> rfl) | (simp [*, errW_none, errW_some] <;> rfl), by repeat (first | (with_reducible first | exact HB.out | apply below_alloc | apply pw_below_drewN | apply below_drew1) | exact HB.out)⟩
        · rw [if_neg c5] at H
          exact absurd H (by simp)
end Go.Proofs.YtkdoijfjceeblaaDoor.F
end
section
namespace Go.Proofs.YtkdoijfjceeblaaDoor.F
open Go.RowKit Go.Proofs.YtkdoijfjceeblaaDoorW.PrintWords Go.Proofs.YtkdoijfjceeblaaDoorW.PrintLast Go.Proofs.YtkdoijfjceeblaaDoorW.PrintMore
attribute [local go_sem] max2_int min2_int max_two min_two max_three min_three max_four min_four
set_option linter.unusedVariables false
set_option linter.unusedSimpArgs false
def peloruslaw0_Num.f (a0 : Int) : Option (Int) := some a0
set_option maxHeartbeats 8000000 in
set_option maxRecDepth 100000 in
theorem peloruslaw0_Num.calls (a0 : Int) (r : Int) (w : World) (h : peloruslaw0_Num.f a0 = some r) :
    Calls Tryd.prog 14 #[.int .i64 a0] w fun e w' => e = .returned (.int .i64 r) ∧ Drawn0 w w' := by
  have H : (some a0) = some r := h
  clear h
  obtain rfl := Option.some.inj H
  go_enter Tryd.func14, Tryd.ntmps14
  go_wp2
  go_ret
  exact ⟨by first | rfl | (simp; done) | (simp [*]; done), by repeat (first | exact Drawn0.refl _ | apply Drawn0.step)⟩
end Go.Proofs.YtkdoijfjceeblaaDoor.F
end
section
namespace Go.Proofs.YtkdoijfjceeblaaDoor.LebMath
open Go Go.RowKit Go.Proofs.YtkdoijfjceeblaaDoorW.PrintWords Go.Proofs.YtkdoijfjceeblaaDoorW.PrintMore
theorem wrap64_eq {x : Int} (h0 : -9223372036854775808 ≤ x) (h1 : x < 9223372036854775808) : wrap64 x = x := by unfold wrap64; omega
theorem wrap64_mod (x : Int) : ∃ q : Int, wrap64 x = x + 18446744073709551616 * q := ⟨-((x + 9223372036854775808) / 18446744073709551616), by unfold wrap64; omega⟩
theorem wrap64_idem (x y : Int) (h : x % 18446744073709551616 = y % 18446744073709551616) : wrap64 x = wrap64 y := by unfold wrap64; omega
theorem u64_eq (x : Int) : IntKind.u64.wrap x = x % 18446744073709551616 := by
  simp only [IntKind.wrap, IntKind.bits, IntKind.signed]; simp
theorem i64_eq (x : Int) : IntKind.i64.wrap x = wrap64 x := by unfold wrap64; exact IntKind.wrap_i64 x
theorem ofInt_toNat (n : Nat) (x : Int) : (BitVec.ofInt n x).toNat = (x % (2 ^ n : Nat)).toNat := by
  simp [BitVec.toNat_ofInt]
theorem and_u8 (b : Int) (h0 : 0 ≤ b) (h1 : b < 256) : Go.bits .and .u8 b 127 = b % 128 := by
  have h : ∀ c : Fin 256, Go.bits .and .u8 (c.val : Int) 127 = (c.val : Int) % 128 := by decide +kernel
  have := h ⟨b.toNat, by omega⟩
  simp only [Int.toNat_of_nonneg h0] at this
  exact this
theorem and_mask (x : Int) (m : Nat) (hm : m < 63) (M : Int) (hM : M = ((2 ^ m : Nat) : Int) - 1) : Go.bits .and .i64 x M = x % ((2 ^ m : Nat) : Int) := by
  subst hM
  have hp : (2 : Nat) ^ m ≤ 2 ^ 62 := Nat.pow_le_pow_right (by omega) (by omega)
  have hp0 : 0 < (2 : Nat) ^ m := Nat.two_pow_pos m
  show IntKind.i64.wrap (((BitVec.ofInt 64 x &&& BitVec.ofInt 64 (((2 ^ m : Nat) : Int) - 1)).toNat : Nat) : Int) = _
  rw [BitVec.toNat_and, ofInt_toNat, ofInt_toNat, i64_eq]
  have e1 : ((((2 ^ m : Nat) : Int) - 1) % ((2 ^ 64 : Nat) : Int)).toNat = 2 ^ m - 1 := by
    have : ((2 ^ 64 : Nat) : Int) = 18446744073709551616 := by decide
    rw [this]; omega
  rw [e1, Nat.and_two_pow_sub_one_eq_mod]
  have e2 : (((x % ((2 ^ 64 : Nat) : Int)).toNat % 2 ^ m : Nat) : Int) = x % ((2 ^ m : Nat) : Int) := by
    rw [Int.natCast_emod, Int.toNat_of_nonneg (Int.emod_nonneg _ (by decide))]
    refine Int.emod_emod_of_dvd _ ?_
    have : (2 ^ m : Nat) ∣ (2 ^ 64 : Nat) := Nat.pow_dvd_pow 2 (by omega)
    exact_mod_cast this
  rw [e2]
  have h1 := Int.emod_nonneg x (show ((2 ^ m : Nat) : Int) ≠ 0 by omega)
  have h2 := Int.emod_lt_of_pos x (show (0 : Int) < ((2 ^ m : Nat) : Int) by omega)
  exact wrap64_eq (by omega) (by omega)
theorem or_nat (a b m : Nat) (hb : b < 2 ^ m) : (2 ^ m * a) ||| b = 2 ^ m * a + b := (Nat.two_pow_add_eq_or_of_lt hb a).symm
theorem or_i64 (X Y : Int) (m : Nat) (hm : m ≤ 64) (hX : X % ((2 ^ m : Nat) : Int) = 0) (hY0 : 0 ≤ Y) (hY : Y < ((2 ^ m : Nat) : Int)) : Go.bits .or .i64 X Y = wrap64 (X + Y) := by
  show IntKind.i64.wrap (((BitVec.ofInt 64 X ||| BitVec.ofInt 64 Y).toNat : Nat) : Int) = _
  rw [BitVec.toNat_or, ofInt_toNat, ofInt_toNat, i64_eq]
  have h64 : ((2 ^ 64 : Nat) : Int) = 18446744073709551616 := by decide
  have hp : (2 : Nat) ^ m ≤ 2 ^ 64 := Nat.pow_le_pow_right (by omega) hm
  have hdvd : ((2 ^ m : Nat) : Int) ∣ ((2 ^ 64 : Nat) : Int) := by
    have : (2 ^ m : Nat) ∣ (2 ^ 64 : Nat) := Nat.pow_dvd_pow 2 hm
    exact_mod_cast this
  have hX' : (X % ((2 ^ 64 : Nat) : Int)) % ((2 ^ m : Nat) : Int) = 0 := by rw [Int.emod_emod_of_dvd _ hdvd]; exact hX
  have hx0 : 0 ≤ X % ((2 ^ 64 : Nat) : Int) := Int.emod_nonneg _ (by decide)
  have hxm : (X % ((2 ^ 64 : Nat) : Int)).toNat % 2 ^ m = 0 := by
    have : (((X % ((2 ^ 64 : Nat) : Int)).toNat % 2 ^ m : Nat) : Int) = 0 := by rw [Int.natCast_emod, Int.toNat_of_nonneg hx0]; exact hX'
    omega
  have e1 : (X % ((2 ^ 64 : Nat) : Int)).toNat = 2 ^ m * ((X % ((2 ^ 64 : Nat) : Int)).toNat / 2 ^ m) := by
    have := Nat.div_add_mod (X % ((2 ^ 64 : Nat) : Int)).toNat (2 ^ m); omega
  have hYlt : Y < ((2 ^ 64 : Nat) : Int) := by
    have : ((2 ^ m : Nat) : Int) ≤ ((2 ^ 64 : Nat) : Int) := by exact_mod_cast hp
    omega
  have e2 : (Y % ((2 ^ 64 : Nat) : Int)).toNat = Y.toNat := by rw [Int.emod_eq_of_lt hY0 hYlt]
  rw [e2]
  rw [e1, or_nat _ _ _ (by omega), ← e1]
  refine wrap64_idem _ _ ?_
  rw [Int.natCast_add, Int.toNat_of_nonneg hx0, Int.toNat_of_nonneg hY0, h64]
  omega
theorem bor_comm (k : IntKind) (X Y : Int) : Go.bits .or k X Y = Go.bits .or k Y X := by
  simp only [Go.bits]; rw [BitVec.or_comm]
theorem or_u64 (X Y : Int) (m : Nat) (hm : m ≤ 64) (hX : X % ((2 ^ m : Nat) : Int) = 0) (hY0 : 0 ≤ Y) (hY : Y < ((2 ^ m : Nat) : Int)) : Go.bits .or .u64 X Y = (X + Y) % 18446744073709551616 := by
  have h1 := or_i64 X Y m hm hX hY0 hY
  have e : Go.bits .or .i64 X Y = wrap64 (((BitVec.ofInt 64 X ||| BitVec.ofInt 64 Y).toNat : Nat) : Int) := by
    show IntKind.i64.wrap (((BitVec.ofInt 64 X ||| BitVec.ofInt 64 Y).toNat : Nat) : Int) = _
    rw [i64_eq]
  have e' : Go.bits .or .u64 X Y = ((((BitVec.ofInt 64 X ||| BitVec.ofInt 64 Y).toNat : Nat) : Int)) % 18446744073709551616 := by
    show IntKind.u64.wrap (((BitVec.ofInt 64 X ||| BitVec.ofInt 64 Y).toNat : Nat) : Int) = _
    rw [u64_eq]
  rw [e'] 
  rw [e] at h1
  unfold wrap64 at h1
  omega
theorem p128 (i : Nat) : ((2 ^ (7 * i) : Nat) : Int) = 128 ^ i := by
  rw [Nat.pow_mul]; norm_cast
theorem pow_pos128 (i : Nat) : (0 : Int) < 128 ^ i := by
  induction i with
  | zero => decide
  | succ i ih => rw [Int.pow_succ]; omega
def U : Nat → Int → List Int
  | 0, u => [u % 256]
  | d + 1, u => if u ≥ 128 then (u % 128 + 128) :: U d (u / 128) else [u % 256]
def S : Nat → Int → List Int
  | 0, x => [x % 128]
  | d + 1, x => if x < -64 then (x % 128 + 128) :: S d (x / 128) else if x > 63 then (x % 128 + 128) :: S d (x / 128) else [x % 128]
def T (f : Nat → Int) : Nat → Nat → Int
  | _, 0 => 0
  | j, m + 1 => f j % 128 + 128 * T f (j + 1) m
theorem T_nonneg (f : Nat → Int) : ∀ m j, 0 ≤ T f j m
  | 0, _ => Int.le_refl _
  | m + 1, j => by unfold T; have := T_nonneg f m (j + 1); omega
theorem T_lt (f : Nat → Int) : ∀ m j, T f j m < 128 ^ m
  | 0, _ => by simp [T]
  | m + 1, j => by unfold T; have := T_lt f m (j + 1); rw [Int.pow_succ]; omega
theorem T_last (f : Nat → Int) : ∀ m j, T f j (m + 1) = T f j m + (f (j + m) % 128) * 128 ^ m
  | 0, j => by simp [T]
  | m + 1, j => by
    rw [T, T_last f m (j + 1), T, show j + 1 + m = j + (m + 1) from by omega, Int.pow_succ]
    rw [Int.mul_add, ← Int.add_assoc]
    congr 1
    rw [Int.mul_comm 128, Int.mul_assoc]
theorem T_congr (f g : Nat → Int) : ∀ m j, (∀ i, j ≤ i → i < j + m → f i = g i) → T f j m = T g j m
  | 0, _, _ => rfl
  | m + 1, j, h => by
    rw [T, T, h j (by omega) (by omega), T_congr f g m (j + 1) (fun i h1 h2 => h i (by omega) (by omega))]
def scan (f : Nat → Int) (lim : Nat) : Nat → Nat → Int × Int
  | 0, _ => (0, 1200)
  | d + 1, i => if i = lim then (0, 1201) else if f i < 128 then ((i : Int) + 1, 0) else scan f lim d (i + 1)
theorem scan_cases (f : Nat → Int) (lim : Nat) : ∀ d i, i ≤ lim → (scan f lim d i = (0, 1200) ∧ (∀ j, i ≤ j → j < i + d → 128 ≤ f j) ∧ i + d ≤ lim) ∨ (scan f lim d i = (0, 1201) ∧ lim < i + d ∧ ∀ j, i ≤ j → j < lim → 128 ≤ f j) ∨ ∃ n : Nat, i ≤ n ∧ n < i + d ∧ n < lim ∧ scan f lim d i = ((n : Int) + 1, 0) ∧ f n < 128 ∧ ∀ j, i ≤ j → j < n → 128 ≤ f j
  | 0, i, h => .inl ⟨rfl, fun j h1 h2 => by omega, by omega⟩
  | d + 1, i, h => by
    by_cases h1 : i = lim
    · exact .inr (.inl ⟨by rw [scan, if_pos h1], by omega, fun j h2 h3 => by omega⟩)
    · by_cases h2 : f i < 128
      · exact .inr (.inr ⟨i, by omega, by omega, by omega, by rw [scan, if_neg h1, if_pos h2], h2, fun j h3 h4 => by omega⟩)
      · have e : scan f lim (d + 1) i = scan f lim d (i + 1) := by rw [scan, if_neg h1, if_neg h2]
        rw [e]
        rcases scan_cases f lim d (i + 1) (by omega) with ⟨a, b, c⟩ | ⟨a, b, c⟩ | ⟨n, a, b, c, g, k, l⟩
        · refine .inl ⟨a, fun j h3 h4 => ?_, by omega⟩
          by_cases e : j = i
          · subst e; omega
          · exact b j (by omega) (by omega)
        · refine .inr (.inl ⟨a, by omega, fun j h3 h4 => ?_⟩)
          by_cases e : j = i
          · subst e; omega
          · exact c j (by omega) (by omega)
        · refine .inr (.inr ⟨n, by omega, by omega, c, g, k, fun j h3 h4 => ?_⟩)
          by_cases e : j = i
          · subst e; omega
          · exact l j (by omega) (by omega)
theorem scan_ok (f : Nat → Int) (lim : Nat) : ∀ d i n, i ≤ n → n < i + d → n < lim → f n < 128 → (∀ j, i ≤ j → j < n → 128 ≤ f j) → scan f lim d i = ((n : Int) + 1, 0)
  | 0, i, n, h1, h2, _, _, _ => by omega
  | d + 1, i, n, h1, h2, h3, h4, h5 => by
    rw [scan, if_neg (by omega)]
    by_cases e : i = n
    · subst e; rw [if_pos h4]
    · rw [if_neg (by have := h5 i (by omega) (by omega); omega)]
      exact scan_ok f lim d (i + 1) n (by omega) (by omega) h3 h4 (fun j h6 h7 => h5 j (by omega) h7)
end Go.Proofs.YtkdoijfjceeblaaDoor.LebMath
namespace Go.Proofs.YtkdoijfjceeblaaDoor.LebFns
open Go Go.RowKit Go.Proofs.YtkdoijfjceeblaaDoorW.PrintWords Go.Proofs.YtkdoijfjceeblaaDoorW.PrintMore Go.Proofs.YtkdoijfjceeblaaDoor.LebMath Go.Proofs.YtkdoijfjceeblaaDoor.F
theorem leb_l0 : ∀ (d : Nat) (u : Int) (acc : List Int) (k : Nat), 0 ≤ u → u < 128 ^ (d + 1) → u < 18446744073709551616 → acc.length + d + 1 ≤ 1000 → d < k → pelorusref12_Leb.l0 k acc u = some (strOfNums (acc ++ U d u))
  | d, u, acc, 0, _, _, _, _, h => by omega
  | 0, u, acc, k + 1, h0, h1, _, h2, h3 => by
    rw [pelorusref12_Leb.l0, if_neg (by simp at h1; omega), if_pos (by omega), U]
  | d + 1, u, acc, k + 1, h0, h1, h4, h2, h3 => by
    rw [pelorusref12_Leb.l0, U]
    have e1 : Int.tmod u 128 = u % 128 := Int.tmod_eq_emod_of_nonneg h0
    have e2 : Int.tdiv u 128 = u / 128 := Int.tdiv_eq_ediv_of_nonneg h0
    by_cases h : u ≥ 128
    · rw [if_pos h, if_pos (by omega), if_pos h, e1, e2, u64_eq, u64_eq, show u / 128 % 18446744073709551616 = u / 128 from by omega]
      rw [leb_l0 d (u / 128) _ k (by omega) (by rw [Int.pow_succ] at h1; omega) (by omega) (by simp; omega) (by omega)]
      rw [show (u % 128 + 128) % 18446744073709551616 % 256 = u % 128 + 128 from by omega, List.append_assoc]
      rfl
    · rw [if_neg h, if_pos (by omega), if_neg h]
theorem pow10 : (18446744073709551616 : Int) < 128 ^ (9 + 1) := by decide
theorem lebref_ev (x : Int) : Ev (fun k => pelorusref12_Leb.f k x) (strOfNums (U 9 (x % 18446744073709551616))) := by
  refine ⟨10, fun k hk => ?_⟩
  show pelorusref12_Leb.l0 k [] (IntKind.u64.wrap x) = _
  rw [u64_eq, leb_l0 9 _ [] k (by omega) (by have := pow10; omega) (by omega) (by simp) (by omega)]
  rfl
def mo (bits : Int) : Nat := if bits = 32 then 5 else 10
def byt (s : ByteArray) (at_ : Int) (i : Nat) : Int := bt s (at_ + i)
theorem byt_range (s : ByteArray) (a : Int) (i : Nat) : 0 ≤ byt s a i ∧ byt s a i < 256 := by have := bt_range s (a + i); unfold byt; omega
def Fit (s : ByteArray) (a bits : Int) : Prop := (bits = 32 ∨ bits = 64) ∧ 0 ≤ a ∧ a ≤ (s.size : Int) ∧ s.size ≤ 140737488355328
theorem most_eq {bits : Int} (h : bits = 32 ∨ bits = 64) : leb_most.f bits = some (mo bits : Int) := by
  rcases h with rfl | rfl <;> decide +kernel
theorem parts_l0 (s : ByteArray) (a bits : Int) (hf : Fit s a bits) : ∀ (d i k : Nat), i + d = mo bits → i ≤ ((s.size : Int) - a).toNat → d < k → leb_parts.l0 k s a bits (i : Int) = some (scan (byt s a) ((s.size : Int) - a).toNat d i)
  | d, i, 0, _, _, h => by omega
  | 0, i, k + 1, h1, h2, h3 => by
    rw [leb_parts.l0, most_eq hf.1, Option.bind_some, if_neg (by omega), scan]
  | d + 1, i, k + 1, h1, h2, h3 => by
    obtain ⟨hb, h0, hs, hz⟩ := hf
    have hm : mo bits ≤ 10 := by unfold mo; split <;> omega
    have hw : wrap64 (a + i) = a + i := wrap64_eq (by omega) (by omega)
    have hw1 : wrap64 ((i : Int) + 1) = ((i + 1 : Nat) : Int) := by rw [wrap64_eq (by omega) (by omega)]; omega
    rw [leb_parts.l0, most_eq hb, Option.bind_some, if_pos (by omega), hw, hw1, scan]
    by_cases e : i = ((s.size : Int) - a).toNat
    · rw [if_pos (by omega), if_pos e]
    · rw [if_neg (by omega), if_neg e, if_pos (by omega), if_pos (by omega)]
      show (if byt s a i < 128 then _ else _) = _
      by_cases c : byt s a i < 128
      · rw [if_pos c, if_pos c]; simp
      · rw [if_neg c, if_neg c]
        exact parts_l0 s a bits ⟨hb, h0, hs, hz⟩ d (i + 1) k (by omega) (by omega) (by omega)
theorem parts_fit (s : ByteArray) (a bits : Int) (hf : Fit s a bits) : Ev (fun k => leb_parts.f k s a bits) (scan (byt s a) ((s.size : Int) - a).toNat (mo bits) 0) := by
  refine ⟨13, fun k hk => ?_⟩
  obtain ⟨k, rfl⟩ : ∃ m, k = m + 2 := ⟨k - 2, by omega⟩
  have hm : mo bits ≤ 10 := by unfold mo; split <;> omega
  have hl := parts_l0 s a bits hf (mo bits) 0 (k + 1) (by omega) (by omega) (by omega)
  obtain ⟨hb, h0, hs, hz⟩ := hf
  have hj : leb_parts.j0 (k + 2) s a bits (decide (a > (s.size : Int))) = some (scan (byt s a) ((s.size : Int) - a).toNat (mo bits) 0) := by
    rw [leb_parts.j0, if_neg (by simp; omega)]; exact hl
  show leb_parts.f (k + 2) s a bits = _
  unfold leb_parts.f
  rcases hb with rfl | rfl
  · rw [if_pos rfl, if_neg (by omega), hj]
  · rw [if_neg (by omega), if_pos rfl, if_neg (by omega), hj]
theorem parts_not (s : ByteArray) (a bits : Int) (hz : s.size ≤ 140737488355328) (hf : ¬ Fit s a bits) : Ev (fun k => leb_parts.f k s a bits) (0, 1200) := by
  refine ⟨13, fun k hk => ?_⟩
  obtain ⟨k, rfl⟩ : ∃ m, k = m + 2 := ⟨k - 2, by omega⟩
  have hj : leb_parts.j0 (k + 2) s a bits true = some (0, 1200) := by rw [leb_parts.j0, if_pos rfl]
  have hj' : ¬ a < 0 → (bits = 32 ∨ bits = 64) → leb_parts.j0 (k + 2) s a bits (decide (a > (s.size : Int))) = some (0, 1200) := by
    intro h1 h2
    rw [show decide (a > (s.size : Int)) = true from decide_eq_true (by
      have : ¬ (0 ≤ a ∧ a ≤ (s.size : Int)) := fun h => hf ⟨h2, h.1, h.2, hz⟩
      omega)]
    exact hj
  show leb_parts.f (k + 2) s a bits = _
  unfold leb_parts.f
  by_cases h1 : bits = 32
  · rw [if_pos h1]; by_cases h : a < 0
    · rw [if_pos h, hj]
    · rw [if_neg h, hj' h (.inl h1)]
  · rw [if_neg h1]
    by_cases h2 : bits = 64
    · rw [if_pos h2]; by_cases h : a < 0
      · rw [if_pos h, hj]
      · rw [if_neg h, hj' h (.inr h2)]
    · rw [if_neg h2, hj]
end Go.Proofs.YtkdoijfjceeblaaDoor.LebFns
namespace Go.Proofs.YtkdoijfjceeblaaDoor.LebGets
open Go Go.RowKit Go.Proofs.YtkdoijfjceeblaaDoorW.PrintWords Go.Proofs.YtkdoijfjceeblaaDoorW.PrintMore Go.Proofs.YtkdoijfjceeblaaDoor.LebMath Go.Proofs.YtkdoijfjceeblaaDoor.LebFns Go.Proofs.YtkdoijfjceeblaaDoor.F
theorem pow_le9 {i : Nat} (h : i ≤ 9) : (128 : Int) ^ i ≤ 9223372036854775808 := by
  have : (128 : Nat) ^ i ≤ 128 ^ 9 := Nat.pow_le_pow_right (by omega) h
  have e : ((128 ^ i : Nat) : Int) ≤ ((128 ^ 9 : Nat) : Int) := by exact_mod_cast this
  have e9 : ((128 ^ 9 : Nat) : Int) = 9223372036854775808 := by decide
  rw [e9] at e
  have : ((128 ^ i : Nat) : Int) = (128 : Int) ^ i := by norm_cast
  omega
theorem T_small (f : Nat → Int) {i : Nat} (h : i ≤ 9) (j : Nat) : T f j i < 9223372036854775808 := by
  have := T_lt f i j; have := pow_le9 h; omega
theorem mod_wrap (x : Int) (m : Nat) (hm : m ≤ 64) : wrap64 x % ((2 ^ m : Nat) : Int) = x % ((2 ^ m : Nat) : Int) := by
  obtain ⟨q, hq⟩ := wrap64_mod x
  have hd : ((2 ^ m : Nat) : Int) ∣ 18446744073709551616 := by
    have : (2 ^ m : Nat) ∣ (2 ^ 64 : Nat) := Nat.pow_dvd_pow 2 hm
    have h2 : ((2 ^ 64 : Nat) : Int) = 18446744073709551616 := by decide
    rw [← h2]; exact_mod_cast this
  obtain ⟨c, hc⟩ := hd
  rw [hq, hc, Int.mul_assoc, Int.add_mul_emod_self_left]
theorem mul_pow_mod (d : Int) (i : Nat) : (d * 128 ^ i) % ((2 ^ (7 * i) : Nat) : Int) = 0 := by
  rw [p128]; exact Int.mul_emod_left _ _
theorem u64_mod (x : Int) (m : Nat) (hm : m ≤ 64) : (x % 18446744073709551616) % ((2 ^ m : Nat) : Int) = x % ((2 ^ m : Nat) : Int) := by
  refine Int.emod_emod_of_dvd _ ?_
  have : (2 ^ m : Nat) ∣ (2 ^ 64 : Nat) := Nat.pow_dvd_pow 2 hm
  have h2 : ((2 ^ 64 : Nat) : Int) = 18446744073709551616 := by decide
  rw [← h2]; exact_mod_cast this
theorem shl7 (k : IntKind) (hk : k.bits = 64) (d : Int) (i : Nat) (hi : i ≤ 9) : shl k d (7 * (i : Int)) = k.wrap (d * 128 ^ i) := by
  unfold shl
  rw [show (7 * (i : Int)).toNat = 7 * i from by omega, hk, Nat.min_eq_left (by omega)]
  have : (2 : Int) ^ (7 * i) = 128 ^ i := by have := p128 i; rw [← this]; norm_cast
  rw [this]
def hw (bits : Int) : Int := if bits = 32 then 16 else 2
def gres (s : ByteArray) (a bits : Int) (n : Nat) : Int × Int × Int :=
  if n = mo bits ∧ byt s a (n - 1) / hw bits ≠ 0 then (0, 0, 1200) else (wrap64 (T (byt s a) 0 n), a + n, 0)
theorem get_end (s : ByteArray) (a bits : Int) (hf : Fit s a bits) (n : Nat) (h1 : 1 ≤ n) (h2 : n ≤ mo bits) (h3 : a + n ≤ s.size) (x : Int) (hx : wrap64 x = wrap64 (T (byt s a) 0 n)) :
    ((leb_most.f bits).bind fun t104 => (if (n : Int) = t104 then (if 0 ≤ (wrap64 ((wrap64 (a + n)) - 1)) then (if (wrap64 ((wrap64 (a + n)) - 1)) < (s.size : Int) then (if 0 ≤ (wrap64 (bits - (wrap64 (7 * (wrap64 ((n : Int) - 1)))))) then (if (shr .u8 (bt s (wrap64 ((wrap64 (a + n)) - 1))) (wrap64 (bits - (wrap64 (7 * (wrap64 ((n : Int) - 1))))))) = 0 then (some (wrap64 (x), wrap64 (a + n), (0 : Int))) else (some (0, 0, 1200))) else (none)) else (none)) else (none)) else (some (wrap64 (x), wrap64 (a + n), 0)))) = some (gres s a bits n) := by
  obtain ⟨hb, h0, hs, hz⟩ := hf
  have hm : mo bits ≤ 10 := by unfold mo; split <;> omega
  have w1 : wrap64 (a + n) = a + n := wrap64_eq (by omega) (by omega)
  have w2 : wrap64 (a + n - 1) = a + n - 1 := wrap64_eq (by omega) (by omega)
  have w3 : wrap64 ((n : Int) - 1) = n - 1 := wrap64_eq (by omega) (by omega)
  have w4 : wrap64 (7 * ((n : Int) - 1)) = 7 * (n - 1) := wrap64_eq (by omega) (by omega)
  rw [most_eq hb, Option.bind_some, w1, w2, w3, w4, hx]
  unfold gres
  by_cases e : n = mo bits
  · have hbt : bt s (a + n - 1) = byt s a (n - 1) := by unfold byt; congr 1; omega
    have w5 : wrap64 (bits - 7 * ((n : Int) - 1)) = bits - 7 * ((n : Int) - 1) := wrap64_eq (by rcases hb with rfl | rfl <;> omega) (by rcases hb with rfl | rfl <;> omega)
    have hsh : shr .u8 (byt s a (n - 1)) (bits - 7 * ((n : Int) - 1)) = byt s a (n - 1) / hw bits := by
      rcases hb with rfl | rfl
      · have : n = 5 := e
        subst this; rfl
      · have : n = 10 := e
        subst this; rfl
    have hp : 0 ≤ bits - 7 * ((n : Int) - 1) := by
      rcases hb with rfl | rfl
      · have : n = 5 := e
        omega
      · have : n = 10 := e
        omega
    rw [if_pos (by omega), if_pos (by omega), if_pos (by omega), hbt, w5, if_pos hp, hsh]
    by_cases c : byt s a (n - 1) / hw bits = 0
    · rw [if_pos c, if_neg (fun h => h.2 c)]
    · rw [if_neg c, if_pos ⟨e, c⟩]
  · rw [if_neg (by omega), if_neg (fun h => e h.1)]
theorem get_l0 (s : ByteArray) (a bits : Int) (hf : Fit s a bits) (n : Nat) (h1 : 1 ≤ n) (h2 : n ≤ mo bits) (h3 : a + n ≤ s.size) : ∀ (d i k : Nat), i + d = n → d < k →
    leb_Get.l0 k s a bits n (T (byt s a) 0 i % 18446744073709551616) n i = some (gres s a bits n)
  | d, i, 0, _, h => by omega
  | 0, i, k + 1, hi, hk => by
    obtain rfl : i = n := by omega
    rw [leb_Get.l0, if_neg (by omega)]
    exact get_end s a bits hf i h1 h2 h3 _ (wrap64_idem _ _ (by omega))
  | d + 1, i, k + 1, hi, hk => by
    have hf0 := hf
    obtain ⟨hb, h0, hs, hz⟩ := hf
    have hm : mo bits ≤ 10 := by unfold mo; split <;> omega
    have w1 : wrap64 (a + i) = a + i := wrap64_eq (by omega) (by omega)
    have w2 : wrap64 (7 * (i : Int)) = 7 * i := wrap64_eq (by omega) (by omega)
    have w3 : wrap64 ((i : Int) + 1) = ((i + 1 : Nat) : Int) := by rw [wrap64_eq (by omega) (by omega)]; omega
    have hr := byt_range s a i
    have hT := T_small (byt s a) (i := i) (by omega) 0
    have hT0 := T_nonneg (byt s a) i 0
    rw [leb_Get.l0, if_pos (by omega), w1, if_pos (by omega), if_pos (by omega), w2, if_pos (by omega), w3]
    rw [show bt s (a + i) = byt s a i from rfl, and_u8 _ hr.1 hr.2, u64_eq, show byt s a i % 128 % 18446744073709551616 = byt s a i % 128 from by omega]
    rw [shl7 .u64 rfl _ i (by omega), u64_eq, show T (byt s a) 0 i % 18446744073709551616 = T (byt s a) 0 i from by omega, bor_comm]
    rw [or_u64 _ _ (7 * i) (by omega) (by rw [u64_mod _ _ (by omega)]; exact mul_pow_mod _ _) hT0 (by rw [p128]; exact T_lt _ _ _)]
    have e : (byt s a i % 128 * 128 ^ i % 18446744073709551616 + T (byt s a) 0 i) % 18446744073709551616 = T (byt s a) 0 (i + 1) % 18446744073709551616 := by
      rw [T_last, Nat.zero_add]; omega
    rw [e]
    exact get_l0 s a bits hf0 n h1 h2 h3 d (i + 1) k (by omega) (by omega)
instance (s : ByteArray) (a bits : Int) : Decidable (Fit s a bits) := by unfold Fit; exact inferInstance
def G (s : ByteArray) (a bits : Int) : Int × Int × Int :=
  if Fit s a bits then
    (if (scan (byt s a) ((s.size : Int) - a).toNat (mo bits) 0).2 = 0 then gres s a bits (scan (byt s a) ((s.size : Int) - a).toNat (mo bits) 0).1.toNat else (0, 0, (scan (byt s a) ((s.size : Int) - a).toNat (mo bits) 0).2))
  else (0, 0, 1200)
theorem scan_or (f : Nat → Int) (lim d : Nat) : (∃ n : Nat, 1 ≤ n ∧ n ≤ d ∧ n ≤ lim ∧ scan f lim d 0 = ((n : Int), 0) ∧ f (n - 1) < 128 ∧ ∀ j, j < n - 1 → 128 ≤ f j) ∨ (scan f lim d 0).2 ≠ 0 ∧ (scan f lim d 0).1 = 0 := by
  rcases scan_cases f lim d 0 (by omega) with ⟨h, _⟩ | ⟨h, _⟩ | ⟨n, _, h2, h3, h4, h5, h6⟩
  · right; rw [h]; exact ⟨by decide, rfl⟩
  · right; rw [h]; exact ⟨by decide, rfl⟩
  · exact .inl ⟨n + 1, by omega, by omega, by omega, by rw [h4]; simp, by simpa using h5, fun j hj => h6 j (by omega) (by omega)⟩
theorem G_ok {s : ByteArray} {a bits : Int} (hf : Fit s a bits) {n : Nat} (h : scan (byt s a) ((s.size : Int) - a).toNat (mo bits) 0 = ((n : Int), 0)) : G s a bits = gres s a bits n := by
  unfold G; rw [if_pos hf]; simp [h]
theorem G_err {s : ByteArray} {a bits : Int} (hf : Fit s a bits) (h : (scan (byt s a) ((s.size : Int) - a).toNat (mo bits) 0).2 ≠ 0) : G s a bits = (0, 0, (scan (byt s a) ((s.size : Int) - a).toNat (mo bits) 0).2) := by
  unfold G; rw [if_pos hf]; simp [h]
theorem G_not {s : ByteArray} {a bits : Int} (hf : ¬ Fit s a bits) : G s a bits = (0, 0, 1200) := by
  unfold G; rw [if_neg hf]
theorem get_ev (s : ByteArray) (a bits : Int) (hz : s.size ≤ 140737488355328) : Ev (fun k => leb_Get.f k s a bits) (G s a bits) := by
  by_cases hf : Fit s a bits
  · refine Ev.bind (parts_fit s a bits hf) ?_
    rcases scan_or (byt s a) ((s.size : Int) - a).toNat (mo bits) with ⟨n, h1, h2, h3, h4, _, _⟩ | ⟨h, _⟩
    · rw [G_ok hf h4, h4]
      refine ⟨n + 1, fun k hk => ?_⟩
      have hs := hf.2.2.1
      have h0 := hf.2.1
      have := get_l0 s a bits hf n h1 h2 (by omega) n 0 k (by omega) (by omega)
      simpa [T] using this
    · rw [G_err hf h]
      refine ⟨0, fun k _ => ?_⟩
      simp [h]
  · rw [G_not hf]
    refine Ev.bind (parts_not s a bits hz hf) ⟨0, fun k _ => rfl⟩
end Go.Proofs.YtkdoijfjceeblaaDoor.LebGets
namespace Go.Proofs.YtkdoijfjceeblaaDoor.LebGetS
open Go Go.RowKit Go.Proofs.YtkdoijfjceeblaaDoorW.PrintWords Go.Proofs.YtkdoijfjceeblaaDoorW.PrintMore Go.Proofs.YtkdoijfjceeblaaDoor.LebMath Go.Proofs.YtkdoijfjceeblaaDoor.LebFns Go.Proofs.YtkdoijfjceeblaaDoor.LebGets Go.Proofs.YtkdoijfjceeblaaDoor.F
def hs (bits : Int) : Int := if bits = 32 then 8 else 1
def hm (bits : Int) : Int := if bits = 32 then 15 else 127
def sg (s : ByteArray) (a : Int) (n : Nat) : Int := if byt s a (n - 1) / 64 % 2 = 1 then 128 ^ n else 0
def sres (s : ByteArray) (a bits : Int) (n : Nat) : Int × Int × Int :=
  if n = mo bits ∧ byt s a (n - 1) / hs bits ≠ 0 ∧ byt s a (n - 1) / hs bits ≠ hm bits then (0, 0, 1200) else (wrap64 (T (byt s a) 0 n - sg s a n), a + n, 0)
def GS (s : ByteArray) (a bits : Int) : Int × Int × Int :=
  if Fit s a bits then
    (if (scan (byt s a) ((s.size : Int) - a).toNat (mo bits) 0).2 = 0 then sres s a bits (scan (byt s a) ((s.size : Int) - a).toNat (mo bits) 0).1.toNat else (0, 0, (scan (byt s a) ((s.size : Int) - a).toNat (mo bits) 0).2))
  else (0, 0, 1200)
theorem GS_ok {s : ByteArray} {a bits : Int} (hf : Fit s a bits) {n : Nat} (h : scan (byt s a) ((s.size : Int) - a).toNat (mo bits) 0 = ((n : Int), 0)) : GS s a bits = sres s a bits n := by
  unfold GS; rw [if_pos hf]; simp [h]
theorem GS_err {s : ByteArray} {a bits : Int} (hf : Fit s a bits) (h : (scan (byt s a) ((s.size : Int) - a).toNat (mo bits) 0).2 ≠ 0) : GS s a bits = (0, 0, (scan (byt s a) ((s.size : Int) - a).toNat (mo bits) 0).2) := by
  unfold GS; rw [if_pos hf]; simp [h]
theorem GS_not {s : ByteArray} {a bits : Int} (hf : ¬ Fit s a bits) : GS s a bits = (0, 0, 1200) := by
  unfold GS; rw [if_neg hf]
theorem and64 (b : Int) (h0 : 0 ≤ b) (h1 : b < 256) : Go.bits .and .i64 b 64 = b / 64 % 2 * 64 := by
  have h : ∀ c : Fin 256, Go.bits .and .i64 (c.val : Int) 64 = (c.val : Int) / 64 % 2 * 64 := by decide +kernel
  have := h ⟨b.toNat, by omega⟩
  simp only [Int.toNat_of_nonneg h0] at this
  exact this
theorem pow_big {n : Nat} (h : n = 10) : (128 : Int) ^ n % 18446744073709551616 = 0 := by subst h; decide
theorem gets_j2 (s : ByteArray) (a bits : Int) (hf : Fit s a bits) (n : Nat) (h1 : 1 ≤ n) (h2 : n ≤ mo bits) (h3 : a + n ≤ s.size) (x : Int) (hx : x = wrap64 (T (byt s a) 0 n - sg s a n)) (k : Nat) :
    leb_GetSigned.j2 (k + 1) a bits n x (byt s a (n - 1)) = some (sres s a bits n) := by
  obtain ⟨hb, h0, hs', hz⟩ := hf
  have hm' : mo bits ≤ 10 := by unfold mo; split <;> omega
  have hr := byt_range s a (n - 1)
  rw [leb_GetSigned.j2, most_eq hb, Option.bind_some]
  have w1 : wrap64 (a + n) = a + n := wrap64_eq (by omega) (by omega)
  have w3 : wrap64 ((n : Int) - 1) = n - 1 := wrap64_eq (by omega) (by omega)
  have w4 : wrap64 (7 * ((n : Int) - 1)) = 7 * (n - 1) := wrap64_eq (by omega) (by omega)
  have w5 : wrap64 (bits - 7 * ((n : Int) - 1)) = bits - 7 * ((n : Int) - 1) := wrap64_eq (by rcases hb with rfl | rfl <;> omega) (by rcases hb with rfl | rfl <;> omega)
  have w6 : wrap64 (bits - 7 * ((n : Int) - 1) - 1) = bits - 7 * ((n : Int) - 1) - 1 := wrap64_eq (by rcases hb with rfl | rfl <;> omega) (by rcases hb with rfl | rfl <;> omega)
  have w7 : wrap64 (8 - (bits - 7 * ((n : Int) - 1))) = 8 - (bits - 7 * ((n : Int) - 1)) := wrap64_eq (by rcases hb with rfl | rfl <;> omega) (by rcases hb with rfl | rfl <;> omega)
  rw [w3, w4, w5, w6, w7, w1, hx]
  unfold sres
  by_cases e : n = mo bits
  · have hsh : shr .i64 (byt s a (n - 1)) (bits - 7 * ((n : Int) - 1) - 1) = byt s a (n - 1) / hs bits := by
      rcases hb with rfl | rfl
      · have : n = 5 := e
        subst this; rfl
      · have : n = 10 := e
        subst this; rfl
    have hsl : wrap64 (shl .i64 1 (8 - (bits - 7 * ((n : Int) - 1))) - 1) = hm bits := by
      rcases hb with rfl | rfl
      · have : n = 5 := e
        subst this; decide +kernel
      · have : n = 10 := e
        subst this; decide +kernel
    have hp : 0 ≤ bits - 7 * ((n : Int) - 1) - 1 ∧ 0 ≤ 8 - (bits - 7 * ((n : Int) - 1)) := by
      rcases hb with rfl | rfl
      · have : n = 5 := e
        omega
      · have : n = 10 := e
        omega
    rw [if_pos (by omega), if_pos hp.1, hsh, if_pos hp.2, hsl]
    by_cases c : byt s a (n - 1) / hs bits = 0
    · rw [if_pos c, if_neg (fun h => h.2.1 c)]
    · rw [if_neg c]
      by_cases c2 : byt s a (n - 1) / hs bits = hm bits
      · rw [if_pos c2, if_neg (fun h => h.2.2 c2)]
      · rw [if_neg c2, if_pos ⟨e, c, c2⟩]
  · rw [if_neg (by omega), if_neg (fun h => e h.1)]
theorem gets_end (s : ByteArray) (a bits : Int) (hf : Fit s a bits) (n : Nat) (h1 : 1 ≤ n) (h2 : n ≤ mo bits) (h3 : a + n ≤ s.size) (k : Nat) :
    leb_GetSigned.l0 (k + 3) s a bits n (wrap64 (T (byt s a) 0 n)) n n = some (sres s a bits n) := by
  have hf0 := hf
  obtain ⟨hb, h0, hs', hz⟩ := hf
  have hm' : mo bits ≤ 10 := by unfold mo; split <;> omega
  have hr := byt_range s a (n - 1)
  have hbt : bt s (a + n - 1) = byt s a (n - 1) := by unfold byt; congr 1; omega
  have w1 : wrap64 (a + n) = a + n := wrap64_eq (by omega) (by omega)
  have w2 : wrap64 (a + n - 1) = a + n - 1 := wrap64_eq (by omega) (by omega)
  have w3 : wrap64 (7 * (n : Int)) = 7 * n := wrap64_eq (by omega) (by omega)
  rw [leb_GetSigned.l0, if_neg (by omega), w1, w2, if_pos (by omega), if_pos (by omega), hbt, wrap64_eq (x := byt s a (n - 1)) (by omega) (by omega), and64 _ hr.1 hr.2, w3]
  by_cases c : byt s a (n - 1) / 64 % 2 = 1
  · rw [if_neg (by omega), leb_GetSigned.j1]
    by_cases d : 7 * (n : Int) < 64
    · rw [if_pos (decide_eq_true d), w3, if_pos (by omega), shl7 .i64 rfl _ n (by omega), i64_eq]
      have hp := pow_le9 (i := n) (by omega)
      have hp0 := pow_pos128 n
      have ht0 := T_nonneg (byt s a) n 0
      have ht := T_lt (byt s a) n 0
      rw [bor_comm, wrap64_eq (x := T (byt s a) 0 n) (by omega) (by omega)]
      rw [or_i64 _ _ (7 * n) (by omega) (by rw [mod_wrap _ _ (by omega)]; exact mul_pow_mod _ _) ht0 (by rw [p128]; exact ht)]
      refine gets_j2 s a bits hf0 n h1 h2 h3 _ (wrap64_idem _ _ ?_) k
      obtain ⟨q, hq⟩ := wrap64_mod (-1 * 128 ^ n)
      rw [hq]
      unfold sg; rw [if_pos c]
      omega
    · rw [if_neg (by simp; omega)]
      refine gets_j2 s a bits hf0 n h1 h2 h3 _ (wrap64_idem _ _ ?_) k
      unfold sg; rw [if_pos c]
      have := pow_big (n := n) (by omega)
      omega
  · rw [if_pos (by omega), leb_GetSigned.j1, if_neg (by simp)]
    refine gets_j2 s a bits hf0 n h1 h2 h3 _ ?_ k
    unfold sg; rw [if_neg c, Int.sub_zero]
theorem gets_l0 (s : ByteArray) (a bits : Int) (hf : Fit s a bits) (n : Nat) (h1 : 1 ≤ n) (h2 : n ≤ mo bits) (h3 : a + n ≤ s.size) : ∀ (d i k : Nat), i + d = n → d + 2 < k →
    leb_GetSigned.l0 k s a bits n (wrap64 (T (byt s a) 0 i)) n i = some (sres s a bits n)
  | d, i, 0, _, h => by omega
  | 0, i, k + 1, hi, hk => by
    obtain rfl : i = n := by omega
    obtain ⟨k, rfl⟩ : ∃ m, k = m + 2 := ⟨k - 2, by omega⟩
    exact gets_end s a bits hf i h1 h2 h3 k
  | d + 1, i, k + 1, hi, hk => by
    have hf0 := hf
    obtain ⟨hb, h0, hs', hz⟩ := hf
    have hm' : mo bits ≤ 10 := by unfold mo; split <;> omega
    have w1 : wrap64 (a + i) = a + i := wrap64_eq (by omega) (by omega)
    have w2 : wrap64 (7 * (i : Int)) = 7 * i := wrap64_eq (by omega) (by omega)
    have w3 : wrap64 ((i : Int) + 1) = ((i + 1 : Nat) : Int) := by rw [wrap64_eq (by omega) (by omega)]; omega
    have hr := byt_range s a i
    have hT := T_small (byt s a) (i := i) (by omega) 0
    have hT0 := T_nonneg (byt s a) i 0
    rw [leb_GetSigned.l0, if_pos (by omega), w1, if_pos (by omega), if_pos (by omega), w2, if_pos (by omega), w3]
    rw [show bt s (a + i) = byt s a i from rfl, and_u8 _ hr.1 hr.2, wrap64_eq (x := byt s a i % 128) (by omega) (by omega)]
    rw [shl7 .i64 rfl _ i (by omega), i64_eq, wrap64_eq (x := T (byt s a) 0 i) (by omega) (by omega), bor_comm]
    rw [or_i64 _ _ (7 * i) (by omega) (by rw [mod_wrap _ _ (by omega)]; exact mul_pow_mod _ _) hT0 (by rw [p128]; exact T_lt _ _ _)]
    have e : wrap64 (wrap64 (byt s a i % 128 * 128 ^ i) + T (byt s a) 0 i) = wrap64 (T (byt s a) 0 (i + 1)) := by
      refine wrap64_idem _ _ ?_
      obtain ⟨q, hq⟩ := wrap64_mod (byt s a i % 128 * 128 ^ i)
      rw [hq, T_last, Nat.zero_add]; omega
    rw [e]
    exact gets_l0 s a bits hf0 n h1 h2 h3 d (i + 1) k (by omega) (by omega)
theorem gets_ev (s : ByteArray) (a bits : Int) (hz : s.size ≤ 140737488355328) : Ev (fun k => leb_GetSigned.f k s a bits) (GS s a bits) := by
  by_cases hf : Fit s a bits
  · refine Ev.bind (parts_fit s a bits hf) ?_
    rcases scan_or (byt s a) ((s.size : Int) - a).toNat (mo bits) with ⟨n, h1, h2, h3, h4, _, _⟩ | ⟨h, _⟩
    · rw [GS_ok hf h4, h4]
      refine ⟨n + 3, fun k hk => ?_⟩
      have hs := hf.2.2.1
      have h0 := hf.2.1
      have := gets_l0 s a bits hf n h1 h2 (by omega) n 0 k (by omega) (by omega)
      rw [T, show wrap64 0 = 0 from by decide +kernel] at this
      simp only [if_true]
      exact this
    · rw [GS_err hf h]
      refine ⟨0, fun k _ => ?_⟩
      simp [h]
  · rw [GS_not hf]
    refine Ev.bind (parts_not s a bits hz hf) ⟨0, fun k _ => rfl⟩
end Go.Proofs.YtkdoijfjceeblaaDoor.LebGetS
namespace Go.Proofs.YtkdoijfjceeblaaDoor.LebBacks
open Go Go.RowKit Go.Proofs.YtkdoijfjceeblaaDoorW.PrintWords Go.Proofs.YtkdoijfjceeblaaDoorW.PrintMore Go.Proofs.YtkdoijfjceeblaaDoor.LebMath Go.Proofs.YtkdoijfjceeblaaDoor.LebFns Go.Proofs.YtkdoijfjceeblaaDoor.LebGets Go.Proofs.YtkdoijfjceeblaaDoor.LebGetS Go.Proofs.YtkdoijfjceeblaaDoor.F
def nth (ds : List Int) (i : Nat) : Int := ds.getD i 0
theorem nth_cons (c : Int) (ds : List Int) (i : Nat) : nth (c :: ds) (i + 1) = nth ds i := rfl
theorem nth_zero (c : Int) (ds : List Int) : nth (c :: ds) 0 = c := rfl
theorem T_shift (f : Nat → Int) : ∀ m j, T f (j + 1) m = T (fun i => f (i + 1)) j m
  | 0, _ => rfl
  | m + 1, j => by rw [T, T, T_shift f m (j + 1)]
theorem T_cons (c : Int) (ds : List Int) (n : Nat) : T (nth (c :: ds)) 0 (n + 1) = c % 128 + 128 * T (nth ds) 0 n := by
  rw [T, T_shift]; rfl
structure USpec (ds : List Int) (u : Int) : Prop where
  pos : 1 ≤ ds.length
  more : ∀ i, i < ds.length - 1 → 128 ≤ nth ds i
  last : nth ds (ds.length - 1) < 128
  range : ∀ i, 0 ≤ nth ds i ∧ nth ds i < 256
  val : T (nth ds) 0 ds.length = u
  lo : 1 < ds.length → 128 ^ (ds.length - 1) ≤ u
  hi : u < 128 ^ ds.length
theorem nth_out (ds : List Int) (i : Nat) (h : ds.length ≤ i) : nth ds i = 0 := by
  simp [nth, List.getD_eq_getElem?_getD, List.getElem?_eq_none h]
theorem uspec_one (u : Int) (h0 : 0 ≤ u) (h1 : u < 128) : USpec [u % 256] u := by
  have e : u % 256 = u := by omega
  rw [e]
  refine ⟨by simp, fun i hi => by simp at hi, by simpa [nth] using h1, fun i => ?_, by simp [T, nth]; omega, fun h => by simp at h, by simpa using h1⟩
  cases i with
  | zero => simp [nth]; omega
  | succ i => rw [nth_out _ _ (by simp)]; omega
theorem U_spec : ∀ (d : Nat) (u : Int), 0 ≤ u → u < 128 ^ (d + 1) → USpec (U d u) u ∧ (U d u).length ≤ d + 1
  | 0, u, h0, h1 => by rw [U]; exact ⟨uspec_one u h0 (by simpa using h1), by simp⟩
  | d + 1, u, h0, h1 => by
    rw [U]
    by_cases h : u ≥ 128
    · rw [if_pos h]
      obtain ⟨ih, il⟩ := U_spec d (u / 128) (by omega) (by rw [Int.pow_succ] at h1; omega)
      have hp := ih.pos
      refine ⟨⟨by simp, fun i hi => ?_, ?_, fun i => ?_, ?_, fun _ => ?_, ?_⟩, by simp; omega⟩
      · cases i with
        | zero => rw [nth_zero]; omega
        | succ i => rw [nth_cons]; exact ih.more i (by simp at hi; omega)
      · rw [List.length_cons, show (U d (u / 128)).length + 1 - 1 = ((U d (u / 128)).length - 1) + 1 from by omega, nth_cons]; exact ih.last
      · cases i with
        | zero => rw [nth_zero]; omega
        | succ i => rw [nth_cons]; exact ih.range i
      · rw [List.length_cons, T_cons, ih.val]; omega
      · rw [List.length_cons, Nat.add_sub_cancel]
        by_cases hl : 1 < (U d (u / 128)).length
        · have := ih.lo hl
          rw [show (U d (u / 128)).length = ((U d (u / 128)).length - 1) + 1 from by omega, Int.pow_succ]; omega
        · rw [show (U d (u / 128)).length = 1 from by omega]; omega
      · have := ih.hi
        rw [List.length_cons, Int.pow_succ]; omega
    · rw [if_neg h]; exact ⟨uspec_one u h0 (by omega), by simp⟩
structure SSpec (ds : List Int) (x : Int) : Prop where
  pos : 1 ≤ ds.length
  more : ∀ i, i < ds.length - 1 → 128 ≤ nth ds i
  last : nth ds (ds.length - 1) < 128
  range : ∀ i, 0 ≤ nth ds i ∧ nth ds i < 256
  val : T (nth ds) 0 ds.length - (if nth ds (ds.length - 1) / 64 % 2 = 1 then 128 ^ ds.length else 0) = x
  lo : 1 < ds.length → x < -(64 * 128 ^ (ds.length - 2)) ∨ 64 * 128 ^ (ds.length - 2) ≤ x
  hi : x < 64 * 128 ^ (ds.length - 1)
  hi' : -(64 * 128 ^ (ds.length - 1)) ≤ x
theorem bt_append (s t : ByteArray) (i : Nat) : bt (s ++ t) (i : Int) = if i < s.size then bt s (i : Int) else bt t ((i - s.size : Nat) : Int) := by
  unfold bt
  simp only [Int.toNat_natCast]
  by_cases h : i < s.size
  · rw [if_pos h, dif_pos h, dif_pos (by rw [ByteArray.size_append]; omega), ByteArray.getElem_append_left h]
  · rw [if_neg h]
    by_cases h2 : i < (s ++ t).size
    · rw [dif_pos h2, dif_pos (by rw [ByteArray.size_append] at h2; omega), ByteArray.getElem_append_right (by omega)]
    · rw [dif_neg h2, dif_neg (by rw [ByteArray.size_append] at h2; omega)]
theorem size_str (ds : List Int) : (strOfNums ds).size = ds.length := by
  simp [strOfNums, ByteArray.size]
theorem bt_str (ds : List Int) (i : Nat) (h : 0 ≤ nth ds i ∧ nth ds i < 256) : bt (strOfNums ds) (i : Int) = nth ds i := by
  unfold bt
  simp only [Int.toNat_natCast]
  by_cases hi : i < ds.length
  · rw [dif_pos (by rw [size_str]; exact hi)]
    have e : (strOfNums ds)[i]'(by rw [size_str]; exact hi) = UInt8.ofNat (ds[i].toNat) := by
      simp [strOfNums, ByteArray.getElem_eq_getElem_data]
    rw [e]
    have e2 : nth ds i = ds[i] := by unfold nth; rw [List.getD_eq_getElem?_getD, List.getElem?_eq_getElem hi]; rfl
    rw [e2] at h ⊢
    rw [UInt8.toNat_ofNat']
    omega
  · rw [dif_neg (by rw [size_str]; exact hi), nth_out _ _ (by omega)]
def At (s : ByteArray) (a : Int) (ds : List Int) : Prop := 0 ≤ a ∧ a + ds.length ≤ s.size ∧ s.size ≤ 140737488355328 ∧ ∀ i, i < ds.length → byt s a i = nth ds i
theorem at_mid (p q : ByteArray) (ds : List Int) (hr : ∀ i, 0 ≤ nth ds i ∧ nth ds i < 256) (hz : (p ++ strOfNums ds ++ q).size ≤ 140737488355328) : At (p ++ strOfNums ds ++ q) p.size ds := by
  refine ⟨by omega, by simp only [ByteArray.size_append, size_str]; omega, hz, fun i hi => ?_⟩
  unfold byt
  rw [show (p.size : Int) + (i : Int) = ((p.size + i : Nat) : Int) from by omega, bt_append, if_pos (by rw [ByteArray.size_append, size_str]; omega), bt_append, if_neg (by omega), show p.size + i - p.size = i from by omega]
  exact bt_str ds i (hr i)
theorem scan_at {s : ByteArray} {a : Int} {ds : List Int} (h : At s a ds) (hp : 1 ≤ ds.length) (hm : ∀ i, i < ds.length - 1 → 128 ≤ nth ds i) (hl : nth ds (ds.length - 1) < 128) {m : Nat} (hlen : ds.length ≤ m) :
    scan (byt s a) ((s.size : Int) - a).toNat m 0 = ((ds.length : Int), 0) := by
  obtain ⟨h0, h1, _, h2⟩ := h
  rw [scan_ok (byt s a) _ m 0 (ds.length - 1) (by omega) (by omega) (by omega) (by rw [h2 _ (by omega)]; exact hl) (fun j _ hj => by rw [h2 _ (by omega)]; exact hm j hj)]
  congr 1; omega
theorem T_at {s : ByteArray} {a : Int} {ds : List Int} (h : At s a ds) : T (byt s a) 0 ds.length = T (nth ds) 0 ds.length :=
  T_congr _ _ _ _ fun i _ hi => h.2.2.2 i (by omega)
theorem last_u {ds : List Int} {u : Int} (h : USpec ds u) : nth ds (ds.length - 1) = u / 128 ^ (ds.length - 1) := by
  have hv := h.val
  have hp := h.pos
  obtain ⟨m, hm⟩ : ∃ m, ds.length = m + 1 := ⟨ds.length - 1, by omega⟩
  have hl := h.last
  have hr := h.range (ds.length - 1)
  rw [hm, Nat.add_sub_cancel] at hl hr ⊢
  rw [hm, T_last, Nat.zero_add] at hv
  have h0 := T_nonneg (nth ds) m 0
  have h1 := T_lt (nth ds) m 0
  have hp0 := pow_pos128 m
  rw [← hv, show nth ds m % 128 = nth ds m from by omega, Int.add_mul_ediv_right _ _ (by omega), Int.ediv_eq_zero_of_lt h0 h1]
  omega
theorem get_u {s : ByteArray} {a bits u : Int} {ds : List Int} (h : At s a ds) (hu : USpec ds u) (hb : bits = 32 ∧ u < 4294967296 ∨ bits = 64 ∧ u < 18446744073709551616) (hlen : ds.length ≤ mo bits) : G s a bits = (wrap64 u, a + ds.length, 0) := by
  have hf : Fit s a bits := ⟨by omega, h.1, by have := h.2.1; omega, h.2.2.1⟩
  have hp := hu.pos
  rw [G_ok hf (scan_at h hp hu.more hu.last hlen)]
  unfold gres
  have hlast : byt s a (ds.length - 1) = u / 128 ^ (ds.length - 1) := by rw [h.2.2.2 _ (by omega)]; exact last_u hu
  rw [if_neg, T_at h, hu.val]
  rintro ⟨e, hne⟩
  apply hne
  rw [hlast]
  have hu0 : 0 ≤ u := by rw [← hu.val]; exact T_nonneg _ _ _
  rcases hb with ⟨rfl, hb⟩ | ⟨rfl, hb⟩
  · have e5 : ds.length = 5 := e
    rw [e5]
    have p4 : (128 : Int) ^ (5 - 1) = 268435456 := by decide
    have hh : hw 32 = 16 := rfl
    rw [p4, hh]; omega
  · have e10 : ds.length = 10 := e
    rw [e10]
    have p9 : (128 : Int) ^ (10 - 1) = 9223372036854775808 := by decide
    have hh : hw 64 = 2 := rfl
    rw [p9, hh]; omega
theorem len_u32 {ds : List Int} {u : Int} (hu : USpec ds u) (h : u < 4294967296) : ds.length ≤ 5 := by
  by_cases c : 1 < ds.length
  · have := hu.lo c
    rcases Nat.lt_or_ge 5 ds.length with h6 | h6
    · have : (128 : Int) ^ 5 ≤ 128 ^ (ds.length - 1) := by
        have h7 : (128 : Nat) ^ 5 ≤ 128 ^ (ds.length - 1) := Nat.pow_le_pow_right (by omega) (by omega)
        exact_mod_cast h7
      have p5 : (128 : Int) ^ 5 = 34359738368 := by decide
      omega
    · exact h6
  · omega
theorem U9 (u : Int) (h0 : 0 ≤ u) (h1 : u < 18446744073709551616) : USpec (U 9 u) u ∧ (U 9 u).length ≤ 10 := U_spec 9 u h0 (by have := pow10; omega)
end Go.Proofs.YtkdoijfjceeblaaDoor.LebBacks
end
section
namespace Go.Proofs.YtkdoijfjceeblaaDoor.F
open Go.RowKit Go.Proofs.YtkdoijfjceeblaaDoorW.PrintWords Go.Proofs.YtkdoijfjceeblaaDoorW.PrintLast Go.Proofs.YtkdoijfjceeblaaDoorW.PrintMore
attribute [local go_sem] max2_int min2_int max_two min_two max_three min_three max_four min_four
set_option linter.unusedVariables false
set_option linter.unusedSimpArgs false
mutual
def instr_of.j0 : Nat → Int → Bool → Option (Int)
  | 0, _, _ => none
  | k + 1, x0, x3 => if x3 = true then (some 1) else (if x0 = 2 then (instr_of.j1 k x0 true) else (if x0 = 3 then (instr_of.j1 k x0 true) else (instr_of.j1 k x0 (x0 == 4))))
def instr_of.j1 : Nat → Int → Bool → Option (Int)
  | 0, _, _ => none
  | k + 1, x0, x30 => if x30 = true then (some 2) else (if x0 = 12 then (instr_of.j2 k x0 true) else (if x0 = 13 then (instr_of.j2 k x0 true) else (if x0 = 16 then (instr_of.j2 k x0 true) else (if x0 ≥ 32 then (instr_of.j2 k x0 (decide (x0 ≤ 36))) else (instr_of.j2 k x0 false)))))
def instr_of.j2 : Nat → Int → Bool → Option (Int)
  | 0, _, _ => none
  | k + 1, x0, x41 => if x41 = true then (some 3) else (if x0 = 14 then (some 4) else (if x0 = 17 then (some 5) else (if x0 ≥ 40 then (instr_of.j3 k x0 (decide (x0 ≤ 62))) else (instr_of.j3 k x0 false))))
def instr_of.j3 : Nat → Int → Bool → Option (Int)
  | 0, _, _ => none
  | k + 1, x0, x66 => if x66 = true then (some 6) else (if x0 = 63 then (instr_of.j4 k x0 true) else (instr_of.j4 k x0 (x0 == 64)))
def instr_of.j4 : Nat → Int → Bool → Option (Int)
  | 0, _, _ => none
  | k + 1, x0, x73 => if x73 = true then (some 7) else (if x0 = 65 then (instr_of.j5 k x0 true) else (instr_of.j5 k x0 (x0 == 66)))
def instr_of.j5 : Nat → Int → Bool → Option (Int)
  | 0, _, _ => none
  | k + 1, x0, x80 => if x80 = true then (some 8) else (if x0 = 67 then (some 9) else (if x0 = 68 then (some 9) else (some 0)))
end
def instr_of.f (k : Nat) (a0 : Int) : Option (Int) := if a0 = 0 then (instr_of.j0 k a0 true) else (if a0 = 1 then (instr_of.j0 k a0 true) else (if a0 = 15 then (instr_of.j0 k a0 true) else (if a0 = 26 then (instr_of.j0 k a0 true) else (if a0 = 27 then (instr_of.j0 k a0 true) else (if a0 ≥ 69 then (instr_of.j0 k a0 (decide (a0 ≤ 191))) else (instr_of.j0 k a0 false))))))
set_option maxHeartbeats 8000000 in
set_option maxRecDepth 100000 in
theorem instr_of.calls (k : Nat) (a0 : Int) (r : Int) (w : World) (h : instr_of.f k a0 = some r) :
    Calls Tryd.prog 75 #[.int .i64 a0] w fun e w' => e = .returned (.int .i64 r) ∧ Drawn0 w w' := by
  have H : (if a0 = 0 then (instr_of.j0 k a0 true) else (if a0 = 1 then (instr_of.j0 k a0 true) else (if a0 = 15 then (instr_of.j0 k a0 true) else (if a0 = 26 then (instr_of.j0 k a0 true) else (if a0 = 27 then (instr_of.j0 k a0 true) else (if a0 ≥ 69 then (instr_of.j0 k a0 (decide (a0 ≤ 191))) else (instr_of.j0 k a0 false))))))) = some r := h
  clear h
  have HC2 := Aside0.mk H
  clear H
  go_enter Tryd.func75, Tryd.ntmps75
  go_upto_region 1 with (fail)
  go_cut [3] (fun v3 wc => ∃ (kq : Nat) (x3_1 : Bool), v3 = .bool x3_1 ∧ Aside0 (instr_of.j0 kq a0 x3_1 = some r) ∧ Aside0 (kq ≤ k) ∧ Drawn0 w wc)
  case first =>
    have H := HC2.out
    clear HC2
    by_cases c3 : a0 = 0
    · rw [if_pos c3] at H
      have c3b0 : (a0 == 0) = true := beq_iff_eq.mpr c3
      have c3b1 : (a0 != 0) = false := bne_eq_false_iff_eq.mpr c3
      clear c3
      (first | rw [c3b0] | (simp only [i64_w, i32_w]; rw [c3b0]) | skip)
      have H' := Aside0.mk H
      clear H
      go_wp2
      go_meet
      case rel => exact ⟨_, (true), (by first | rfl | (simp; done) | (simp [*]; done)), H', ⟨by first | omega | exact Nat.le_refl _⟩, by repeat (first | exact Drawn0.refl _ | apply Drawn0.step)⟩
    · rw [if_neg c3] at H
      have c3b0 : (a0 == 0) = false := beq_eq_false_iff_ne.mpr c3
      have c3b1 : (a0 != 0) = true := bne_iff_ne.mpr c3
      (first | rw [c3b0] | (simp only [i64_w, i32_w]; rw [c3b0]) | skip)
      by_cases c4 : a0 = 1
      · rw [if_pos c4] at H
        have c4b0 : (a0 == 1) = true := beq_iff_eq.mpr c4
        have c4b1 : (a0 != 1) = false := bne_eq_false_iff_eq.mpr c4
        clear c4
        have H' := Aside0.mk H
        clear H
        go_wp2
        go_meet
        case rel => exact ⟨_, (true), (by first | rfl | (simp; done) | (simp [*]; done)), H', ⟨by first | omega | exact Nat.le_refl _⟩, by repeat (first | exact Drawn0.refl _ | apply Drawn0.step)⟩
      · rw [if_neg c4] at H
        have c4b0 : (a0 == 1) = false := beq_eq_false_iff_ne.mpr c4
        have c4b1 : (a0 != 1) = true := bne_iff_ne.mpr c4
        by_cases c5 : a0 = 15
        · rw [if_pos c5] at H
          have c5b0 : (a0 == 15) = true := beq_iff_eq.mpr c5
          have c5b1 : (a0 != 15) = false := bne_eq_false_iff_eq.mpr c5
          clear c5
          have H' := Aside0.mk H
          clear H
          go_wp2
          go_meet
          case rel => exact ⟨_, (true), (by first | rfl | (simp; done) | (simp [*]; done)), H', ⟨by first | omega | exact Nat.le_refl _⟩, by repeat (first | exact Drawn0.refl _ | apply Drawn0.step)⟩
        · rw [if_neg c5] at H
          have c5b0 : (a0 == 15) = false := beq_eq_false_iff_ne.mpr c5
          have c5b1 : (a0 != 15) = true := bne_iff_ne.mpr c5
          by_cases c6 : a0 = 26
          · rw [if_pos c6] at H
            have c6b0 : (a0 == 26) = true := beq_iff_eq.mpr c6
            have c6b1 : (a0 != 26) = false := bne_eq_false_iff_eq.mpr c6
            clear c6
            have H' := Aside0.mk H
            clear H
            go_wp2
            go_meet
            case rel => exact ⟨_, (true), (by first | rfl | (simp; done) | (simp [*]; done)), H', ⟨by first | omega | exact Nat.le_refl _⟩, by repeat (first | exact Drawn0.refl _ | apply Drawn0.step)⟩
          · rw [if_neg c6] at H
            have c6b0 : (a0 == 26) = false := beq_eq_false_iff_ne.mpr c6
            have c6b1 : (a0 != 26) = true := bne_iff_ne.mpr c6
            by_cases c7 : a0 = 27
            · rw [if_pos c7] at H
              have c7b0 : (a0 == 27) = true := beq_iff_eq.mpr c7
              have c7b1 : (a0 != 27) = false := bne_eq_false_iff_eq.mpr c7
              clear c7
              have H' := Aside0.mk H
              clear H
              go_wp2
              go_meet
              case rel => exact ⟨_, (true), (by first | rfl | (simp; done) | (simp [*]; done)), H', ⟨by first | omega | exact Nat.le_refl _⟩, by repeat (first | exact Drawn0.refl _ | apply Drawn0.step)⟩
            · rw [if_neg c7] at H
              have c7b0 : (a0 == 27) = false := beq_eq_false_iff_ne.mpr c7
              have c7b1 : (a0 != 27) = true := bne_iff_ne.mpr c7
              by_cases c8 : a0 ≥ 69
              · rw [if_pos c8] at H
                have c8b0 : decide (69 ≤ a0) = true := decide_eq_true c8
                clear c8
                have H' := Aside0.mk H
                clear H
                go_wp2
                go_meet
                case rel => exact ⟨_, (decide (a0 ≤ 191)), (by first | rfl | (simp; done) | (simp [*]; done)), H', ⟨by first | omega | exact Nat.le_refl _⟩, by repeat (first | exact Drawn0.refl _ | apply Drawn0.step)⟩
              · rw [if_neg c8] at H
                have c8b0 : decide (69 ≤ a0) = false := decide_eq_false c8
                clear c8
                have H' := Aside0.mk H
                clear H
                go_wp2
                go_meet
                case rel => exact ⟨_, (false), (by first | rfl | (simp; done) | (simp [*]; done)), H', ⟨by first | omega | exact Nat.le_refl _⟩, by repeat (first | exact Drawn0.refl _ | apply Drawn0.step)⟩
  case rest =>
    clear HC2
    try clear p2
    try clear c3
    try clear c3b0
    try clear c3b1
    try clear c4
    try clear c4b0
    try clear c4b1
    try clear c5
    try clear c5b0
    try clear c5b1
    try clear c6
    try clear c6b0
    try clear c6b1
    try clear c7
    try clear c7b0
    try clear c7b1
    try clear c8
    try clear c8b0
    obtain ⟨kq, x3_1, rfl, HA, HJ1, ⟨mc1, rfl⟩⟩ := hcut
    cases kq with
    | zero => exact absurd HA.out (by simp [instr_of.j0])
    | succ kj1 =>
      have H := HA.out
      clear HA
      simp only [instr_of.j0] at H
      by_cases c9 : x3_1 = true
      · subst c9
        have H1 : (some 1) = some r := by rw [if_pos rfl] at H; exact H
        clear H
        have H := H1
        clear H1
        obtain rfl := Option.some.inj H
        go_wp2
        go_ret
        exact ⟨by first | rfl | (simp; done) | (simp [*]; done), by repeat (first | exact Drawn0.refl _ | apply Drawn0.step)⟩
      · replace c9 := Bool.eq_false_iff.mpr c9
        subst c9
        have H1 : (if a0 = 2 then (instr_of.j1 kj1 a0 true) else (if a0 = 3 then (instr_of.j1 kj1 a0 true) else (instr_of.j1 kj1 a0 (a0 == 4)))) = some r := by rw [if_neg (show ¬ (false = true) by decide)] at H; exact H
        clear H
        have H := H1
        clear H1
        have HC10 := Aside0.mk H
        clear H
        go_upto_region 3 with (fail)
        go_cut [30] (fun v30 wc => ∃ (kq : Nat) (x30_9 : Bool), v30 = .bool x30_9 ∧ Aside0 (instr_of.j1 kq a0 x30_9 = some r) ∧ Aside0 (kq ≤ kj1) ∧ Drawn0 w wc)
        case first =>
          have H := HC10.out
          clear HC10
          by_cases c11 : a0 = 2
          · rw [if_pos c11] at H
            have c11b0 : (a0 == 2) = true := beq_iff_eq.mpr c11
            have c11b1 : (a0 != 2) = false := bne_eq_false_iff_eq.mpr c11
            clear c11
            (first | rw [c11b0] | (simp only [i64_w, i32_w]; rw [c11b0]) | skip)
            have H' := Aside0.mk H
            clear H
            go_wp2
            go_meet
            case rel => exact ⟨_, (true), (by first | rfl | (simp; done) | (simp [*]; done)), H', ⟨by have := HJ1.out; first | omega | exact Nat.le_refl _⟩, by repeat (first | exact Drawn0.refl _ | apply Drawn0.step)⟩
          · rw [if_neg c11] at H
            have c11b0 : (a0 == 2) = false := beq_eq_false_iff_ne.mpr c11
            have c11b1 : (a0 != 2) = true := bne_iff_ne.mpr c11
            (first | rw [c11b0] | (simp only [i64_w, i32_w]; rw [c11b0]) | skip)
            by_cases c12 : a0 = 3
            · rw [if_pos c12] at H
              have c12b0 : (a0 == 3) = true := beq_iff_eq.mpr c12
              have c12b1 : (a0 != 3) = false := bne_eq_false_iff_eq.mpr c12
              clear c12
              have H' := Aside0.mk H
              clear H
              go_wp2
              go_meet
              case rel => exact ⟨_, (true), (by first | rfl | (simp; done) | (simp [*]; done)), H', ⟨by have := HJ1.out; first | omega | exact Nat.le_refl _⟩, by repeat (first | exact Drawn0.refl _ | apply Drawn0.step)⟩
            · rw [if_neg c12] at H
              have c12b0 : (a0 == 3) = false := beq_eq_false_iff_ne.mpr c12
              have c12b1 : (a0 != 3) = true := bne_iff_ne.mpr c12
              have H' := Aside0.mk H
              clear H
              go_wp2
              go_meet
              case rel => exact ⟨_, ((a0 == 4)), (by first | rfl | (simp; done) | (simp [*]; done)), H', ⟨by have := HJ1.out; first | omega | exact Nat.le_refl _⟩, by repeat (first | exact Drawn0.refl _ | apply Drawn0.step)⟩
        case rest =>
          clear HC10
          try clear c1
          try clear p2
          try clear c3
          try clear c3b0
          try clear c3b1
          try clear c4
          try clear c4b0
          try clear c4b1
          try clear c5
          try clear c5b0
          try clear c5b1
          try clear c6
          try clear c6b0
          try clear c6b1
          try clear c7
          try clear c7b0
          try clear c7b1
          try clear c8
          try clear c8b0
          try clear c9
          try clear c11
          try clear c11b0
          try clear c11b1
          try clear c12
          try clear c12b0
          try clear c12b1
          try clear p2
          obtain ⟨kq, x30_9, rfl, HA, HJ9, ⟨mc9, rfl⟩⟩ := hcut
          cases kq with
          | zero => exact absurd HA.out (by simp [instr_of.j1])
          | succ kj9 =>
            have H := HA.out
            clear HA
            simp only [instr_of.j1] at H
            by_cases c13 : x30_9 = true
            · subst c13
              have H1 : (some 2) = some r := by rw [if_pos rfl] at H; exact H
              clear H
              have H := H1
              clear H1
              obtain rfl := Option.some.inj H
              go_wp2
              go_ret
              exact ⟨by first | rfl | (simp; done) | (simp [*]; done), by repeat (first | exact Drawn0.refl _ | apply Drawn0.step)⟩
            · replace c13 := Bool.eq_false_iff.mpr c13
              subst c13
              have H1 : (if a0 = 12 then (instr_of.j2 kj9 a0 true) else (if a0 = 13 then (instr_of.j2 kj9 a0 true) else (if a0 = 16 then (instr_of.j2 kj9 a0 true) else (if a0 ≥ 32 then (instr_of.j2 kj9 a0 (decide (a0 ≤ 36))) else (instr_of.j2 kj9 a0 false))))) = some r := by rw [if_neg (show ¬ (false = true) by decide)] at H; exact H
              clear H
              have H := H1
              clear H1
              have HC14 := Aside0.mk H
              clear H
              go_upto_region 5 with (fail)
              go_cut [41] (fun v41 wc => ∃ (kq : Nat) (x41_13 : Bool), v41 = .bool x41_13 ∧ Aside0 (instr_of.j2 kq a0 x41_13 = some r) ∧ Aside0 (kq ≤ kj9) ∧ Drawn0 w wc)
              case first =>
                have H := HC14.out
                clear HC14
                by_cases c15 : a0 = 12
                · rw [if_pos c15] at H
                  have c15b0 : (a0 == 12) = true := beq_iff_eq.mpr c15
                  have c15b1 : (a0 != 12) = false := bne_eq_false_iff_eq.mpr c15
                  clear c15
                  (first | rw [c15b0] | (simp only [i64_w, i32_w]; rw [c15b0]) | skip)
                  have H' := Aside0.mk H
                  clear H
                  go_wp2
                  go_meet
                  case rel => exact ⟨_, (true), (by first | rfl | (simp; done) | (simp [*]; done)), H', ⟨by have := HJ1.out; have := HJ9.out; first | omega | exact Nat.le_refl _⟩, by repeat (first | exact Drawn0.refl _ | apply Drawn0.step)⟩
                · rw [if_neg c15] at H
                  have c15b0 : (a0 == 12) = false := beq_eq_false_iff_ne.mpr c15
                  have c15b1 : (a0 != 12) = true := bne_iff_ne.mpr c15
                  (first | rw [c15b0] | (simp only [i64_w, i32_w]; rw [c15b0]) | skip)
                  by_cases c16 : a0 = 13
                  · rw [if_pos c16] at H
                    have c16b0 : (a0 == 13) = true := beq_iff_eq.mpr c16
                    have c16b1 : (a0 != 13) = false := bne_eq_false_iff_eq.mpr c16
                    clear c16
                    have H' := Aside0.mk H
                    clear H
                    go_wp2
                    go_meet
                    case rel => exact ⟨_, (true), (by first | rfl | (simp; done) | (simp [*]; done)), H', ⟨by have := HJ1.out; have := HJ9.out; first | omega | exact Nat.le_refl _⟩, by repeat (first | exact Drawn0.refl _ | apply Drawn0.step)⟩
                  · rw [if_neg c16] at H
                    have c16b0 : (a0 == 13) = false := beq_eq_false_iff_ne.mpr c16
                    have c16b1 : (a0 != 13) = true := bne_iff_ne.mpr c16
                    by_cases c17 : a0 = 16
                    · rw [if_pos c17] at H
                      have c17b0 : (a0 == 16) = true := beq_iff_eq.mpr c17
                      have c17b1 : (a0 != 16) = false := bne_eq_false_iff_eq.mpr c17
                      clear c17
                      have H' := Aside0.mk H
                      clear H
                      go_wp2
                      go_meet
                      case rel => exact ⟨_, (true), (by first | rfl | (simp; done) | (simp [*]; done)), H', ⟨by have := HJ1.out; have := HJ9.out; first | omega | exact Nat.le_refl _⟩, by repeat (first | exact Drawn0.refl _ | apply Drawn0.step)⟩
                    · rw [if_neg c17] at H
                      have c17b0 : (a0 == 16) = false := beq_eq_false_iff_ne.mpr c17
                      have c17b1 : (a0 != 16) = true := bne_iff_ne.mpr c17
                      by_cases c18 : a0 ≥ 32
                      · rw [if_pos c18] at H
                        have c18b0 : decide (32 ≤ a0) = true := decide_eq_true c18
                        clear c18
                        have H' := Aside0.mk H
                        clear H
                        go_wp2
                        go_meet
                        case rel => exact ⟨_, (decide (a0 ≤ 36)), (by first | rfl | (simp; done) | (simp [*]; done)), H', ⟨by have := HJ1.out; have := HJ9.out; first | omega | exact Nat.le_refl _⟩, by repeat (first | exact Drawn0.refl _ | apply Drawn0.step)⟩
                      · rw [if_neg c18] at H
                        have c18b0 : decide (32 ≤ a0) = false := decide_eq_false c18
                        clear c18
                        have H' := Aside0.mk H
                        clear H
                        go_wp2
                        go_meet
                        case rel => exact ⟨_, (false), (by first | rfl | (simp; done) | (simp [*]; done)), H', ⟨by have := HJ1.out; have := HJ9.out; first | omega | exact Nat.le_refl _⟩, by repeat (first | exact Drawn0.refl _ | apply Drawn0.step)⟩
              case rest =>
                clear HC14
                try clear c1
                try clear p2
                try clear c3
                try clear c3b0
                try clear c3b1
                try clear c4
                try clear c4b0
                try clear c4b1
                try clear c5
                try clear c5b0
                try clear c5b1
                try clear c6
                try clear c6b0
                try clear c6b1
                try clear c7
                try clear c7b0
                try clear c7b1
                try clear c8
                try clear c8b0
                try clear c9
                try clear c11
                try clear c11b0
                try clear c11b1
                try clear c12
                try clear c12b0
                try clear c12b1
                try clear c13
                try clear c15
                try clear c15b0
                try clear c15b1
                try clear c16
                try clear c16b0
                try clear c16b1
                try clear c17
                try clear c17b0
                try clear c17b1
                try clear c18
                try clear c18b0
                try clear p2
                obtain ⟨kq, x41_13, rfl, HA, HJ13, ⟨mc13, rfl⟩⟩ := hcut
                cases kq with
                | zero => exact absurd HA.out (by simp [instr_of.j2])
                | succ kj13 =>
                  have H := HA.out
                  clear HA
                  simp only [instr_of.j2] at H
                  by_cases c19 : x41_13 = true
                  · subst c19
                    have H1 : (some 3) = some r := by rw [if_pos rfl] at H; exact H
                    clear H
                    have H := H1
                    clear H1
                    obtain rfl := Option.some.inj H
                    go_wp2
                    go_ret
                    exact ⟨by first | rfl | (simp; done) | (simp [*]; done), by repeat (first | exact Drawn0.refl _ | apply Drawn0.step)⟩
                  · replace c19 := Bool.eq_false_iff.mpr c19
                    subst c19
                    have H1 : (if a0 = 14 then (some 4) else (if a0 = 17 then (some 5) else (if a0 ≥ 40 then (instr_of.j3 kj13 a0 (decide (a0 ≤ 62))) else (instr_of.j3 kj13 a0 false)))) = some r := by rw [if_neg (show ¬ (false = true) by decide)] at H; exact H
                    clear H
                    have H := H1
                    clear H1
                    by_cases c20 : a0 = 14
                    · rw [if_pos c20] at H
                      have c20b0 : (a0 == 14) = true := beq_iff_eq.mpr c20
                      have c20b1 : (a0 != 14) = false := bne_eq_false_iff_eq.mpr c20
                      clear c20
                      obtain rfl := Option.some.inj H
                      go_wp2
                      go_ret
                      exact ⟨by first | rfl | (simp; done) | (simp [*]; done), by repeat (first | exact Drawn0.refl _ | apply Drawn0.step)⟩
                    · rw [if_neg c20] at H
                      have c20b0 : (a0 == 14) = false := beq_eq_false_iff_ne.mpr c20
                      have c20b1 : (a0 != 14) = true := bne_iff_ne.mpr c20
                      by_cases c21 : a0 = 17
                      · rw [if_pos c21] at H
                        have c21b0 : (a0 == 17) = true := beq_iff_eq.mpr c21
                        have c21b1 : (a0 != 17) = false := bne_eq_false_iff_eq.mpr c21
                        clear c21
                        obtain rfl := Option.some.inj H
                        go_wp2
                        go_ret
                        exact ⟨by first | rfl | (simp; done) | (simp [*]; done), by repeat (first | exact Drawn0.refl _ | apply Drawn0.step)⟩
                      · rw [if_neg c21] at H
                        have c21b0 : (a0 == 17) = false := beq_eq_false_iff_ne.mpr c21
                        have c21b1 : (a0 != 17) = true := bne_iff_ne.mpr c21
                        have HC22 := Aside0.mk H
                        clear H
                        go_upto_region 11 with (fail)
                        go_cut [66] (fun v66 wc => ∃ (kq : Nat) (x66_21 : Bool), v66 = .bool x66_21 ∧ Aside0 (instr_of.j3 kq a0 x66_21 = some r) ∧ Aside0 (kq ≤ kj13) ∧ Drawn0 w wc)
                        case first =>
                          have H := HC22.out
                          clear HC22
                          by_cases c23 : a0 ≥ 40
                          · rw [if_pos c23] at H
                            have c23b0 : decide (40 ≤ a0) = true := decide_eq_true c23
                            clear c23
                            (first | rw [c23b0] | (simp only [i64_w, i32_w]; rw [c23b0]) | skip)
                            have H' := Aside0.mk H
                            clear H
                            go_wp2
                            go_meet
                            case rel => exact ⟨_, (decide (a0 ≤ 62)), (by first | rfl | (simp; done) | (simp [*]; done)), H', ⟨by have := HJ1.out; have := HJ9.out; have := HJ13.out; first | omega | exact Nat.le_refl _⟩, by repeat (first | exact Drawn0.refl _ | apply Drawn0.step)⟩
                          · rw [if_neg c23] at H
                            have c23b0 : decide (40 ≤ a0) = false := decide_eq_false c23
                            clear c23
                            (first | rw [c23b0] | (simp only [i64_w, i32_w]; rw [c23b0]) | skip)
                            have H' := Aside0.mk H
                            clear H
                            go_wp2
                            go_meet
                            case rel => exact ⟨_, (false), (by first | rfl | (simp; done) | (simp [*]; done)), H', ⟨by have := HJ1.out; have := HJ9.out; have := HJ13.out; first | omega | exact Nat.le_refl _⟩, by repeat (first | exact Drawn0.refl _ | apply Drawn0.step)⟩
                        case rest =>
                          clear HC22
                          try clear c1
                          try clear c2
                          try clear p2
                          try clear c3
                          try clear c3b0
                          try clear c3b1
                          try clear c4
                          try clear c4b0
                          try clear c4b1
                          try clear c5
                          try clear c5b0
                          try clear c5b1
                          try clear c6
                          try clear c6b0
                          try clear c6b1
                          try clear c7
                          try clear c7b0
                          try clear c7b1
                          try clear c8
                          try clear c8b0
                          try clear c9
                          try clear c11
                          try clear c11b0
                          try clear c11b1
                          try clear c12
                          try clear c12b0
                          try clear c12b1
                          try clear c13
                          try clear c15
                          try clear c15b0
                          try clear c15b1
                          try clear c16
                          try clear c16b0
                          try clear c16b1
                          try clear c17
                          try clear c17b0
                          try clear c17b1
                          try clear c18
                          try clear c18b0
                          try clear c19
                          try clear c20
                          try clear c20b0
                          try clear c20b1
                          try clear c21
                          try clear c21b0
                          try clear c21b1
                          try clear c23
                          try clear c23b0
                          try clear p2
                          obtain ⟨kq, x66_21, rfl, HA, HJ21, ⟨mc21, rfl⟩⟩ := hcut
                          cases kq with
                          | zero => exact absurd HA.out (by simp [instr_of.j3])
                          | succ kj21 =>
                            have H := HA.out
                            clear HA
                            simp only [instr_of.j3] at H
                            by_cases c24 : x66_21 = true
                            · subst c24
                              have H1 : (some 6) = some r := by rw [if_pos rfl] at H; exact H
                              clear H
                              have H := H1
                              clear H1
                              obtain rfl := Option.some.inj H
                              go_wp2
                              go_ret
                              exact ⟨by first | rfl | (simp; done) | (simp [*]; done), by repeat (first | exact Drawn0.refl _ | apply Drawn0.step)⟩
                            · replace c24 := Bool.eq_false_iff.mpr c24
                              subst c24
                              have H1 : (if a0 = 63 then (instr_of.j4 kj21 a0 true) else (instr_of.j4 kj21 a0 (a0 == 64))) = some r := by rw [if_neg (show ¬ (false = true) by decide)] at H; exact H
                              clear H
                              have H := H1
                              clear H1
                              have HC25 := Aside0.mk H
                              clear H
                              go_upto_region 13 with (fail)
                              go_cut [73] (fun v73 wc => ∃ (kq : Nat) (x73_24 : Bool), v73 = .bool x73_24 ∧ Aside0 (instr_of.j4 kq a0 x73_24 = some r) ∧ Aside0 (kq ≤ kj21) ∧ Drawn0 w wc)
                              case first =>
                                have H := HC25.out
                                clear HC25
                                by_cases c26 : a0 = 63
                                · rw [if_pos c26] at H
                                  have c26b0 : (a0 == 63) = true := beq_iff_eq.mpr c26
                                  have c26b1 : (a0 != 63) = false := bne_eq_false_iff_eq.mpr c26
                                  clear c26
                                  (first | rw [c26b0] | (simp only [i64_w, i32_w]; rw [c26b0]) | skip)
                                  have H' := Aside0.mk H
                                  clear H
                                  go_wp2
                                  go_meet
                                  case rel => exact ⟨_, (true), (by first | rfl | (simp; done) | (simp [*]; done)), H', ⟨by have := HJ1.out; have := HJ9.out; have := HJ13.out; have := HJ21.out; first | omega | exact Nat.le_refl _⟩, by repeat (first | exact Drawn0.refl _ | apply Drawn0.step)⟩
                                · rw [if_neg c26] at H
                                  have c26b0 : (a0 == 63) = false := beq_eq_false_iff_ne.mpr c26
                                  have c26b1 : (a0 != 63) = true := bne_iff_ne.mpr c26
                                  (first | rw [c26b0] | (simp only [i64_w, i32_w]; rw [c26b0]) | skip)
                                  have H' := Aside0.mk H
                                  clear H
                                  go_wp2
                                  go_meet
                                  case rel => exact ⟨_, ((a0 == 64)), (by first | rfl | (simp; done) | (simp [*]; done)), H', ⟨by have := HJ1.out; have := HJ9.out; have := HJ13.out; have := HJ21.out; first | omega | exact Nat.le_refl _⟩, by repeat (first | exact Drawn0.refl _ | apply Drawn0.step)⟩
                              case rest =>
                                clear HC25
                                try clear c1
                                try clear c2
                                try clear p2
                                try clear c3
                                try clear c3b0
                                try clear c3b1
                                try clear c4
                                try clear c4b0
                                try clear c4b1
                                try clear c5
                                try clear c5b0
                                try clear c5b1
                                try clear c6
                                try clear c6b0
                                try clear c6b1
                                try clear c7
                                try clear c7b0
                                try clear c7b1
                                try clear c8
                                try clear c8b0
                                try clear c9
                                try clear c11
                                try clear c11b0
                                try clear c11b1
                                try clear c12
                                try clear c12b0
                                try clear c12b1
                                try clear c13
                                try clear c15
                                try clear c15b0
                                try clear c15b1
                                try clear c16
                                try clear c16b0
                                try clear c16b1
                                try clear c17
                                try clear c17b0
                                try clear c17b1
                                try clear c18
                                try clear c18b0
                                try clear c19
                                try clear c20
                                try clear c20b0
                                try clear c20b1
                                try clear c21
                                try clear c21b0
                                try clear c21b1
                                try clear c23
                                try clear c23b0
                                try clear c24
                                try clear c26
                                try clear c26b0
                                try clear c26b1
                                try clear p2
                                obtain ⟨kq, x73_24, rfl, HA, HJ24, ⟨mc24, rfl⟩⟩ := hcut
                                cases kq with
                                | zero => exact absurd HA.out (by simp [instr_of.j4])
                                | succ kj24 =>
                                  have H := HA.out
                                  clear HA
                                  simp only [instr_of.j4] at H
                                  by_cases c27 : x73_24 = true
                                  · subst c27
                                    have H1 : (some 7) = some r := by rw [if_pos rfl] at H; exact H
                                    clear H
                                    have H := H1
                                    clear H1
                                    obtain rfl := Option.some.inj H
                                    go_wp2
                                    go_ret
                                    exact ⟨by first | rfl | (simp; done) | (simp [*]; done), by repeat (first | exact Drawn0.refl _ | apply Drawn0.step)⟩
                                  · replace c27 := Bool.eq_false_iff.mpr c27
                                    subst c27
                                    have H1 : (if a0 = 65 then (instr_of.j5 kj24 a0 true) else (instr_of.j5 kj24 a0 (a0 == 66))) = some r := by rw [if_neg (show ¬ (false = true) by decide)] at H; exact H
                                    clear H
                                    have H := H1
                                    clear H1
                                    have HC28 := Aside0.mk H
                                    clear H
                                    go_upto_region 15 with (fail)
                                    go_cut [80] (fun v80 wc => ∃ (kq : Nat) (x80_27 : Bool), v80 = .bool x80_27 ∧ Aside0 (instr_of.j5 kq a0 x80_27 = some r) ∧ Aside0 (kq ≤ kj24) ∧ Drawn0 w wc)
                                    case first =>
                                      have H := HC28.out
                                      clear HC28
                                      by_cases c29 : a0 = 65
                                      · rw [if_pos c29] at H
                                        have c29b0 : (a0 == 65) = true := beq_iff_eq.mpr c29
                                        have c29b1 : (a0 != 65) = false := bne_eq_false_iff_eq.mpr c29
                                        clear c29
                                        (first | rw [c29b0] | (simp only [i64_w, i32_w]; rw [c29b0]) | skip)
                                        have H' := Aside0.mk H
                                        clear H
                                        go_wp2
                                        go_meet
                                        case rel => exact ⟨_, (true), (by first | rfl | (simp; done) | (simp [*]; done)), H', ⟨by have := HJ1.out; have := HJ9.out; have := HJ13.out; have := HJ21.out; have := HJ24.out; first | omega | exact Nat.le_refl _⟩, by repeat (first | exact Drawn0.refl _ | apply Drawn0.step)⟩
                                      · rw [if_neg c29] at H
                                        have c29b0 : (a0 == 65) = false := beq_eq_false_iff_ne.mpr c29
                                        have c29b1 : (a0 != 65) = true := bne_iff_ne.mpr c29
                                        (first | rw [c29b0] | (simp only [i64_w, i32_w]; rw [c29b0]) | skip)
                                        have H' := Aside0.mk H
                                        clear H
                                        go_wp2
                                        go_meet
                                        case rel => exact ⟨_, ((a0 == 66)), (by first | rfl | (simp; done) | (simp [*]; done)), H', ⟨by have := HJ1.out; have := HJ9.out; have := HJ13.out; have := HJ21.out; have := HJ24.out; first | omega | exact Nat.le_refl _⟩, by repeat (first | exact Drawn0.refl _ | apply Drawn0.step)⟩
                                    case rest =>
                                      clear HC28
                                      try clear c1
                                      try clear c2
                                      try clear p2
                                      try clear c3
                                      try clear c3b0
                                      try clear c3b1
                                      try clear c4
                                      try clear c4b0
                                      try clear c4b1
                                      try clear c5
                                      try clear c5b0
                                      try clear c5b1
                                      try clear c6
                                      try clear c6b0
                                      try clear c6b1
                                      try clear c7
                                      try clear c7b0
                                      try clear c7b1
                                      try clear c8
                                      try clear c8b0
                                      try clear c9
                                      try clear c11
                                      try clear c11b0
                                      try clear c11b1
                                      try clear c12
                                      try clear c12b0
                                      try clear c12b1
                                      try clear c13
                                      try clear c15
                                      try clear c15b0
                                      try clear c15b1
                                      try clear c16
                                      try clear c16b0
                                      try clear c16b1
                                      try clear c17
                                      try clear c17b0
                                      try clear c17b1
                                      try clear c18
                                      try clear c18b0
                                      try clear c19
                                      try clear c20
                                      try clear c20b0
                                      try clear c20b1
                                      try clear c21
                                      try clear c21b0
                                      try clear c21b1
                                      try clear c23
                                      try clear c23b0
                                      try clear c24
                                      try clear c26
                                      try clear c26b0
                                      try clear c26b1
                                      try clear c27
                                      try clear c29
                                      try clear c29b0
                                      try clear c29b1
                                      try clear p2
                                      obtain ⟨kq, x80_27, rfl, HA, HJ27, ⟨mc27, rfl⟩⟩ := hcut
                                      cases kq with
                                      | zero => exact absurd HA.out (by simp [instr_of.j5])
                                      | succ kj27 =>
                                        have H := HA.out
                                        clear HA
                                        simp only [instr_of.j5] at H
                                        by_cases c30 : x80_27 = true
                                        · subst c30
                                          have H1 : (some 8) = some r := by rw [if_pos rfl] at H; exact H
                                          clear H
                                          have H := H1
                                          clear H1
                                          obtain rfl := Option.some.inj H
                                          go_wp2
                                          go_ret
                                          exact ⟨by first | rfl | (simp; done) | (simp [*]; done), by repeat (first | exact Drawn0.refl _ | apply Drawn0.step)⟩
                                        · replace c30 := Bool.eq_false_iff.mpr c30
                                          subst c30
                                          have H1 : (if a0 = 67 then (some 9) else (if a0 = 68 then (some 9) else (some 0))) = some r := by rw [if_neg (show ¬ (false = true) by decide)] at H; exact H
                                          clear H
                                          have H := H1
                                          clear H1
                                          by_cases c31 : a0 = 67
                                          · rw [if_pos c31] at H
                                            have c31b0 : (a0 == 67) = true := beq_iff_eq.mpr c31
                                            have c31b1 : (a0 != 67) = false := bne_eq_false_iff_eq.mpr c31
                                            clear c31
                                            obtain rfl := Option.some.inj H
                                            go_wp2
                                            go_ret
                                            exact ⟨by first | rfl | (simp; done) | (simp [*]; done), by repeat (first | exact Drawn0.refl _ | apply Drawn0.step)⟩
                                          · rw [if_neg c31] at H
                                            have c31b0 : (a0 == 67) = false := beq_eq_false_iff_ne.mpr c31
                                            have c31b1 : (a0 != 67) = true := bne_iff_ne.mpr c31
                                            by_cases c32 : a0 = 68
                                            · rw [if_pos c32] at H
                                              have c32b0 : (a0 == 68) = true := beq_iff_eq.mpr c32
                                              have c32b1 : (a0 != 68) = false := bne_eq_false_iff_eq.mpr c32
                                              clear c32
                                              obtain rfl := Option.some.inj H
                                              go_wp2
                                              go_ret
                                              exact ⟨by first | rfl | (simp; done) | (simp [*]; done), by repeat (first | exact Drawn0.refl _ | apply Drawn0.step)⟩
                                            · rw [if_neg c32] at H
                                              have c32b0 : (a0 == 68) = false := beq_eq_false_iff_ne.mpr c32
                                              have c32b1 : (a0 != 68) = true := bne_iff_ne.mpr c32
                                              obtain rfl := Option.some.inj H
                                              go_wp2
                                              go_ret
                                              exact ⟨by first | rfl | (simp; done) | (simp [*]; done), by repeat (first | exact Drawn0.refl _ | apply Drawn0.step)⟩
end Go.Proofs.YtkdoijfjceeblaaDoor.F
end
