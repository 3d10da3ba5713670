/-
  What the claim leans on, cut to what is used (wip/tools/prune15.py): words, printed functions, walks.
-/
import Derived.Test.YtkdoijfjceeblaaDoorQEDec8
import Derived.Test.YtkdoijfjceeblaaDoorQWPan2
import Derived.RangeFuncLeaves
import Derived.RangeFuncBox
import Derived.RangeFuncCalls
import Derived.RangeFuncBound
import Derived.RegionIn
import Derived.LoopIn
namespace Go.Proofs.YtkdoijfjceeblaaDoor.EDec
open Go Go.RowKit Go.Proofs.YtkdoijfjceeblaaDoor.F Go.Proofs.YtkdoijfjceeblaaDoorW.Hand Go.Proofs.YtkdoijfjceeblaaDoorW.PrintWords Go.Proofs.YtkdoijfjceeblaaDoorW.PrintLast Go.Proofs.YtkdoijfjceeblaaDoorW.PrintMore
open Go.Proofs.YtkdoijfjceeblaaDoor.LebGets (G)
open Go.Proofs.YtkdoijfjceeblaaDoor.ENames (Tabs tabs_below nget nmay)
open Go.Proofs.YtkdoijfjceeblaaDoor.EInstr (GRes pGet get_b ret_int wrap_bt)
set_option linter.unusedVariables false
set_option linter.unusedSimpArgs false
attribute [local go_sem] Oper.semAt_some
abbrev Sec := Int × ByteArray
def dHeads : Nat → ByteArray → Int → List Sec × Option Int
 | 0, _, _ => ([], none)
 | k + 1, u, last => if u.size = 0 then ([], none) else if ¬ bt u 0 ≤ 11 then ([], some 1502) else if ¬ (bt u 0 = 0 ∨ last < bt u 0) then ([], some 1503)
  else if (G u 1 32).2.2 = 0 ∧ (G u 1 32).1 ≤ (u.size : Int) - (G u 1 32).2.1 then
   ((bt u 0, u.extract (G u 1 32).2.1.toNat ((G u 1 32).2.1 + (G u 1 32).1).toNat) :: (dHeads k (u.extract ((G u 1 32).2.1 + (G u 1 32).1).toNat u.size) (max last (bt u 0))).1, (dHeads k (u.extract ((G u 1 32).2.1 + (G u 1 32).1).toNat u.size) (max last (bt u 0))).2)
  else ([], some 1501)
def encS (x : Sec) : Array Value := #[.int .i64 x.1, .string x.2]
def preH (pre : List Sec) (r : List Sec × Option Int) : List Sec × Option Int := (pre ++ r.1, r.2)
def strLen (v : Option Value) : Nat := match v with
 | some (.string s) => s.size
 | _ => 0
theorem grown_of_below {w w1 : World} (h : Below w.heap.size w w1) : w.grownBy w1 none := ⟨h.os, h.tape, h.output, h.size, fun k hk _ => h.block k hk⟩
def OkQ (q last : Int) : Prop := q = 0 ∨ last < q
theorem hend {pre : List Sec} {r a : List Sec × Option Int} {c : Int} (hE : preH pre r = a) (h : r = ([], some c)) : a = (pre, some c) := by
 subst h
 rw [← hE]
 simp [preH]
section
variable {u1 : ByteArray} {k : Nat} {last : Int}
theorem dH_0 (hz : u1.size = 0) : dHeads k u1 last = ([], none) := by
 cases k with
 | zero => rfl
 | succ k => rw [dHeads, if_pos hz]
theorem dH_1502 (hz : ¬ u1.size = 0) (h : ¬ bt u1 0 ≤ 11) : dHeads (k + 1) u1 last = ([], some 1502) := by rw [dHeads, if_neg hz, if_pos h]
theorem dH_1503 (hz : ¬ u1.size = 0) (h : bt u1 0 ≤ 11) (h2 : ¬ (bt u1 0 = 0 ∨ last < bt u1 0)) : dHeads (k + 1) u1 last = ([], some 1503) := by rw [dHeads, if_neg hz, if_neg (fun hh => hh h), if_pos h2]
theorem dH_1501 (hz : ¬ u1.size = 0) (h : bt u1 0 ≤ 11) (h2 : OkQ (bt u1 0) last) (h3 : ¬ ((G u1 1 32).2.2 = 0 ∧ (G u1 1 32).1 ≤ (u1.size : Int) - (G u1 1 32).2.1)) : dHeads (k + 1) u1 last = ([], some 1501) := by rw [dHeads, if_neg hz, if_neg (fun hh => hh h), if_neg (fun hh => hh h2), if_neg h3]
theorem dH_step (hz : ¬ u1.size = 0) (h : bt u1 0 ≤ 11) (h2 : OkQ (bt u1 0) last) {x y : Int} (hG : G u1 1 32 = (x, y, 0)) (h3 : x ≤ (u1.size : Int) - y) :
  dHeads (k + 1) u1 last = ((bt u1 0, u1.extract y.toNat (y + x).toNat) :: (dHeads k (u1.extract (y + x).toNat u1.size) (max last (bt u1 0))).1, (dHeads k (u1.extract (y + x).toNat u1.size) (max last (bt u1 0))).2) := by
 rw [dHeads, if_neg hz, if_neg (fun hh => hh h), if_neg (fun hh => hh h2), hG, if_pos ⟨rfl, h3⟩]
end
theorem sections_c (n : Nat) (u : ByteArray) (w : World) : CallsIn Fence.wide n Tryd.prog 25 #[.string u] w fun e w' => e = .returned (.func (.func 33) #[] #[.pointer (some ⟨w.heap.size, 0, none⟩)]) ∧ w' = w.alloc (.cells #[.string u] 9) := by
 refine callsIn_of_wp Tryd.func25 rfl trivial ?_ rfl
 simp only [Tryd.ntmps25, List.size_toArray, List.length_cons, List.length_nil, Nat.reduceAdd, Nat.reduceSub, Array.replicate_succ, Array.replicate_zero, List.push_toArray, List.append_toArray, List.nil_append, List.cons_append]
 gi_wp2
 go_ret
 exact ⟨by simp, rfl⟩
def RelSec (l : Nat) (Bi : Nat) (J : List Sec → World → Prop) (W : World) (N : Nat) (u : ByteArray) (v3 : Value) (wr : World) : Prop :=
 ∃ (pre : List Sec) (k : Nat) (u1 : ByteArray) (last : Int), v3 = .int .i64 last ∧ u1.size ≤ k ∧ u1.size ≤ 65536 ∧ wr.heap[Bi]? = some (.cells #[.string u1] 9 (0, 0)) ∧ J pre wr ∧ W.heap.size ≤ wr.heap.size ∧ preH pre (dHeads k u1 last) = dHeads N u 0
def GdS (x : Sec) : Prop := 0 ≤ x.1 ∧ x.1 ≤ 11 ∧ x.2.size ≤ 65536
theorem G_pos {s : ByteArray} {a x y : Int} (h : G s a 32 = (x, y, 0)) : a < y := by
 by_cases hf : LebFns.Fit s a 32
 ·rcases LebGets.scan_or (LebFns.byt s a) ((s.size : Int) - a).toNat (LebFns.mo 32) with ⟨n, h1, h2, h3, h4, _⟩ | ⟨h0, _⟩
  ·rw [LebGets.G_ok hf h4] at h
   unfold LebGets.gres at h
   split at h
   ·cases h
   ·cases h
    omega
  ·rw [LebGets.G_err hf h0] at h
   injection h with _ h
   injection h with _ h
   exact absurd h h0
 ·rw [LebGets.G_not hf] at h
  cases h
theorem str_ne {u1 : ByteArray} (h : ¬ u1.size = 0) : u1.toList.isEmpty = false := by
 rw [← decide_eq_emptyBytes]
 exact decide_eq_false (fun e => h (by rw [e]; rfl))
theorem str_eq {u1 : ByteArray} (h : u1.size = 0) : u1.toList.isEmpty = true := by
 rw [← decide_eq_emptyBytes]
 exact decide_eq_true (by
  obtain ⟨d⟩ := u1
  have : d = #[] := Array.eq_empty_of_size_eq_zero h
  rw [this]
  rfl)
set_option maxHeartbeats 4000000 in
set_option maxRecDepth 100000 in
theorem sections_seq (n : Nat) (w : World) (Bi : Nat) (u : ByteArray) (hK : w.heap[Bi]? = some (.cells #[.string u] 9 (0, 0))) (hu : u.size ≤ 65536) :
  SeqQ Fence.wide n Tryd.prog 33 #[.pointer (some ⟨Bi, 0, none⟩)] encS (fun k => k = Bi) GdS (fun xs => dHeads u.size u 0 = (xs, none)) (fun pre => ∃ post, (dHeads u.size u 0).1 = pre ++ post) (fun ch pre => ∃ c, dHeads u.size u 0 = (pre, some c) ∧ ch = [{ v := panD c, recovered := false }]) w := by
 intro l J Jp W hW hJ hJp hY h0
 have hKW : W.heap[Bi]? = some (.cells #[.string u] 9 (0, 0)) := (hW.block Bi (blk_lt hK)).trans hK
 have HJ := am hJ
 have HY := am hY
 refine callsIn_wide.2 ?_
 go_enter Tryd.func33, Tryd.ntmps33
 go_wp2
 go_loopw [3] (fun v3 wr => RelSec l Bi J W u.size u v3 wr) (fun _ wr => strLen (wr.cell? ⟨Bi, 0, none⟩))
 case atStart => exact ⟨[], u.size, u, 0, rfl, Nat.le_refl _, hu, hKW, h0, Nat.le_refl _, by simp [preH]⟩
 case round =>
  obtain ⟨pre, k, u1, last, rfl, hk, hu1, hB, hj, hsz, hE⟩ := hrel
  have y0 : wr.cell? ⟨Bi, 0, none⟩ = some (.string u1) := blk_cell hB 0
  have ML : Aside0 (strLen (wr.cell? ⟨Bi, 0, none⟩) = u1.size) := ⟨by rw [y0]; rfl⟩
  have HE := am hE
  have HB := am hB
  have HJJ := am hj
  have SZ := am hsz
  have HK := am hk
  have HU := am hu1
  clear hE hB hj hsz hk hJ hJp hY h0 hKW hu hK hW hu1
  by_cases hz : u1.size = 0
  ·have HZ := am hz
   have he := str_eq hz
   clear hz
   go_wp2
   go_end0
   exact .inl ⟨⟨_, rfl⟩, pre, by rw [← HE.out, dH_0 HZ.out]; simp [preH], HJJ.out⟩
  ·have HZ := am hz
   have he := str_ne hz
   have hpos : 0 < u1.size := by omega
   obtain ⟨k, rfl⟩ : ∃ k', k = k' + 1 := ⟨k - 1, by have := HK.out; omega⟩
   obtain ⟨q, hq⟩ : ∃ q, bt u1 0 = q := ⟨_, rfl⟩
   have B1 : ((u1[0]'hpos).toNat : Int) = q := by rw [← hq]; exact bt_at u1 0 hpos
   have B2 : wrap64 q = q := by rw [← hq]; exact wrap_bt u1 0
   have B0 := am (show 0 ≤ q by have := bt_range u1 0; omega)
   have HS := am (show u1.size ≤ 140737488355328 by have := HU.out; omega)
   obtain ⟨x, y, z, hx⟩ : ∃ x y z, G u1 1 32 = (x, y, z) := ⟨_, _, _, rfl⟩
   have HX := am hx
   have RG : Aside0 (0 ≤ x ∧ x < 34359738368 ∧ 0 ≤ y ∧ y ≤ (u1.size : Int)) := ⟨by
    rcases ENames.G_form u1 1 with ⟨n, q, hG, h1, h2⟩ | ⟨e, he, hG⟩
    ·rw [hG] at hx
     cases hx
     omega
    ·rw [hG] at hx
     cases hx
     omega⟩
   have wy : wrap64 ((u1.size : Int) - y) = (u1.size : Int) - y := by have := RG.out; have := HU.out; unfold wrap64; omega
   have wxy : wrap64 (y + x) = y + x := by have := RG.out; have := HU.out; unfold wrap64; omega
   clear hz hx
   by_cases hq0 : q = 0
   ·subst hq0
    have QQ : OkQ 0 last := .inl rfl
    have HQ := am hq
    have Q1 : Aside0 ((0 : Int) ≤ 11) := ⟨by decide⟩
    have HQQ := am QQ
    clear QQ hq
    by_cases hz0 : z = 0
    ·subst hz0
     go_wp2_with (first | (go_at_call 23; (with_reducible refine (need_yes _ _).mono ?_); rintro e w' ⟨rfl, rfl⟩) | (go_at_call 34; (with_reducible refine (get_b HS.out HX.out _).mono ?_); rintro e w3 ⟨rfl, hb⟩; have HB3 := am (blk_below HB.out hb); have HJ3 := am (HJ.out _ _ _ none HJJ.out (grown_of_below hb) (fun r e => by cases e)); have SZ3 := am (Nat.le_trans SZ.out hb.size); clear y0; have y0 : w3.cell? ⟨Bi, 0, none⟩ = some (.string u1) := blk_cell HB3.out 0; clear hb HB HJJ SZ) | (go_at_call 23; (with_reducible refine (need_c _ _ _).mono ?_); rintro e w' ⟨rfl, (⟨hb, rfl⟩ | ⟨hb, rfl⟩)⟩; (exact ⟨rfl, .inr ⟨_, pre, rfl, .inl ⟨⟨_, hend HE.out (dH_1501 HZ.out (HQ.out.symm ▸ Q1.out) (HQ.out.symm ▸ HQQ.out) (by rw [HX.out]; exact fun h => of_decide_eq_false hb h.2)), rfl⟩, HJ3.out⟩⟩⟩); have Q3 := am (of_decide_eq_true hb); clear hb; have l1 : y ≤ y + x := (by have := RG.out; omega); have l2 : y + x ≤ (u1.size : Int) := (by have := Q3.out; omega); have l0 : 0 ≤ y := RG.out.2.2.1; rename_i Ka hKa Kb hKb; refine hold ?_))
     refine ⟨?_⟩
     refine hKb _ _ (wpList_nil ?_)
     refine hKa _ _ ?_
     refine (wpIn_wide (n := n)).1 ?_
     obtain ⟨fn, tmps, assign, body, hy, hR⟩ := HY.out pre (0, u1.extract y.toNat (y + x).toNat) w3 ⟨B0.out, Q1.out, by show (u1.extract y.toNat (y + x).toNat).size ≤ 65536; rw [ByteArray.size_extract]; have := HU.out; omega⟩ HJ3.out
     dsimp only [encS] at hy
     clear hKa hKb
     gi_wp2
     refine ⟨(fun h => by cases h), hR.mono ?_⟩
     rintro e W3 ⟨hbt, hb0, (⟨rfl, hJ3⟩ | ⟨ch, rfl, hJ3⟩)⟩
     ·have K3 : W3.heap[Bi]? = some (.cells #[.string u1] 9 (0, 0)) := (hbt Bi rfl).trans HB3.out
      have y3 : W3.cell? ⟨Bi, 0, none⟩ = some (.string u1) := blk_cell K3 0
      have f3 : W3.frozen? ⟨Bi, 0, none⟩ = false := blk_frozen K3 _
      have HST := am (dH_step (k := k) (last := last) HZ.out (HQ.out.symm ▸ Q1.out) (HQ.out.symm ▸ HQQ.out) HX.out Q3.out)
      have GP := am (G_pos HX.out)
      gi_wp2
      go_wp2
      refine ⟨?rel, ?measure⟩
      case rel =>
       have GP1 := GP.out
       have RG1 := RG.out
       have KK := HK.out
       have UU := HU.out
       have Q33 := Q3.out
       have sz : (u1.extract (y + x).toNat u1.size).size = u1.size - (y + x).toNat := by rw [ByteArray.size_extract]; omega
       have hst := HST.out
       rw [HQ.out] at hst
       refine ⟨pre ++ [(0, u1.extract y.toNat (y + x).toNat)], k, u1.extract (y + x).toNat u1.size, max last 0, rfl, by omega, by omega, blk_set K3 0 _, HJ.out _ _ _ (some Bi) hJ3 (grownBy_setCell' _ _ _) (fun r e => by cases e; exact rfl), Nat.le_trans SZ3.out (Nat.le_trans hb0.size (Nat.le_of_eq (by simp [World.setCell]))), ?_⟩
       rw [← HE.out, hst]
       simp [preH]
      case measure =>
       rw [ML.out, blk_cell (blk_set K3 0 (.string (u1.extract (y + x).toNat u1.size))) 0]
       have GP1 := GP.out
       have RG1 := RG.out
       have Q33 := Q3.out
       show (u1.extract (y + x).toNat u1.size).size < u1.size
       rw [ByteArray.size_extract]
       omega
     ·have HST := dH_step (k := k) (last := last) HZ.out (HQ.out.symm ▸ Q1.out) (HQ.out.symm ▸ HQQ.out) HX.out Q3.out
      rw [HQ.out] at HST
      exact ⟨rfl, .inr ⟨ch, pre ++ [(0, u1.extract y.toNat (y + x).toNat)], rfl, .inr ⟨⟨(dHeads k (u1.extract (y + x).toNat u1.size) (max last 0)).1, by rw [← HE.out, HST]; simp [preH]⟩, hJ3⟩⟩⟩
    ·have ez : (z == 0) = false := beq_eq_false_iff_ne.2 hz0
     have HZ0 := am hz0
     clear hz0
     go_wp2_with (first | (go_at_call 23; (with_reducible refine (need_yes _ _).mono ?_); rintro e w' ⟨rfl, rfl⟩) | (go_at_call 34; (with_reducible refine (get_b HS.out HX.out _).mono ?_); rintro e w3 ⟨rfl, hb⟩; have HB3 := am (blk_below HB.out hb); have HJ3 := am (HJ.out _ _ _ none HJJ.out (grown_of_below hb) (fun r e => by cases e)); have SZ3 := am (Nat.le_trans SZ.out hb.size); clear y0; have y0 : w3.cell? ⟨Bi, 0, none⟩ = some (.string u1) := blk_cell HB3.out 0; clear hb HB HJJ SZ) | (go_at_call 23; (with_reducible refine (need_no _ _).mono ?_); rintro e w' ⟨rfl, rfl⟩; exact ⟨rfl, .inr ⟨_, pre, rfl, .inl ⟨⟨_, hend HE.out (dH_1501 HZ.out (HQ.out.symm ▸ Q1.out) (HQ.out.symm ▸ HQQ.out) (by rw [HX.out]; exact fun h => HZ0.out h.1)), rfl⟩, HJ3.out⟩⟩⟩))
   ·have e0 : (q == 0) = false := beq_eq_false_iff_ne.2 hq0
    have Q0 := am hq0
    have HQ := am hq
    clear hq0 hq
    by_cases hz0 : z = 0
    ·subst hz0
     go_wp2_with (first | (go_at_call 23; (with_reducible refine (need_c _ _ _).mono ?_); rintro e w' ⟨rfl, (⟨hb, rfl⟩ | ⟨hb, rfl⟩)⟩; (exact ⟨rfl, .inr ⟨_, pre, rfl, .inl ⟨⟨_, hend HE.out (dH_1502 HZ.out (HQ.out.symm ▸ of_decide_eq_false hb)), rfl⟩, HJJ.out⟩⟩⟩); have Q1 := am (of_decide_eq_true hb); clear hb) | (go_at_call 23; (with_reducible refine (need_c _ _ _).mono ?_); rintro e w' ⟨rfl, (⟨hb, rfl⟩ | ⟨hb, rfl⟩)⟩; (exact ⟨rfl, .inr ⟨_, pre, rfl, .inl ⟨⟨_, hend HE.out (dH_1503 HZ.out (HQ.out.symm ▸ Q1.out) (HQ.out.symm ▸ (fun h => h.elim Q0.out (of_decide_eq_false hb)))), rfl⟩, HJJ.out⟩⟩⟩); have HQQ : Aside0 (OkQ q last) := ⟨.inr (of_decide_eq_true hb)⟩; clear hb) | (go_at_call 34; (with_reducible refine (get_b HS.out HX.out _).mono ?_); rintro e w3 ⟨rfl, hb⟩; have HB3 := am (blk_below HB.out hb); have HJ3 := am (HJ.out _ _ _ none HJJ.out (grown_of_below hb) (fun r e => by cases e)); have SZ3 := am (Nat.le_trans SZ.out hb.size); clear y0; have y0 : w3.cell? ⟨Bi, 0, none⟩ = some (.string u1) := blk_cell HB3.out 0; clear hb HB HJJ SZ) | (go_at_call 23; (with_reducible refine (need_c _ _ _).mono ?_); rintro e w' ⟨rfl, (⟨hb, rfl⟩ | ⟨hb, rfl⟩)⟩; (exact ⟨rfl, .inr ⟨_, pre, rfl, .inl ⟨⟨_, hend HE.out (dH_1501 HZ.out (HQ.out.symm ▸ Q1.out) (HQ.out.symm ▸ HQQ.out) (by rw [HX.out]; exact fun h => of_decide_eq_false hb h.2)), rfl⟩, HJ3.out⟩⟩⟩); have Q3 := am (of_decide_eq_true hb); clear hb; have l1 : y ≤ y + x := (by have := RG.out; omega); have l2 : y + x ≤ (u1.size : Int) := (by have := Q3.out; omega); have l0 : 0 ≤ y := RG.out.2.2.1; rename_i Ka hKa Kb hKb; refine hold ?_))
     refine ⟨?_⟩
     refine hKb _ _ (wpList_nil ?_)
     refine hKa _ _ ?_
     refine (wpIn_wide (n := n)).1 ?_
     obtain ⟨fn, tmps, assign, body, hy, hR⟩ := HY.out pre (q, u1.extract y.toNat (y + x).toNat) w3 ⟨B0.out, Q1.out, by show (u1.extract y.toNat (y + x).toNat).size ≤ 65536; rw [ByteArray.size_extract]; have := HU.out; omega⟩ HJ3.out
     dsimp only [encS] at hy
     clear hKa hKb
     gi_wp2
     refine ⟨(fun h => by cases h), hR.mono ?_⟩
     rintro e W3 ⟨hbt, hb0, (⟨rfl, hJ3⟩ | ⟨ch, rfl, hJ3⟩)⟩
     ·have K3 : W3.heap[Bi]? = some (.cells #[.string u1] 9 (0, 0)) := (hbt Bi rfl).trans HB3.out
      have y3 : W3.cell? ⟨Bi, 0, none⟩ = some (.string u1) := blk_cell K3 0
      have f3 : W3.frozen? ⟨Bi, 0, none⟩ = false := blk_frozen K3 _
      have HST := am (dH_step (k := k) (last := last) HZ.out (HQ.out.symm ▸ Q1.out) (HQ.out.symm ▸ HQQ.out) HX.out Q3.out)
      have GP := am (G_pos HX.out)
      gi_wp2
      go_wp2
      refine ⟨?rel, ?measure⟩
      case rel =>
       have GP1 := GP.out
       have RG1 := RG.out
       have KK := HK.out
       have UU := HU.out
       have Q33 := Q3.out
       have sz : (u1.extract (y + x).toNat u1.size).size = u1.size - (y + x).toNat := by rw [ByteArray.size_extract]; omega
       have hst := HST.out
       rw [HQ.out] at hst
       refine ⟨pre ++ [(q, u1.extract y.toNat (y + x).toNat)], k, u1.extract (y + x).toNat u1.size, max last q, rfl, by omega, by omega, blk_set K3 0 _, HJ.out _ _ _ (some Bi) hJ3 (grownBy_setCell' _ _ _) (fun r e => by cases e; exact rfl), Nat.le_trans SZ3.out (Nat.le_trans hb0.size (Nat.le_of_eq (by simp [World.setCell]))), ?_⟩
       rw [← HE.out, hst]
       simp [preH]
      case measure =>
       rw [ML.out, blk_cell (blk_set K3 0 (.string (u1.extract (y + x).toNat u1.size))) 0]
       have GP1 := GP.out
       have RG1 := RG.out
       have Q33 := Q3.out
       show (u1.extract (y + x).toNat u1.size).size < u1.size
       rw [ByteArray.size_extract]
       omega
     ·have HST := dH_step (k := k) (last := last) HZ.out (HQ.out.symm ▸ Q1.out) (HQ.out.symm ▸ HQQ.out) HX.out Q3.out
      rw [HQ.out] at HST
      exact ⟨rfl, .inr ⟨ch, pre ++ [(q, u1.extract y.toNat (y + x).toNat)], rfl, .inr ⟨⟨(dHeads k (u1.extract (y + x).toNat u1.size) (max last q)).1, by rw [← HE.out, HST]; simp [preH]⟩, hJ3⟩⟩⟩
    ·have ez : (z == 0) = false := beq_eq_false_iff_ne.2 hz0
     have HZ0 := am hz0
     clear hz0
     go_wp2_with (first | (go_at_call 23; (with_reducible refine (need_c _ _ _).mono ?_); rintro e w' ⟨rfl, (⟨hb, rfl⟩ | ⟨hb, rfl⟩)⟩; (exact ⟨rfl, .inr ⟨_, pre, rfl, .inl ⟨⟨_, hend HE.out (dH_1502 HZ.out (HQ.out.symm ▸ of_decide_eq_false hb)), rfl⟩, HJJ.out⟩⟩⟩); have Q1 := am (of_decide_eq_true hb); clear hb) | (go_at_call 23; (with_reducible refine (need_c _ _ _).mono ?_); rintro e w' ⟨rfl, (⟨hb, rfl⟩ | ⟨hb, rfl⟩)⟩; (exact ⟨rfl, .inr ⟨_, pre, rfl, .inl ⟨⟨_, hend HE.out (dH_1503 HZ.out (HQ.out.symm ▸ Q1.out) (HQ.out.symm ▸ (fun h => h.elim Q0.out (of_decide_eq_false hb)))), rfl⟩, HJJ.out⟩⟩⟩); have HQQ : Aside0 (OkQ q last) := ⟨.inr (of_decide_eq_true hb)⟩; clear hb) | (go_at_call 34; (with_reducible refine (get_b HS.out HX.out _).mono ?_); rintro e w3 ⟨rfl, hb⟩; have HB3 := am (blk_below HB.out hb); have HJ3 := am (HJ.out _ _ _ none HJJ.out (grown_of_below hb) (fun r e => by cases e)); have SZ3 := am (Nat.le_trans SZ.out hb.size); clear y0; have y0 : w3.cell? ⟨Bi, 0, none⟩ = some (.string u1) := blk_cell HB3.out 0; clear hb HB HJJ SZ) | (go_at_call 23; (with_reducible refine (need_no _ _).mono ?_); rintro e w' ⟨rfl, rfl⟩; exact ⟨rfl, .inr ⟨_, pre, rfl, .inl ⟨⟨_, hend HE.out (dH_1501 HZ.out (HQ.out.symm ▸ Q1.out) (HQ.out.symm ▸ HQQ.out) (by rw [HX.out]; exact fun h => HZ0.out h.1)), rfl⟩, HJ3.out⟩⟩⟩))
end Go.Proofs.YtkdoijfjceeblaaDoor.EDec
