/-
  What the claim leans on, cut to what is used (wip/tools/prune15.py): words, printed functions, walks.
-/
import Derived.Test.YtkdoijfjceeblaaDoorQF
import Derived.Test.YtkdoijfjceeblaaDoorQE15A
import Derived.BigQuiet
import Derived.Deep.QuietTactic
import Derived.Test.YtkdoijfjceeblaaDoorQF2
import Derived.WalkLawsBesides
namespace Go.Proofs.YtkdoijfjceeblaaDoor.EInstr
open Go Go.RowKit Go.Proofs.YtkdoijfjceeblaaDoor.F Go.Proofs.YtkdoijfjceeblaaDoorW.Hand Go.Proofs.YtkdoijfjceeblaaDoorW.PrintWords Go.Proofs.YtkdoijfjceeblaaDoorW.PrintLast Go.Proofs.YtkdoijfjceeblaaDoorW.PrintMore
set_option linter.unusedVariables false
set_option linter.unusedSimpArgs false
def ofF (op : Int) : Int :=
 if op = 0 ∨ op = 1 ∨ op = 15 ∨ op = 26 ∨ op = 27 ∨ (69 ≤ op ∧ op ≤ 191) then 1
 else if op = 2 ∨ op = 3 ∨ op = 4 then 2
 else if op = 12 ∨ op = 13 ∨ op = 16 ∨ (32 ≤ op ∧ op ≤ 36) then 3
 else if op = 14 then 4
 else if op = 17 then 5
 else if 40 ≤ op ∧ op ≤ 62 then 6
 else if op = 63 ∨ op = 64 then 7
 else if op = 65 ∨ op = 66 then 8
 else if op = 67 ∨ op = 68 then 9
 else 0
def typeB (x : Int) : Bool := decide (x = 64 ∨ (124 ≤ x ∧ x ≤ 127))
def wideB (x : Int) : Bool := decide (x = 66 ∨ x = 68)
set_option maxHeartbeats 4000000 in
theorem of_ev (op : Int) : instr_of.f 10 op = some (ofF op) := by
 unfold instr_of.f ofF
 by_cases h0 : op = 0 ∨ op = 1 ∨ op = 15 ∨ op = 26 ∨ op = 27
 ·rcases h0 with rfl | rfl | rfl | rfl | rfl <;> rfl
 ·have h1 : op ≠ 0 ∧ op ≠ 1 ∧ op ≠ 15 ∧ op ≠ 26 ∧ op ≠ 27 := by omega
  obtain ⟨a1, a2, a3, a4, a5⟩ := h1
  rw [if_neg a1, if_neg a2, if_neg a3, if_neg a4, if_neg a5]
  by_cases hA : 69 ≤ op ∧ op ≤ 191
  ·rw [if_pos (by omega), if_pos (by omega), decide_eq_true hA.2]
   rfl
  ·have e : (if op ≥ 69 then instr_of.j0 10 op (decide (op ≤ 191)) else instr_of.j0 10 op false) = instr_of.j0 10 op false := by
    split
    ·rw [decide_eq_false (by omega)]
    ·rfl
   rw [e, if_neg (by omega), instr_of.j0, if_neg (by decide)]
   by_cases hB : op = 2 ∨ op = 3 ∨ op = 4
   ·rw [if_pos hB]
    rcases hB with rfl | rfl | rfl <;> rfl
   ·have e : (if op = 2 then instr_of.j1 9 op true else if op = 3 then instr_of.j1 9 op true else instr_of.j1 9 op (op == 4)) = instr_of.j1 9 op false := by
     rw [if_neg (by omega), if_neg (by omega), show (op == 4) = false by rw [beq_eq_false_iff_ne]; omega]
    rw [e, if_neg hB, instr_of.j1, if_neg (by decide)]
    by_cases hC : op = 12 ∨ op = 13 ∨ op = 16 ∨ (32 ≤ op ∧ op ≤ 36)
    ·rw [if_pos hC]
     by_cases c1 : op = 12
     ·rw [if_pos c1]; rfl
     by_cases c2 : op = 13
     ·rw [if_neg c1, if_pos c2]; rfl
     by_cases c3 : op = 16
     ·rw [if_neg c1, if_neg c2, if_pos c3]; rfl
     rw [if_neg c1, if_neg c2, if_neg c3, if_pos (by omega), decide_eq_true (by omega)]
     rfl
    ·have e : (if op = 12 then instr_of.j2 8 op true else if op = 13 then instr_of.j2 8 op true else if op = 16 then instr_of.j2 8 op true else if op ≥ 32 then instr_of.j2 8 op (decide (op ≤ 36)) else instr_of.j2 8 op false) = instr_of.j2 8 op false := by
      rw [if_neg (by omega), if_neg (by omega), if_neg (by omega)]
      split
      ·rw [decide_eq_false (by omega)]
      ·rfl
     rw [e, if_neg hC, instr_of.j2, if_neg (by decide)]
     by_cases c4 : op = 14
     ·rw [if_pos c4, if_pos c4]
     rw [if_neg c4, if_neg c4]
     by_cases c5 : op = 17
     ·rw [if_pos c5, if_pos c5]
     rw [if_neg c5, if_neg c5]
     by_cases c6 : 40 ≤ op ∧ op ≤ 62
     ·rw [if_pos (by omega), if_pos c6, decide_eq_true c6.2]; rfl
     have e : (if op ≥ 40 then instr_of.j3 7 op (decide (op ≤ 62)) else instr_of.j3 7 op false) = instr_of.j3 7 op false := by
      split
      ·rw [decide_eq_false (by omega)]
      ·rfl
     rw [e, if_neg c6, instr_of.j3, if_neg (by decide)]
     by_cases c7 : op = 63
     ·rw [if_pos c7, if_pos (Or.inl c7)]; rfl
     rw [if_neg c7]
     by_cases c8 : op = 64
     ·rw [if_pos (Or.inr c8), c8]; rfl
     rw [show (op == 64) = false by rw [beq_eq_false_iff_ne]; exact c8, if_neg (by omega), instr_of.j4, if_neg (by decide)]
     by_cases c9 : op = 65
     ·rw [if_pos c9, if_pos (Or.inl c9)]; rfl
     rw [if_neg c9]
     by_cases c10 : op = 66
     ·rw [if_pos (Or.inr c10), c10]; rfl
     rw [show (op == 66) = false by rw [beq_eq_false_iff_ne]; exact c10, if_neg (by omega), instr_of.j5, if_neg (by decide)]
     by_cases c11 : op = 67
     ·rw [if_pos c11, if_pos (Or.inl c11)]
     rw [if_neg c11]
     by_cases c12 : op = 68
     ·rw [if_pos c12, if_pos (Or.inr c12)]
     rw [if_neg c12, if_neg (by omega)]
theorem of_c (op : Int) (w : World) : Calls Tryd.prog 75 #[.int .i64 op] w fun e w' => e = .returned (.int .i64 (ofF op)) ∧ Drawn0 w w' := instr_of.calls 10 op _ w (of_ev op)
theorem type_ev (x : Int) : instr_Type.f x = some (typeB x) := by
 unfold instr_Type.f typeB
 split
 ·simp [*]
 ·split
  ·rw [Option.some.injEq]
   exact decide_eq_decide.2 (by omega)
  ·rw [Option.some.injEq]
   exact (decide_eq_false (by omega)).symm
theorem type_c (x : Int) (w : World) : Calls Tryd.prog 71 #[.int .i64 x] w fun e w' => e = .returned (.bool (typeB x)) ∧ Drawn0 w w' := instr_Type.calls x _ w (type_ev x)
theorem wide_ev (x : Int) : instr_wide.f x = some (wideB x) := by
 unfold instr_wide.f wideB
 split
 ·simp [*]
 ·rw [Option.some.injEq, Bool.eq_iff_iff]
  simp
  omega
theorem wide_c (x : Int) (w : World) : Calls Tryd.prog 82 #[.int .i64 x] w fun e w' => e = .returned (.bool (wideB x)) ∧ Drawn0 w w' := instr_wide.calls x _ w (wide_ev x)
end Go.Proofs.YtkdoijfjceeblaaDoor.EInstr
namespace Go.Proofs.YtkdoijfjceeblaaDoor.EInstr
open Go Go.RowKit Go.Proofs.YtkdoijfjceeblaaDoor.F Go.Proofs.YtkdoijfjceeblaaDoorW.Hand Go.Proofs.YtkdoijfjceeblaaDoorW.PrintWords Go.Proofs.YtkdoijfjceeblaaDoorW.PrintLast Go.Proofs.YtkdoijfjceeblaaDoorW.PrintMore
open Go.Proofs.YtkdoijfjceeblaaDoor.LebGets (G get_ev)
open Go.Proofs.YtkdoijfjceeblaaDoor.LebGetS (GS gets_ev)
set_option linter.unusedVariables false
set_option linter.unusedSimpArgs false
def pan (c : Int) : Value := .iface 129 (.agg #[.int .i64 c])
def RdAt (g : Nat) (s : ByteArray) (a m : Int) (W : World) : Prop := W.heap[g]? = some (.cells #[.string s, .int .i64 a, .int .i64 m] 133 (0, 0))
def Thrown (c : Int) (W : World) (S : Nat → Prop) (e : Ending) (w' : World) : Prop := e = .panicked [{ v := pan c, recovered := false }] ∧ Fr W w' S
theorem fr_drewN {w w' : World} {S : Nat → Prop} (h : Fr w w' S) (n : Nat) : Fr w (w'.drewN n) S := h.below (pw_below_drewN (Below.refl _ _) n)
theorem fr_set {w w' : World} {g j : Nat} (h : Fr w w' (fun k => k = g)) (v : Value) : Fr w (w'.setCell ⟨g, j, none⟩ v) (fun k => k = g) :=
 h.then_ (S2 := fun k => k = g) (Fr.stored (g := g) (fun B wb hB hb => hb.setCell (p := ⟨g, j, none⟩) hB v) (fun k hk => Below.heap_setCell w' ⟨g, j, none⟩ v k hk) (by simp [World.setCell]) rfl) (fun k hk => .inl hk)
theorem rdAt_drewN {g : Nat} {s : ByteArray} {a m : Int} {W : World} (h : RdAt g s a m W) (n : Nat) : RdAt g s a m (W.drewN n) := h
theorem rdAt_set1 {g : Nat} {s : ByteArray} {a m : Int} {W : World} (h : RdAt g s a m W) (b : Int) : RdAt g s b m (W.setCell ⟨g, 1, none⟩ (.int .i64 b)) := blk_set h 1 (.int .i64 b)
theorem bad_c (c : Int) (w : World) : Calls Tryd.prog 76 #[.int .i64 c] w fun e w' => e = .panicked [{ v := pan c, recovered := false }] ∧ w = w' := by
 go_enter Tryd.func76, Tryd.ntmps76
 go_wp2
 exact ⟨rfl, rfl, rfl⟩
theorem ret_int {a b : Int} (h : a = b) : Ending.returned (.int .i64 a) = Ending.returned (.int .i64 b) := by rw [h]
theorem wrap_bt (s : ByteArray) (a : Int) : wrap64 (bt s a) = bt s a := by
 have := bt_range s a
 unfold wrap64
 omega
theorem byte_cut {g : Nat} {s : ByteArray} {a m : Int} {W : World} (h : RdAt g s a m W) (hc : ¬ a < s.size) : Calls Tryd.prog 74 #[.pointer (some ⟨g, 0, none⟩)] W (Thrown 1401 W (fun k => k = g)) := by
 have c0 : W.cell? ⟨g, 0, none⟩ = some (.string s) := blk_cell h 0
 have c1 : W.cell? ⟨g, 1, none⟩ = some (.int .i64 a) := blk_cell h 1
 have d0 : decide (a ≥ (s.size : Int)) = true := decide_eq_true (by omega)
 have d1 : decide ((s.size : Int) ≤ a) = true := decide_eq_true (by omega)
 go_enter Tryd.func74, Tryd.ntmps74
 go_wp2
 go_quiet (fail)
 go_wp2_with (go_at_call 76; (with_reducible refine (bad_c _ _).mono ?_); rintro e w' ⟨rfl, rfl⟩)
 exact ⟨rfl, rfl, fr_drewN (Fr.refl _ _) _⟩
theorem byte_ok {g : Nat} {s : ByteArray} {a m : Int} {W : World} (h : RdAt g s a m W) (h0 : 0 ≤ a) (hc : a < s.size) (hs : s.size ≤ 140737488355328) : Calls Tryd.prog 74 #[.pointer (some ⟨g, 0, none⟩)] W fun e w' => e = .returned (.int .i64 (bt s a)) ∧ RdAt g s (a + 1) m w' ∧ Fr W w' (fun k => k = g) := by
 have c0 : W.cell? ⟨g, 0, none⟩ = some (.string s) := blk_cell h 0
 have c1 : W.cell? ⟨g, 1, none⟩ = some (.int .i64 a) := blk_cell h 1
 have d0 : decide (a ≥ (s.size : Int)) = false := decide_eq_false (by omega)
 have d1 : decide ((s.size : Int) ≤ a) = false := decide_eq_false (by omega)
 have H := am h
 have l1 : a.toNat < s.size := by omega
 have B1 := bt_at s a l1
 have f1 : W.frozen? ⟨g, 1, none⟩ = false := blk_frozen h _
 have w1 : wrap64 (a + 1) = a + 1 := by unfold wrap64; omega
 clear h
 go_enter Tryd.func74, Tryd.ntmps74
 go_wp2
 go_quiet (fail)
 go_wp2
 have w2 : wrap64 (a + 1 - 1) = a := by unfold wrap64; omega
 have w3 : IntKind.i64.wrap (a + 1 - 1) = a := by rw [IntKind.wrap_i64]; omega
 have HR := am (rdAt_set1 (rdAt_drewN H.out nq) (a + 1))
 have c2 : ((W.drewN nq).setCell ⟨g, 1, none⟩ (.int .i64 (a + 1))).cell? ⟨g, 0, none⟩ = some (.string s) := blk_cell HR.out 0
 have c3 : ((W.drewN nq).setCell ⟨g, 1, none⟩ (.int .i64 (a + 1))).cell? ⟨g, 1, none⟩ = some (.int .i64 (a + 1)) := blk_cell HR.out 1
 go_quiet (fail)
 go_wp2
 go_ret
 exact ⟨ret_int (wrap_bt s a), rdAt_drewN HR.out _, fr_drewN (fr_set (fr_drewN (Fr.refl _ _) _) _) _⟩
def pByte (s : ByteArray) (a : Int) : Except Int (Int × Int) := if a < s.size then .ok (bt s a, a + 1) else .error 1401
def pNum (r : Int × Int × Int) : Except Int (Int × Int) := if r.2.2 = 0 then .ok (r.1, r.2.1) else if r.2.2 = 1201 then .error 1401 else .error 1400
def pNought (s : ByteArray) (a : Int) : Except Int Int := match pByte s a with
 | .ok (b, a1) => if b = 0 then .ok a1 else .error 1400
 | .error c => .error c
theorem pByte_ok {s : ByteArray} {a x a1 : Int} (h : pByte s a = .ok (x, a1)) : a < s.size ∧ x = bt s a ∧ a1 = a + 1 := by
 unfold pByte at h
 split at h
 ·cases h
  exact ⟨‹_›, rfl, rfl⟩
 ·cases h
def NumPost (g : Nat) (s : ByteArray) (m : Int) (W : World) (r : Except Int (Int × Int)) (e : Ending) (w' : World) : Prop := match r with
 | .ok (x, a1) => e = .returned (.int .i64 x) ∧ RdAt g s a1 m w' ∧ Fr W w' (fun k => k = g)
 | .error c => Thrown c W (fun k => k = g) e w'
theorem get_c {s : ByteArray} {a b x y z : Int} (hz : s.size ≤ 140737488355328) (h : G s a b = (x, y, z)) (w : World) : Calls Tryd.prog 34 #[.string s, .int .i64 a, .int .i64 b] w fun e w' => e = .returned (.tuple #[.int .i64 x, .int .i64 y, .int .i64 z]) ∧ Drawn0 w w' := by
 obtain ⟨k, hk⟩ := (get_ev s a b hz).rounds
 rw [h] at hk
 exact leb_Get.calls k s a b x y z w hk
theorem get_b {s : ByteArray} {a b x y z : Int} (hz : s.size ≤ 140737488355328) (h : G s a b = (x, y, z)) (w : World) : Calls Tryd.prog 34 #[.string s, .int .i64 a, .int .i64 b] w fun e w' => e = .returned (.tuple #[.int .i64 x, .int .i64 y, .int .i64 z]) ∧ Below w.heap.size w w' := (get_c hz h w).mono fun _ _ hh => ⟨hh.1, hh.2.below⟩
set_option maxHeartbeats 1000000 in
theorem get_number {g : Nat} {s : ByteArray} {a m wd : Int} {W : World} (h : RdAt g s a m W) (hs : s.size ≤ 140737488355328) : Calls Tryd.prog 83 #[.pointer (some ⟨g, 0, none⟩), .func (.func 34) #[] #[], .int .i64 wd] W (NumPost g s m W (pNum (G s a wd))) := by
 have c0 : W.cell? ⟨g, 0, none⟩ = some (.string s) := blk_cell h 0
 have c1 : W.cell? ⟨g, 1, none⟩ = some (.int .i64 a) := blk_cell h 1
 have H := am h
 obtain ⟨x, y, z, hx⟩ : ∃ x y z, G s a wd = (x, y, z) := ⟨_, _, _, rfl⟩
 have HX := am hx
 rw [hx]
 clear h hx
 unfold pNum
 simp only
 by_cases h0 : z = 0
 ·subst h0
  rw [if_pos rfl]
  go_enter Tryd.func83, Tryd.ntmps83
  go_wp2
  refine start_ (n := 18) (S := fun w' => RdAt g s a m w' ∧ Fr W w' (fun k => k = g) ∧ w'.cell? ⟨g, 0, none⟩ = some (.string s) ∧ w'.cell? ⟨g, 1, none⟩ = some (.int .i64 a)) (ds := []) #[false, false, false, false, false, false, false, false, false, false, false, false, false, false, false, false, false, false] (by kernel_rfl) rfl rfl ⟨H.out, Fr.refl_drew _ _, c0, c1⟩ (fun hHeld => ?_)
  refine pu (i := 0) (N := some 11) (v := ?_) (a' := ?_) rfl rfl (by kernel_rfl) (fun _ _ _ h => h) (.inl ⟨by rfl, ?_⟩) ?_ ?_; rotate_left
  ·intro w'; go_simp; with_reducible rfl
  rotate_left; · simp only [Act.put, List.setIfInBounds_toArray, List.set_cons_zero, List.set_cons_succ, i64_w, i32_w]; rfl
  refine pu (i := 1) (N := some 12) (v := ?_) (a' := ?_) rfl rfl (by kernel_rfl) (fun _ _ _ h => h) (.inl ⟨by rfl, ?_⟩) ?_ ?_; rotate_left
  ·intro w'; go_simp; with_reducible rfl
  rotate_left; · simp only [Act.put, List.setIfInBounds_toArray, List.set_cons_zero, List.set_cons_succ, i64_w, i32_w]; rfl
  refine pu (i := 2) (N := some 13) (v := ?_) (a' := ?_) rfl rfl (by kernel_rfl) (fun _ _ _ h => h) (.inl ⟨by rfl, ?_⟩) ?_ ?_; rotate_left
  ·intro w'; go_simp; with_reducible rfl
  rotate_left; · simp only [Act.put, List.setIfInBounds_toArray, List.set_cons_zero, List.set_cons_succ, i64_w, i32_w]; rfl
  refine pu (i := 3) (N := some 14) (v := ?_) (a' := ?_) rfl rfl (by kernel_rfl) (fun _ _ _ h => h) (.inl ⟨by rfl, ?_⟩) ?_ ?_; rotate_left
  ·intro w'; go_simp; with_reducible rfl
  rotate_left; · simp only [Act.put, List.setIfInBounds_toArray, List.set_cons_zero, List.set_cons_succ, i64_w, i32_w]; rfl
  refine pu (i := 5) (N := some 16) (v := ?_) (a' := ?_) rfl rfl (by kernel_rfl) (fun _ _ _ h => h) (.inl ⟨by rfl, ?_⟩) ?_ ?_; rotate_left
  ·intro w'; go_simp; with_reducible rfl
  rotate_left; · simp only [Act.put, List.setIfInBounds_toArray, List.set_cons_zero, List.set_cons_succ, i64_w, i32_w]; rfl
  refine pu (i := 6) (N := some 17) (v := ?_) (a' := ?_) rfl rfl (by kernel_rfl) (fun _ _ _ h => h) (.inl ⟨by rfl, ?_⟩) ?_ ?_; rotate_left
  ·intro w'; go_simp; with_reducible rfl
  rotate_left; · simp only [Act.put, List.setIfInBounds_toArray, List.set_cons_zero, List.set_cons_succ, i64_w, i32_w]; rfl
  refine pu (i := 7) (N := some 18) (v := ?_) (a' := ?_) rfl rfl (by kernel_rfl) (fun _ _ _ h => h) (.inl ⟨by rfl, ?_⟩) ?_ ?_; rotate_left
  ·intro w'; go_simp; with_reducible rfl
  rotate_left; · simp only [Act.put, List.setIfInBounds_toArray, List.set_cons_zero, List.set_cons_succ, i64_w, i32_w]; rfl
  refine pu (i := 9) (N := some 20) (v := ?_) (a' := ?_) rfl rfl (by kernel_rfl) (fun _ _ _ h => h) (.inl ⟨by rfl, ?_⟩) ?_ ?_; rotate_left
  ·intro w'; go_simp; with_reducible rfl
  rotate_left; · simp only [Act.put, List.setIfInBounds_toArray, List.set_cons_zero, List.set_cons_succ, i64_w, i32_w]; rfl
  refine tu (i := 4) (N := some 15) (v := ?_) (a' := ?_) rfl rfl (by kernel_rfl) (fun _ _ _ h => h) (.inl ⟨by rfl, ?_⟩) hHeld ?_ ?_; rotate_left
  ·rintro w' ⟨s0, s1, s2, s3⟩; go_simp; with_reducible rfl
  rotate_left; · simp only [Act.put, List.setIfInBounds_toArray, List.set_cons_zero, List.set_cons_succ, i64_w, i32_w]; rfl
  refine tu (i := 8) (N := some 19) (v := ?_) (a' := ?_) rfl rfl (by kernel_rfl) (fun _ _ _ h => h) (.inl ⟨by rfl, ?_⟩) hHeld ?_ ?_; rotate_left
  ·rintro w' ⟨s0, s1, s2, s3⟩; go_simp; with_reducible rfl
  rotate_left; · simp only [Act.put, List.setIfInBounds_toArray, List.set_cons_zero, List.set_cons_succ, i64_w, i32_w]; rfl
  refine one_ (i := 10) (N := some 21) #[true, true, true, true, true, true, true, true, true, true, true, false, false, false, false, false, false, false] rfl rfl (by kernel_rfl) (by decide) (fun K hK => ?_)
  obtain ⟨r0, r1, c0, c1⟩ := hHeld
  refine goesV_ Tryd.func34 (by kernel_rfl) rfl #[.string s, .int .i64 a, .int .i64 wd] (by rfl) rfl rfl rfl (by simp only [List.map_toArray, List.map_cons, List.map_nil]; rfl) ?_
  with_reducible refine (get_b hs HX.out _).mono ?_
  rintro e w3 ⟨rfl, hb3⟩
  refine ⟨_, rfl, ?_⟩
  have q0 : RdAt g s a m w3 := blk_below r0 hb3
  have q1 := r1.below hb3
  have c4 : w3.cell? ⟨g, 0, none⟩ = some (.string s) := blk_cell q0 0
  have c5 : w3.cell? ⟨g, 1, none⟩ = some (.int .i64 a) := blk_cell q0 1
  have f1 : w3.frozen? ⟨g, 1, none⟩ = false := blk_frozen q0 _
  have Q0 := am q0
  have Q1 := am q1
  clear q0 q1 hb3 r0 r1
  refine hK.out _ _ ⟨Q0.out, Q1.out, c4, c5⟩ (fun hHeld => ?_)
  clear hK K
  refine norm_ (a' := ?_) ?_ ?_
  rotate_left
  ·show Act.put _ (some 21) _ = _
   simp only [Act.put, List.setIfInBounds_toArray, List.set_cons_zero, List.set_cons_succ, i64_w, i32_w]
   rfl
  refine pu (i := 11) (N := some 10) (v := ?_) (a' := ?_) rfl rfl (by kernel_rfl) (fun _ _ _ h => h) (.inl ⟨by rfl, ?_⟩) ?_ ?_; rotate_left
  ·intro w'; go_simp; with_reducible rfl
  rotate_left; · simp only [Act.put, List.setIfInBounds_toArray, List.set_cons_zero, List.set_cons_succ, i64_w, i32_w]; rfl
  refine pu (i := 12) (N := some 22) (v := ?_) (a' := ?_) rfl rfl (by kernel_rfl) (fun _ _ _ h => h) (.inl ⟨by rfl, ?_⟩) ?_ ?_; rotate_left
  ·intro w'; go_simp; with_reducible rfl
  rotate_left; · simp only [Act.put, List.setIfInBounds_toArray, List.set_cons_zero, List.set_cons_succ, i64_w, i32_w]; rfl
  refine pu (i := 13) (N := some 23) (v := ?_) (a' := ?_) rfl rfl (by kernel_rfl) (fun _ _ _ h => h) (.inl ⟨by rfl, ?_⟩) ?_ ?_; rotate_left
  ·intro w'; go_simp; with_reducible rfl
  rotate_left; · simp only [Act.put, List.setIfInBounds_toArray, List.set_cons_zero, List.set_cons_succ, i64_w, i32_w]; rfl
  refine pu (i := 14) (N := some 24) (v := ?_) (a' := ?_) rfl rfl (by kernel_rfl) (fun _ _ _ h => h) (.inl ⟨by rfl, ?_⟩) ?_ ?_; rotate_left
  ·intro w'; go_simp; with_reducible rfl
  rotate_left; · simp only [Act.put, List.setIfInBounds_toArray, List.set_cons_zero, List.set_cons_succ, i64_w, i32_w]; rfl
  refine pu (i := 15) (N := some 7) (v := ?_) (a' := ?_) rfl rfl (by kernel_rfl) (fun _ _ _ h => h) (.inl ⟨by rfl, ?_⟩) ?_ ?_; rotate_left
  ·intro w'; go_simp; with_reducible rfl
  rotate_left; · simp only [Act.put, List.setIfInBounds_toArray, List.set_cons_zero, List.set_cons_succ, i64_w, i32_w]; rfl
  refine pu (i := 16) (N := some 8) (v := ?_) (a' := ?_) rfl rfl (by kernel_rfl) (fun _ _ _ h => h) (.inl ⟨by rfl, ?_⟩) ?_ ?_; rotate_left
  ·intro w'; go_simp; with_reducible rfl
  rotate_left; · simp only [Act.put, List.setIfInBounds_toArray, List.set_cons_zero, List.set_cons_succ, i64_w, i32_w]; rfl
  refine pu (i := 17) (N := some 9) (v := ?_) (a' := ?_) rfl rfl (by kernel_rfl) (fun _ _ _ h => h) (.inl ⟨by rfl, ?_⟩) ?_ ?_; rotate_left
  ·intro w'; go_simp; with_reducible rfl
  rotate_left; · simp only [Act.put, List.setIfInBounds_toArray, List.set_cons_zero, List.set_cons_succ, i64_w, i32_w]; rfl
  refine done_ (by kernel_rfl) ?_
  go_wp2
  go_ret
  exact ⟨rfl, rdAt_set1 Q0.out y, fr_set Q1.out _⟩
 ·have e0 : (z == 0) = false := beq_eq_false_iff_ne.2 h0
  rw [if_neg h0]
  by_cases h1 : z = 1201
  ·subst h1
   rw [if_pos rfl]
   clear h0
   go_enter Tryd.func83, Tryd.ntmps83
   go_wp2
   refine start_ (n := 18) (S := fun w' => RdAt g s a m w' ∧ Fr W w' (fun k => k = g) ∧ w'.cell? ⟨g, 0, none⟩ = some (.string s) ∧ w'.cell? ⟨g, 1, none⟩ = some (.int .i64 a)) (ds := []) #[false, false, false, false, false, false, false, false, false, false, false, false, false, false, false, false, false, false] (by kernel_rfl) rfl rfl ⟨H.out, Fr.refl_drew _ _, c0, c1⟩ (fun hHeld => ?_)
   refine pu (i := 0) (N := some 11) (v := ?_) (a' := ?_) rfl rfl (by kernel_rfl) (fun _ _ _ h => h) (.inl ⟨by rfl, ?_⟩) ?_ ?_; rotate_left
   ·intro w'; go_simp; with_reducible rfl
   rotate_left; · simp only [Act.put, List.setIfInBounds_toArray, List.set_cons_zero, List.set_cons_succ, i64_w, i32_w]; rfl
   refine pu (i := 1) (N := some 12) (v := ?_) (a' := ?_) rfl rfl (by kernel_rfl) (fun _ _ _ h => h) (.inl ⟨by rfl, ?_⟩) ?_ ?_; rotate_left
   ·intro w'; go_simp; with_reducible rfl
   rotate_left; · simp only [Act.put, List.setIfInBounds_toArray, List.set_cons_zero, List.set_cons_succ, i64_w, i32_w]; rfl
   refine pu (i := 2) (N := some 13) (v := ?_) (a' := ?_) rfl rfl (by kernel_rfl) (fun _ _ _ h => h) (.inl ⟨by rfl, ?_⟩) ?_ ?_; rotate_left
   ·intro w'; go_simp; with_reducible rfl
   rotate_left; · simp only [Act.put, List.setIfInBounds_toArray, List.set_cons_zero, List.set_cons_succ, i64_w, i32_w]; rfl
   refine pu (i := 3) (N := some 14) (v := ?_) (a' := ?_) rfl rfl (by kernel_rfl) (fun _ _ _ h => h) (.inl ⟨by rfl, ?_⟩) ?_ ?_; rotate_left
   ·intro w'; go_simp; with_reducible rfl
   rotate_left; · simp only [Act.put, List.setIfInBounds_toArray, List.set_cons_zero, List.set_cons_succ, i64_w, i32_w]; rfl
   refine pu (i := 5) (N := some 16) (v := ?_) (a' := ?_) rfl rfl (by kernel_rfl) (fun _ _ _ h => h) (.inl ⟨by rfl, ?_⟩) ?_ ?_; rotate_left
   ·intro w'; go_simp; with_reducible rfl
   rotate_left; · simp only [Act.put, List.setIfInBounds_toArray, List.set_cons_zero, List.set_cons_succ, i64_w, i32_w]; rfl
   refine pu (i := 6) (N := some 17) (v := ?_) (a' := ?_) rfl rfl (by kernel_rfl) (fun _ _ _ h => h) (.inl ⟨by rfl, ?_⟩) ?_ ?_; rotate_left
   ·intro w'; go_simp; with_reducible rfl
   rotate_left; · simp only [Act.put, List.setIfInBounds_toArray, List.set_cons_zero, List.set_cons_succ, i64_w, i32_w]; rfl
   refine pu (i := 7) (N := some 18) (v := ?_) (a' := ?_) rfl rfl (by kernel_rfl) (fun _ _ _ h => h) (.inl ⟨by rfl, ?_⟩) ?_ ?_; rotate_left
   ·intro w'; go_simp; with_reducible rfl
   rotate_left; · simp only [Act.put, List.setIfInBounds_toArray, List.set_cons_zero, List.set_cons_succ, i64_w, i32_w]; rfl
   refine pu (i := 9) (N := some 20) (v := ?_) (a' := ?_) rfl rfl (by kernel_rfl) (fun _ _ _ h => h) (.inl ⟨by rfl, ?_⟩) ?_ ?_; rotate_left
   ·intro w'; go_simp; with_reducible rfl
   rotate_left; · simp only [Act.put, List.setIfInBounds_toArray, List.set_cons_zero, List.set_cons_succ, i64_w, i32_w]; rfl
   refine tu (i := 4) (N := some 15) (v := ?_) (a' := ?_) rfl rfl (by kernel_rfl) (fun _ _ _ h => h) (.inl ⟨by rfl, ?_⟩) hHeld ?_ ?_; rotate_left
   ·rintro w' ⟨s0, s1, s2, s3⟩; go_simp; with_reducible rfl
   rotate_left; · simp only [Act.put, List.setIfInBounds_toArray, List.set_cons_zero, List.set_cons_succ, i64_w, i32_w]; rfl
   refine tu (i := 8) (N := some 19) (v := ?_) (a' := ?_) rfl rfl (by kernel_rfl) (fun _ _ _ h => h) (.inl ⟨by rfl, ?_⟩) hHeld ?_ ?_; rotate_left
   ·rintro w' ⟨s0, s1, s2, s3⟩; go_simp; with_reducible rfl
   rotate_left; · simp only [Act.put, List.setIfInBounds_toArray, List.set_cons_zero, List.set_cons_succ, i64_w, i32_w]; rfl
   refine one_ (i := 10) (N := some 21) #[true, true, true, true, true, true, true, true, true, true, true, false, false, false, false, false, false, false] rfl rfl (by kernel_rfl) (by decide) (fun K hK => ?_)
   obtain ⟨r0, r1, c0, c1⟩ := hHeld
   refine goesV_ Tryd.func34 (by kernel_rfl) rfl #[.string s, .int .i64 a, .int .i64 wd] (by rfl) rfl rfl rfl (by simp only [List.map_toArray, List.map_cons, List.map_nil]; rfl) ?_
   with_reducible refine (get_b hs HX.out _).mono ?_
   rintro e w3 ⟨rfl, hb3⟩
   refine ⟨_, rfl, ?_⟩
   have q0 : RdAt g s a m w3 := blk_below r0 hb3
   have q1 := r1.below hb3
   have c4 : w3.cell? ⟨g, 0, none⟩ = some (.string s) := blk_cell q0 0
   have c5 : w3.cell? ⟨g, 1, none⟩ = some (.int .i64 a) := blk_cell q0 1
   have f1 : w3.frozen? ⟨g, 1, none⟩ = false := blk_frozen q0 _
   have Q0 := am q0
   have Q1 := am q1
   clear q0 q1 hb3 r0 r1
   refine hK.out _ _ ⟨Q0.out, Q1.out, c4, c5⟩ (fun hHeld => ?_)
   clear hK K
   refine norm_ (a' := ?_) ?_ ?_
   rotate_left
   ·show Act.put _ (some 21) _ = _
    simp only [Act.put, List.setIfInBounds_toArray, List.set_cons_zero, List.set_cons_succ, i64_w, i32_w]
    rfl
   refine pu (i := 11) (N := some 10) (v := ?_) (a' := ?_) rfl rfl (by kernel_rfl) (fun _ _ _ h => h) (.inl ⟨by rfl, ?_⟩) ?_ ?_; rotate_left
   ·intro w'; go_simp; with_reducible rfl
   rotate_left; · simp only [Act.put, List.setIfInBounds_toArray, List.set_cons_zero, List.set_cons_succ, i64_w, i32_w]; rfl
   refine pu (i := 12) (N := some 22) (v := ?_) (a' := ?_) rfl rfl (by kernel_rfl) (fun _ _ _ h => h) (.inl ⟨by rfl, ?_⟩) ?_ ?_; rotate_left
   ·intro w'; go_simp; with_reducible rfl
   rotate_left; · simp only [Act.put, List.setIfInBounds_toArray, List.set_cons_zero, List.set_cons_succ, i64_w, i32_w]; rfl
   refine pu (i := 13) (N := some 23) (v := ?_) (a' := ?_) rfl rfl (by kernel_rfl) (fun _ _ _ h => h) (.inl ⟨by rfl, ?_⟩) ?_ ?_; rotate_left
   ·intro w'; go_simp; with_reducible rfl
   rotate_left; · simp only [Act.put, List.setIfInBounds_toArray, List.set_cons_zero, List.set_cons_succ, i64_w, i32_w]; rfl
   refine pu (i := 14) (N := some 24) (v := ?_) (a' := ?_) rfl rfl (by kernel_rfl) (fun _ _ _ h => h) (.inl ⟨by rfl, ?_⟩) ?_ ?_; rotate_left
   ·intro w'; go_simp; with_reducible rfl
   rotate_left; · simp only [Act.put, List.setIfInBounds_toArray, List.set_cons_zero, List.set_cons_succ, i64_w, i32_w]; rfl
   refine pu (i := 15) (N := some 7) (v := ?_) (a' := ?_) rfl rfl (by kernel_rfl) (fun _ _ _ h => h) (.inl ⟨by rfl, ?_⟩) ?_ ?_; rotate_left
   ·intro w'; go_simp; with_reducible rfl
   rotate_left; · simp only [Act.put, List.setIfInBounds_toArray, List.set_cons_zero, List.set_cons_succ, i64_w, i32_w]; rfl
   refine pu (i := 16) (N := some 8) (v := ?_) (a' := ?_) rfl rfl (by kernel_rfl) (fun _ _ _ h => h) (.inl ⟨by rfl, ?_⟩) ?_ ?_; rotate_left
   ·intro w'; go_simp; with_reducible rfl
   rotate_left; · simp only [Act.put, List.setIfInBounds_toArray, List.set_cons_zero, List.set_cons_succ, i64_w, i32_w]; rfl
   refine pu (i := 17) (N := some 9) (v := ?_) (a' := ?_) rfl rfl (by kernel_rfl) (fun _ _ _ h => h) (.inl ⟨by rfl, ?_⟩) ?_ ?_; rotate_left
   ·intro w'; go_simp; with_reducible rfl
   rotate_left; · simp only [Act.put, List.setIfInBounds_toArray, List.set_cons_zero, List.set_cons_succ, i64_w, i32_w]; rfl
   refine done_ (by kernel_rfl) ?_
   go_wp2_with (go_at_call 76; (with_reducible refine (bad_c _ _).mono ?_); rintro e w' ⟨rfl, rfl⟩)
   exact ⟨rfl, rfl, Q1.out⟩
  ·have e1 : (z == 1201) = false := beq_eq_false_iff_ne.2 h1
   rw [if_neg h1]
   clear h0 h1
   go_enter Tryd.func83, Tryd.ntmps83
   go_wp2
   refine start_ (n := 18) (S := fun w' => RdAt g s a m w' ∧ Fr W w' (fun k => k = g) ∧ w'.cell? ⟨g, 0, none⟩ = some (.string s) ∧ w'.cell? ⟨g, 1, none⟩ = some (.int .i64 a)) (ds := []) #[false, false, false, false, false, false, false, false, false, false, false, false, false, false, false, false, false, false] (by kernel_rfl) rfl rfl ⟨H.out, Fr.refl_drew _ _, c0, c1⟩ (fun hHeld => ?_)
   refine pu (i := 0) (N := some 11) (v := ?_) (a' := ?_) rfl rfl (by kernel_rfl) (fun _ _ _ h => h) (.inl ⟨by rfl, ?_⟩) ?_ ?_; rotate_left
   ·intro w'; go_simp; with_reducible rfl
   rotate_left; · simp only [Act.put, List.setIfInBounds_toArray, List.set_cons_zero, List.set_cons_succ, i64_w, i32_w]; rfl
   refine pu (i := 1) (N := some 12) (v := ?_) (a' := ?_) rfl rfl (by kernel_rfl) (fun _ _ _ h => h) (.inl ⟨by rfl, ?_⟩) ?_ ?_; rotate_left
   ·intro w'; go_simp; with_reducible rfl
   rotate_left; · simp only [Act.put, List.setIfInBounds_toArray, List.set_cons_zero, List.set_cons_succ, i64_w, i32_w]; rfl
   refine pu (i := 2) (N := some 13) (v := ?_) (a' := ?_) rfl rfl (by kernel_rfl) (fun _ _ _ h => h) (.inl ⟨by rfl, ?_⟩) ?_ ?_; rotate_left
   ·intro w'; go_simp; with_reducible rfl
   rotate_left; · simp only [Act.put, List.setIfInBounds_toArray, List.set_cons_zero, List.set_cons_succ, i64_w, i32_w]; rfl
   refine pu (i := 3) (N := some 14) (v := ?_) (a' := ?_) rfl rfl (by kernel_rfl) (fun _ _ _ h => h) (.inl ⟨by rfl, ?_⟩) ?_ ?_; rotate_left
   ·intro w'; go_simp; with_reducible rfl
   rotate_left; · simp only [Act.put, List.setIfInBounds_toArray, List.set_cons_zero, List.set_cons_succ, i64_w, i32_w]; rfl
   refine pu (i := 5) (N := some 16) (v := ?_) (a' := ?_) rfl rfl (by kernel_rfl) (fun _ _ _ h => h) (.inl ⟨by rfl, ?_⟩) ?_ ?_; rotate_left
   ·intro w'; go_simp; with_reducible rfl
   rotate_left; · simp only [Act.put, List.setIfInBounds_toArray, List.set_cons_zero, List.set_cons_succ, i64_w, i32_w]; rfl
   refine pu (i := 6) (N := some 17) (v := ?_) (a' := ?_) rfl rfl (by kernel_rfl) (fun _ _ _ h => h) (.inl ⟨by rfl, ?_⟩) ?_ ?_; rotate_left
   ·intro w'; go_simp; with_reducible rfl
   rotate_left; · simp only [Act.put, List.setIfInBounds_toArray, List.set_cons_zero, List.set_cons_succ, i64_w, i32_w]; rfl
   refine pu (i := 7) (N := some 18) (v := ?_) (a' := ?_) rfl rfl (by kernel_rfl) (fun _ _ _ h => h) (.inl ⟨by rfl, ?_⟩) ?_ ?_; rotate_left
   ·intro w'; go_simp; with_reducible rfl
   rotate_left; · simp only [Act.put, List.setIfInBounds_toArray, List.set_cons_zero, List.set_cons_succ, i64_w, i32_w]; rfl
   refine pu (i := 9) (N := some 20) (v := ?_) (a' := ?_) rfl rfl (by kernel_rfl) (fun _ _ _ h => h) (.inl ⟨by rfl, ?_⟩) ?_ ?_; rotate_left
   ·intro w'; go_simp; with_reducible rfl
   rotate_left; · simp only [Act.put, List.setIfInBounds_toArray, List.set_cons_zero, List.set_cons_succ, i64_w, i32_w]; rfl
   refine tu (i := 4) (N := some 15) (v := ?_) (a' := ?_) rfl rfl (by kernel_rfl) (fun _ _ _ h => h) (.inl ⟨by rfl, ?_⟩) hHeld ?_ ?_; rotate_left
   ·rintro w' ⟨s0, s1, s2, s3⟩; go_simp; with_reducible rfl
   rotate_left; · simp only [Act.put, List.setIfInBounds_toArray, List.set_cons_zero, List.set_cons_succ, i64_w, i32_w]; rfl
   refine tu (i := 8) (N := some 19) (v := ?_) (a' := ?_) rfl rfl (by kernel_rfl) (fun _ _ _ h => h) (.inl ⟨by rfl, ?_⟩) hHeld ?_ ?_; rotate_left
   ·rintro w' ⟨s0, s1, s2, s3⟩; go_simp; with_reducible rfl
   rotate_left; · simp only [Act.put, List.setIfInBounds_toArray, List.set_cons_zero, List.set_cons_succ, i64_w, i32_w]; rfl
   refine one_ (i := 10) (N := some 21) #[true, true, true, true, true, true, true, true, true, true, true, false, false, false, false, false, false, false] rfl rfl (by kernel_rfl) (by decide) (fun K hK => ?_)
   obtain ⟨r0, r1, c0, c1⟩ := hHeld
   refine goesV_ Tryd.func34 (by kernel_rfl) rfl #[.string s, .int .i64 a, .int .i64 wd] (by rfl) rfl rfl rfl (by simp only [List.map_toArray, List.map_cons, List.map_nil]; rfl) ?_
   with_reducible refine (get_b hs HX.out _).mono ?_
   rintro e w3 ⟨rfl, hb3⟩
   refine ⟨_, rfl, ?_⟩
   have q0 : RdAt g s a m w3 := blk_below r0 hb3
   have q1 := r1.below hb3
   have c4 : w3.cell? ⟨g, 0, none⟩ = some (.string s) := blk_cell q0 0
   have c5 : w3.cell? ⟨g, 1, none⟩ = some (.int .i64 a) := blk_cell q0 1
   have f1 : w3.frozen? ⟨g, 1, none⟩ = false := blk_frozen q0 _
   have Q0 := am q0
   have Q1 := am q1
   clear q0 q1 hb3 r0 r1
   refine hK.out _ _ ⟨Q0.out, Q1.out, c4, c5⟩ (fun hHeld => ?_)
   clear hK K
   refine norm_ (a' := ?_) ?_ ?_
   rotate_left
   ·show Act.put _ (some 21) _ = _
    simp only [Act.put, List.setIfInBounds_toArray, List.set_cons_zero, List.set_cons_succ, i64_w, i32_w]
    rfl
   refine pu (i := 11) (N := some 10) (v := ?_) (a' := ?_) rfl rfl (by kernel_rfl) (fun _ _ _ h => h) (.inl ⟨by rfl, ?_⟩) ?_ ?_; rotate_left
   ·intro w'; go_simp; with_reducible rfl
   rotate_left; · simp only [Act.put, List.setIfInBounds_toArray, List.set_cons_zero, List.set_cons_succ, i64_w, i32_w]; rfl
   refine pu (i := 12) (N := some 22) (v := ?_) (a' := ?_) rfl rfl (by kernel_rfl) (fun _ _ _ h => h) (.inl ⟨by rfl, ?_⟩) ?_ ?_; rotate_left
   ·intro w'; go_simp; with_reducible rfl
   rotate_left; · simp only [Act.put, List.setIfInBounds_toArray, List.set_cons_zero, List.set_cons_succ, i64_w, i32_w]; rfl
   refine pu (i := 13) (N := some 23) (v := ?_) (a' := ?_) rfl rfl (by kernel_rfl) (fun _ _ _ h => h) (.inl ⟨by rfl, ?_⟩) ?_ ?_; rotate_left
   ·intro w'; go_simp; with_reducible rfl
   rotate_left; · simp only [Act.put, List.setIfInBounds_toArray, List.set_cons_zero, List.set_cons_succ, i64_w, i32_w]; rfl
   refine pu (i := 14) (N := some 24) (v := ?_) (a' := ?_) rfl rfl (by kernel_rfl) (fun _ _ _ h => h) (.inl ⟨by rfl, ?_⟩) ?_ ?_; rotate_left
   ·intro w'; go_simp; with_reducible rfl
   rotate_left; · simp only [Act.put, List.setIfInBounds_toArray, List.set_cons_zero, List.set_cons_succ, i64_w, i32_w]; rfl
   refine pu (i := 15) (N := some 7) (v := ?_) (a' := ?_) rfl rfl (by kernel_rfl) (fun _ _ _ h => h) (.inl ⟨by rfl, ?_⟩) ?_ ?_; rotate_left
   ·intro w'; go_simp; with_reducible rfl
   rotate_left; · simp only [Act.put, List.setIfInBounds_toArray, List.set_cons_zero, List.set_cons_succ, i64_w, i32_w]; rfl
   refine pu (i := 16) (N := some 8) (v := ?_) (a' := ?_) rfl rfl (by kernel_rfl) (fun _ _ _ h => h) (.inl ⟨by rfl, ?_⟩) ?_ ?_; rotate_left
   ·intro w'; go_simp; with_reducible rfl
   rotate_left; · simp only [Act.put, List.setIfInBounds_toArray, List.set_cons_zero, List.set_cons_succ, i64_w, i32_w]; rfl
   refine pu (i := 17) (N := some 9) (v := ?_) (a' := ?_) rfl rfl (by kernel_rfl) (fun _ _ _ h => h) (.inl ⟨by rfl, ?_⟩) ?_ ?_; rotate_left
   ·intro w'; go_simp; with_reducible rfl
   rotate_left; · simp only [Act.put, List.setIfInBounds_toArray, List.set_cons_zero, List.set_cons_succ, i64_w, i32_w]; rfl
   refine done_ (by kernel_rfl) ?_
   go_wp2_with (go_at_call 76; (with_reducible refine (bad_c _ _).mono ?_); rintro e w' ⟨rfl, rfl⟩)
   exact ⟨rfl, rfl, Q1.out⟩
theorem gets_c {s : ByteArray} {a b x y z : Int} (hz : s.size ≤ 140737488355328) (h : GS s a b = (x, y, z)) (w : World) : Calls Tryd.prog 84 #[.string s, .int .i64 a, .int .i64 b] w fun e w' => e = .returned (.tuple #[.int .i64 x, .int .i64 y, .int .i64 z]) ∧ Drawn0 w w' := by
 obtain ⟨k, hk⟩ := (gets_ev s a b hz).rounds
 rw [h] at hk
 exact leb_GetSigned.calls k s a b x y z w hk
theorem gets_b {s : ByteArray} {a b x y z : Int} (hz : s.size ≤ 140737488355328) (h : GS s a b = (x, y, z)) (w : World) : Calls Tryd.prog 84 #[.string s, .int .i64 a, .int .i64 b] w fun e w' => e = .returned (.tuple #[.int .i64 x, .int .i64 y, .int .i64 z]) ∧ Below w.heap.size w w' := (gets_c hz h w).mono fun _ _ hh => ⟨hh.1, hh.2.below⟩
set_option maxHeartbeats 1000000 in
theorem gets_number {g : Nat} {s : ByteArray} {a m wd : Int} {W : World} (h : RdAt g s a m W) (hs : s.size ≤ 140737488355328) : Calls Tryd.prog 83 #[.pointer (some ⟨g, 0, none⟩), .func (.func 84) #[] #[], .int .i64 wd] W (NumPost g s m W (pNum (GS s a wd))) := by
 have c0 : W.cell? ⟨g, 0, none⟩ = some (.string s) := blk_cell h 0
 have c1 : W.cell? ⟨g, 1, none⟩ = some (.int .i64 a) := blk_cell h 1
 have H := am h
 obtain ⟨x, y, z, hx⟩ : ∃ x y z, GS s a wd = (x, y, z) := ⟨_, _, _, rfl⟩
 have HX := am hx
 rw [hx]
 clear h hx
 unfold pNum
 simp only
 by_cases h0 : z = 0
 ·subst h0
  rw [if_pos rfl]
  go_enter Tryd.func83, Tryd.ntmps83
  go_wp2
  refine start_ (n := 18) (S := fun w' => RdAt g s a m w' ∧ Fr W w' (fun k => k = g) ∧ w'.cell? ⟨g, 0, none⟩ = some (.string s) ∧ w'.cell? ⟨g, 1, none⟩ = some (.int .i64 a)) (ds := []) #[false, false, false, false, false, false, false, false, false, false, false, false, false, false, false, false, false, false] (by kernel_rfl) rfl rfl ⟨H.out, Fr.refl_drew _ _, c0, c1⟩ (fun hHeld => ?_)
  refine pu (i := 0) (N := some 11) (v := ?_) (a' := ?_) rfl rfl (by kernel_rfl) (fun _ _ _ h => h) (.inl ⟨by rfl, ?_⟩) ?_ ?_; rotate_left
  ·intro w'; go_simp; with_reducible rfl
  rotate_left; · simp only [Act.put, List.setIfInBounds_toArray, List.set_cons_zero, List.set_cons_succ, i64_w, i32_w]; rfl
  refine pu (i := 1) (N := some 12) (v := ?_) (a' := ?_) rfl rfl (by kernel_rfl) (fun _ _ _ h => h) (.inl ⟨by rfl, ?_⟩) ?_ ?_; rotate_left
  ·intro w'; go_simp; with_reducible rfl
  rotate_left; · simp only [Act.put, List.setIfInBounds_toArray, List.set_cons_zero, List.set_cons_succ, i64_w, i32_w]; rfl
  refine pu (i := 2) (N := some 13) (v := ?_) (a' := ?_) rfl rfl (by kernel_rfl) (fun _ _ _ h => h) (.inl ⟨by rfl, ?_⟩) ?_ ?_; rotate_left
  ·intro w'; go_simp; with_reducible rfl
  rotate_left; · simp only [Act.put, List.setIfInBounds_toArray, List.set_cons_zero, List.set_cons_succ, i64_w, i32_w]; rfl
  refine pu (i := 3) (N := some 14) (v := ?_) (a' := ?_) rfl rfl (by kernel_rfl) (fun _ _ _ h => h) (.inl ⟨by rfl, ?_⟩) ?_ ?_; rotate_left
  ·intro w'; go_simp; with_reducible rfl
  rotate_left; · simp only [Act.put, List.setIfInBounds_toArray, List.set_cons_zero, List.set_cons_succ, i64_w, i32_w]; rfl
  refine pu (i := 5) (N := some 16) (v := ?_) (a' := ?_) rfl rfl (by kernel_rfl) (fun _ _ _ h => h) (.inl ⟨by rfl, ?_⟩) ?_ ?_; rotate_left
  ·intro w'; go_simp; with_reducible rfl
  rotate_left; · simp only [Act.put, List.setIfInBounds_toArray, List.set_cons_zero, List.set_cons_succ, i64_w, i32_w]; rfl
  refine pu (i := 6) (N := some 17) (v := ?_) (a' := ?_) rfl rfl (by kernel_rfl) (fun _ _ _ h => h) (.inl ⟨by rfl, ?_⟩) ?_ ?_; rotate_left
  ·intro w'; go_simp; with_reducible rfl
  rotate_left; · simp only [Act.put, List.setIfInBounds_toArray, List.set_cons_zero, List.set_cons_succ, i64_w, i32_w]; rfl
  refine pu (i := 7) (N := some 18) (v := ?_) (a' := ?_) rfl rfl (by kernel_rfl) (fun _ _ _ h => h) (.inl ⟨by rfl, ?_⟩) ?_ ?_; rotate_left
  ·intro w'; go_simp; with_reducible rfl
  rotate_left; · simp only [Act.put, List.setIfInBounds_toArray, List.set_cons_zero, List.set_cons_succ, i64_w, i32_w]; rfl
  refine pu (i := 9) (N := some 20) (v := ?_) (a' := ?_) rfl rfl (by kernel_rfl) (fun _ _ _ h => h) (.inl ⟨by rfl, ?_⟩) ?_ ?_; rotate_left
  ·intro w'; go_simp; with_reducible rfl
  rotate_left; · simp only [Act.put, List.setIfInBounds_toArray, List.set_cons_zero, List.set_cons_succ, i64_w, i32_w]; rfl
  refine tu (i := 4) (N := some 15) (v := ?_) (a' := ?_) rfl rfl (by kernel_rfl) (fun _ _ _ h => h) (.inl ⟨by rfl, ?_⟩) hHeld ?_ ?_; rotate_left
  ·rintro w' ⟨s0, s1, s2, s3⟩; go_simp; with_reducible rfl
  rotate_left; · simp only [Act.put, List.setIfInBounds_toArray, List.set_cons_zero, List.set_cons_succ, i64_w, i32_w]; rfl
  refine tu (i := 8) (N := some 19) (v := ?_) (a' := ?_) rfl rfl (by kernel_rfl) (fun _ _ _ h => h) (.inl ⟨by rfl, ?_⟩) hHeld ?_ ?_; rotate_left
  ·rintro w' ⟨s0, s1, s2, s3⟩; go_simp; with_reducible rfl
  rotate_left; · simp only [Act.put, List.setIfInBounds_toArray, List.set_cons_zero, List.set_cons_succ, i64_w, i32_w]; rfl
  refine one_ (i := 10) (N := some 21) #[true, true, true, true, true, true, true, true, true, true, true, false, false, false, false, false, false, false] rfl rfl (by kernel_rfl) (by decide) (fun K hK => ?_)
  obtain ⟨r0, r1, c0, c1⟩ := hHeld
  refine goesV_ Tryd.func84 (by kernel_rfl) rfl #[.string s, .int .i64 a, .int .i64 wd] (by rfl) rfl rfl rfl (by simp only [List.map_toArray, List.map_cons, List.map_nil]; rfl) ?_
  with_reducible refine (gets_b hs HX.out _).mono ?_
  rintro e w3 ⟨rfl, hb3⟩
  refine ⟨_, rfl, ?_⟩
  have q0 : RdAt g s a m w3 := blk_below r0 hb3
  have q1 := r1.below hb3
  have c4 : w3.cell? ⟨g, 0, none⟩ = some (.string s) := blk_cell q0 0
  have c5 : w3.cell? ⟨g, 1, none⟩ = some (.int .i64 a) := blk_cell q0 1
  have f1 : w3.frozen? ⟨g, 1, none⟩ = false := blk_frozen q0 _
  have Q0 := am q0
  have Q1 := am q1
  clear q0 q1 hb3 r0 r1
  refine hK.out _ _ ⟨Q0.out, Q1.out, c4, c5⟩ (fun hHeld => ?_)
  clear hK K
  refine norm_ (a' := ?_) ?_ ?_
  rotate_left
  ·show Act.put _ (some 21) _ = _
   simp only [Act.put, List.setIfInBounds_toArray, List.set_cons_zero, List.set_cons_succ, i64_w, i32_w]
   rfl
  refine pu (i := 11) (N := some 10) (v := ?_) (a' := ?_) rfl rfl (by kernel_rfl) (fun _ _ _ h => h) (.inl ⟨by rfl, ?_⟩) ?_ ?_; rotate_left
  ·intro w'; go_simp; with_reducible rfl
  rotate_left; · simp only [Act.put, List.setIfInBounds_toArray, List.set_cons_zero, List.set_cons_succ, i64_w, i32_w]; rfl
  refine pu (i := 12) (N := some 22) (v := ?_) (a' := ?_) rfl rfl (by kernel_rfl) (fun _ _ _ h => h) (.inl ⟨by rfl, ?_⟩) ?_ ?_; rotate_left
  ·intro w'; go_simp; with_reducible rfl
  rotate_left; · simp only [Act.put, List.setIfInBounds_toArray, List.set_cons_zero, List.set_cons_succ, i64_w, i32_w]; rfl
  refine pu (i := 13) (N := some 23) (v := ?_) (a' := ?_) rfl rfl (by kernel_rfl) (fun _ _ _ h => h) (.inl ⟨by rfl, ?_⟩) ?_ ?_; rotate_left
  ·intro w'; go_simp; with_reducible rfl
  rotate_left; · simp only [Act.put, List.setIfInBounds_toArray, List.set_cons_zero, List.set_cons_succ, i64_w, i32_w]; rfl
  refine pu (i := 14) (N := some 24) (v := ?_) (a' := ?_) rfl rfl (by kernel_rfl) (fun _ _ _ h => h) (.inl ⟨by rfl, ?_⟩) ?_ ?_; rotate_left
  ·intro w'; go_simp; with_reducible rfl
  rotate_left; · simp only [Act.put, List.setIfInBounds_toArray, List.set_cons_zero, List.set_cons_succ, i64_w, i32_w]; rfl
  refine pu (i := 15) (N := some 7) (v := ?_) (a' := ?_) rfl rfl (by kernel_rfl) (fun _ _ _ h => h) (.inl ⟨by rfl, ?_⟩) ?_ ?_; rotate_left
  ·intro w'; go_simp; with_reducible rfl
  rotate_left; · simp only [Act.put, List.setIfInBounds_toArray, List.set_cons_zero, List.set_cons_succ, i64_w, i32_w]; rfl
  refine pu (i := 16) (N := some 8) (v := ?_) (a' := ?_) rfl rfl (by kernel_rfl) (fun _ _ _ h => h) (.inl ⟨by rfl, ?_⟩) ?_ ?_; rotate_left
  ·intro w'; go_simp; with_reducible rfl
  rotate_left; · simp only [Act.put, List.setIfInBounds_toArray, List.set_cons_zero, List.set_cons_succ, i64_w, i32_w]; rfl
  refine pu (i := 17) (N := some 9) (v := ?_) (a' := ?_) rfl rfl (by kernel_rfl) (fun _ _ _ h => h) (.inl ⟨by rfl, ?_⟩) ?_ ?_; rotate_left
  ·intro w'; go_simp; with_reducible rfl
  rotate_left; · simp only [Act.put, List.setIfInBounds_toArray, List.set_cons_zero, List.set_cons_succ, i64_w, i32_w]; rfl
  refine done_ (by kernel_rfl) ?_
  go_wp2
  go_ret
  exact ⟨rfl, rdAt_set1 Q0.out y, fr_set Q1.out _⟩
 ·have e0 : (z == 0) = false := beq_eq_false_iff_ne.2 h0
  rw [if_neg h0]
  by_cases h1 : z = 1201
  ·subst h1
   rw [if_pos rfl]
   clear h0
   go_enter Tryd.func83, Tryd.ntmps83
   go_wp2
   refine start_ (n := 18) (S := fun w' => RdAt g s a m w' ∧ Fr W w' (fun k => k = g) ∧ w'.cell? ⟨g, 0, none⟩ = some (.string s) ∧ w'.cell? ⟨g, 1, none⟩ = some (.int .i64 a)) (ds := []) #[false, false, false, false, false, false, false, false, false, false, false, false, false, false, false, false, false, false] (by kernel_rfl) rfl rfl ⟨H.out, Fr.refl_drew _ _, c0, c1⟩ (fun hHeld => ?_)
   refine pu (i := 0) (N := some 11) (v := ?_) (a' := ?_) rfl rfl (by kernel_rfl) (fun _ _ _ h => h) (.inl ⟨by rfl, ?_⟩) ?_ ?_; rotate_left
   ·intro w'; go_simp; with_reducible rfl
   rotate_left; · simp only [Act.put, List.setIfInBounds_toArray, List.set_cons_zero, List.set_cons_succ, i64_w, i32_w]; rfl
   refine pu (i := 1) (N := some 12) (v := ?_) (a' := ?_) rfl rfl (by kernel_rfl) (fun _ _ _ h => h) (.inl ⟨by rfl, ?_⟩) ?_ ?_; rotate_left
   ·intro w'; go_simp; with_reducible rfl
   rotate_left; · simp only [Act.put, List.setIfInBounds_toArray, List.set_cons_zero, List.set_cons_succ, i64_w, i32_w]; rfl
   refine pu (i := 2) (N := some 13) (v := ?_) (a' := ?_) rfl rfl (by kernel_rfl) (fun _ _ _ h => h) (.inl ⟨by rfl, ?_⟩) ?_ ?_; rotate_left
   ·intro w'; go_simp; with_reducible rfl
   rotate_left; · simp only [Act.put, List.setIfInBounds_toArray, List.set_cons_zero, List.set_cons_succ, i64_w, i32_w]; rfl
   refine pu (i := 3) (N := some 14) (v := ?_) (a' := ?_) rfl rfl (by kernel_rfl) (fun _ _ _ h => h) (.inl ⟨by rfl, ?_⟩) ?_ ?_; rotate_left
   ·intro w'; go_simp; with_reducible rfl
   rotate_left; · simp only [Act.put, List.setIfInBounds_toArray, List.set_cons_zero, List.set_cons_succ, i64_w, i32_w]; rfl
   refine pu (i := 5) (N := some 16) (v := ?_) (a' := ?_) rfl rfl (by kernel_rfl) (fun _ _ _ h => h) (.inl ⟨by rfl, ?_⟩) ?_ ?_; rotate_left
   ·intro w'; go_simp; with_reducible rfl
   rotate_left; · simp only [Act.put, List.setIfInBounds_toArray, List.set_cons_zero, List.set_cons_succ, i64_w, i32_w]; rfl
   refine pu (i := 6) (N := some 17) (v := ?_) (a' := ?_) rfl rfl (by kernel_rfl) (fun _ _ _ h => h) (.inl ⟨by rfl, ?_⟩) ?_ ?_; rotate_left
   ·intro w'; go_simp; with_reducible rfl
   rotate_left; · simp only [Act.put, List.setIfInBounds_toArray, List.set_cons_zero, List.set_cons_succ, i64_w, i32_w]; rfl
   refine pu (i := 7) (N := some 18) (v := ?_) (a' := ?_) rfl rfl (by kernel_rfl) (fun _ _ _ h => h) (.inl ⟨by rfl, ?_⟩) ?_ ?_; rotate_left
   ·intro w'; go_simp; with_reducible rfl
   rotate_left; · simp only [Act.put, List.setIfInBounds_toArray, List.set_cons_zero, List.set_cons_succ, i64_w, i32_w]; rfl
   refine pu (i := 9) (N := some 20) (v := ?_) (a' := ?_) rfl rfl (by kernel_rfl) (fun _ _ _ h => h) (.inl ⟨by rfl, ?_⟩) ?_ ?_; rotate_left
   ·intro w'; go_simp; with_reducible rfl
   rotate_left; · simp only [Act.put, List.setIfInBounds_toArray, List.set_cons_zero, List.set_cons_succ, i64_w, i32_w]; rfl
   refine tu (i := 4) (N := some 15) (v := ?_) (a' := ?_) rfl rfl (by kernel_rfl) (fun _ _ _ h => h) (.inl ⟨by rfl, ?_⟩) hHeld ?_ ?_; rotate_left
   ·rintro w' ⟨s0, s1, s2, s3⟩; go_simp; with_reducible rfl
   rotate_left; · simp only [Act.put, List.setIfInBounds_toArray, List.set_cons_zero, List.set_cons_succ, i64_w, i32_w]; rfl
   refine tu (i := 8) (N := some 19) (v := ?_) (a' := ?_) rfl rfl (by kernel_rfl) (fun _ _ _ h => h) (.inl ⟨by rfl, ?_⟩) hHeld ?_ ?_; rotate_left
   ·rintro w' ⟨s0, s1, s2, s3⟩; go_simp; with_reducible rfl
   rotate_left; · simp only [Act.put, List.setIfInBounds_toArray, List.set_cons_zero, List.set_cons_succ, i64_w, i32_w]; rfl
   refine one_ (i := 10) (N := some 21) #[true, true, true, true, true, true, true, true, true, true, true, false, false, false, false, false, false, false] rfl rfl (by kernel_rfl) (by decide) (fun K hK => ?_)
   obtain ⟨r0, r1, c0, c1⟩ := hHeld
   refine goesV_ Tryd.func84 (by kernel_rfl) rfl #[.string s, .int .i64 a, .int .i64 wd] (by rfl) rfl rfl rfl (by simp only [List.map_toArray, List.map_cons, List.map_nil]; rfl) ?_
   with_reducible refine (gets_b hs HX.out _).mono ?_
   rintro e w3 ⟨rfl, hb3⟩
   refine ⟨_, rfl, ?_⟩
   have q0 : RdAt g s a m w3 := blk_below r0 hb3
   have q1 := r1.below hb3
   have c4 : w3.cell? ⟨g, 0, none⟩ = some (.string s) := blk_cell q0 0
   have c5 : w3.cell? ⟨g, 1, none⟩ = some (.int .i64 a) := blk_cell q0 1
   have f1 : w3.frozen? ⟨g, 1, none⟩ = false := blk_frozen q0 _
   have Q0 := am q0
   have Q1 := am q1
   clear q0 q1 hb3 r0 r1
   refine hK.out _ _ ⟨Q0.out, Q1.out, c4, c5⟩ (fun hHeld => ?_)
   clear hK K
   refine norm_ (a' := ?_) ?_ ?_
   rotate_left
   ·show Act.put _ (some 21) _ = _
    simp only [Act.put, List.setIfInBounds_toArray, List.set_cons_zero, List.set_cons_succ, i64_w, i32_w]
    rfl
   refine pu (i := 11) (N := some 10) (v := ?_) (a' := ?_) rfl rfl (by kernel_rfl) (fun _ _ _ h => h) (.inl ⟨by rfl, ?_⟩) ?_ ?_; rotate_left
   ·intro w'; go_simp; with_reducible rfl
   rotate_left; · simp only [Act.put, List.setIfInBounds_toArray, List.set_cons_zero, List.set_cons_succ, i64_w, i32_w]; rfl
   refine pu (i := 12) (N := some 22) (v := ?_) (a' := ?_) rfl rfl (by kernel_rfl) (fun _ _ _ h => h) (.inl ⟨by rfl, ?_⟩) ?_ ?_; rotate_left
   ·intro w'; go_simp; with_reducible rfl
   rotate_left; · simp only [Act.put, List.setIfInBounds_toArray, List.set_cons_zero, List.set_cons_succ, i64_w, i32_w]; rfl
   refine pu (i := 13) (N := some 23) (v := ?_) (a' := ?_) rfl rfl (by kernel_rfl) (fun _ _ _ h => h) (.inl ⟨by rfl, ?_⟩) ?_ ?_; rotate_left
   ·intro w'; go_simp; with_reducible rfl
   rotate_left; · simp only [Act.put, List.setIfInBounds_toArray, List.set_cons_zero, List.set_cons_succ, i64_w, i32_w]; rfl
   refine pu (i := 14) (N := some 24) (v := ?_) (a' := ?_) rfl rfl (by kernel_rfl) (fun _ _ _ h => h) (.inl ⟨by rfl, ?_⟩) ?_ ?_; rotate_left
   ·intro w'; go_simp; with_reducible rfl
   rotate_left; · simp only [Act.put, List.setIfInBounds_toArray, List.set_cons_zero, List.set_cons_succ, i64_w, i32_w]; rfl
   refine pu (i := 15) (N := some 7) (v := ?_) (a' := ?_) rfl rfl (by kernel_rfl) (fun _ _ _ h => h) (.inl ⟨by rfl, ?_⟩) ?_ ?_; rotate_left
   ·intro w'; go_simp; with_reducible rfl
   rotate_left; · simp only [Act.put, List.setIfInBounds_toArray, List.set_cons_zero, List.set_cons_succ, i64_w, i32_w]; rfl
   refine pu (i := 16) (N := some 8) (v := ?_) (a' := ?_) rfl rfl (by kernel_rfl) (fun _ _ _ h => h) (.inl ⟨by rfl, ?_⟩) ?_ ?_; rotate_left
   ·intro w'; go_simp; with_reducible rfl
   rotate_left; · simp only [Act.put, List.setIfInBounds_toArray, List.set_cons_zero, List.set_cons_succ, i64_w, i32_w]; rfl
   refine pu (i := 17) (N := some 9) (v := ?_) (a' := ?_) rfl rfl (by kernel_rfl) (fun _ _ _ h => h) (.inl ⟨by rfl, ?_⟩) ?_ ?_; rotate_left
   ·intro w'; go_simp; with_reducible rfl
   rotate_left; · simp only [Act.put, List.setIfInBounds_toArray, List.set_cons_zero, List.set_cons_succ, i64_w, i32_w]; rfl
   refine done_ (by kernel_rfl) ?_
   go_wp2_with (go_at_call 76; (with_reducible refine (bad_c _ _).mono ?_); rintro e w' ⟨rfl, rfl⟩)
   exact ⟨rfl, rfl, Q1.out⟩
  ·have e1 : (z == 1201) = false := beq_eq_false_iff_ne.2 h1
   rw [if_neg h1]
   clear h0 h1
   go_enter Tryd.func83, Tryd.ntmps83
   go_wp2
   refine start_ (n := 18) (S := fun w' => RdAt g s a m w' ∧ Fr W w' (fun k => k = g) ∧ w'.cell? ⟨g, 0, none⟩ = some (.string s) ∧ w'.cell? ⟨g, 1, none⟩ = some (.int .i64 a)) (ds := []) #[false, false, false, false, false, false, false, false, false, false, false, false, false, false, false, false, false, false] (by kernel_rfl) rfl rfl ⟨H.out, Fr.refl_drew _ _, c0, c1⟩ (fun hHeld => ?_)
   refine pu (i := 0) (N := some 11) (v := ?_) (a' := ?_) rfl rfl (by kernel_rfl) (fun _ _ _ h => h) (.inl ⟨by rfl, ?_⟩) ?_ ?_; rotate_left
   ·intro w'; go_simp; with_reducible rfl
   rotate_left; · simp only [Act.put, List.setIfInBounds_toArray, List.set_cons_zero, List.set_cons_succ, i64_w, i32_w]; rfl
   refine pu (i := 1) (N := some 12) (v := ?_) (a' := ?_) rfl rfl (by kernel_rfl) (fun _ _ _ h => h) (.inl ⟨by rfl, ?_⟩) ?_ ?_; rotate_left
   ·intro w'; go_simp; with_reducible rfl
   rotate_left; · simp only [Act.put, List.setIfInBounds_toArray, List.set_cons_zero, List.set_cons_succ, i64_w, i32_w]; rfl
   refine pu (i := 2) (N := some 13) (v := ?_) (a' := ?_) rfl rfl (by kernel_rfl) (fun _ _ _ h => h) (.inl ⟨by rfl, ?_⟩) ?_ ?_; rotate_left
   ·intro w'; go_simp; with_reducible rfl
   rotate_left; · simp only [Act.put, List.setIfInBounds_toArray, List.set_cons_zero, List.set_cons_succ, i64_w, i32_w]; rfl
   refine pu (i := 3) (N := some 14) (v := ?_) (a' := ?_) rfl rfl (by kernel_rfl) (fun _ _ _ h => h) (.inl ⟨by rfl, ?_⟩) ?_ ?_; rotate_left
   ·intro w'; go_simp; with_reducible rfl
   rotate_left; · simp only [Act.put, List.setIfInBounds_toArray, List.set_cons_zero, List.set_cons_succ, i64_w, i32_w]; rfl
   refine pu (i := 5) (N := some 16) (v := ?_) (a' := ?_) rfl rfl (by kernel_rfl) (fun _ _ _ h => h) (.inl ⟨by rfl, ?_⟩) ?_ ?_; rotate_left
   ·intro w'; go_simp; with_reducible rfl
   rotate_left; · simp only [Act.put, List.setIfInBounds_toArray, List.set_cons_zero, List.set_cons_succ, i64_w, i32_w]; rfl
   refine pu (i := 6) (N := some 17) (v := ?_) (a' := ?_) rfl rfl (by kernel_rfl) (fun _ _ _ h => h) (.inl ⟨by rfl, ?_⟩) ?_ ?_; rotate_left
   ·intro w'; go_simp; with_reducible rfl
   rotate_left; · simp only [Act.put, List.setIfInBounds_toArray, List.set_cons_zero, List.set_cons_succ, i64_w, i32_w]; rfl
   refine pu (i := 7) (N := some 18) (v := ?_) (a' := ?_) rfl rfl (by kernel_rfl) (fun _ _ _ h => h) (.inl ⟨by rfl, ?_⟩) ?_ ?_; rotate_left
   ·intro w'; go_simp; with_reducible rfl
   rotate_left; · simp only [Act.put, List.setIfInBounds_toArray, List.set_cons_zero, List.set_cons_succ, i64_w, i32_w]; rfl
   refine pu (i := 9) (N := some 20) (v := ?_) (a' := ?_) rfl rfl (by kernel_rfl) (fun _ _ _ h => h) (.inl ⟨by rfl, ?_⟩) ?_ ?_; rotate_left
   ·intro w'; go_simp; with_reducible rfl
   rotate_left; · simp only [Act.put, List.setIfInBounds_toArray, List.set_cons_zero, List.set_cons_succ, i64_w, i32_w]; rfl
   refine tu (i := 4) (N := some 15) (v := ?_) (a' := ?_) rfl rfl (by kernel_rfl) (fun _ _ _ h => h) (.inl ⟨by rfl, ?_⟩) hHeld ?_ ?_; rotate_left
   ·rintro w' ⟨s0, s1, s2, s3⟩; go_simp; with_reducible rfl
   rotate_left; · simp only [Act.put, List.setIfInBounds_toArray, List.set_cons_zero, List.set_cons_succ, i64_w, i32_w]; rfl
   refine tu (i := 8) (N := some 19) (v := ?_) (a' := ?_) rfl rfl (by kernel_rfl) (fun _ _ _ h => h) (.inl ⟨by rfl, ?_⟩) hHeld ?_ ?_; rotate_left
   ·rintro w' ⟨s0, s1, s2, s3⟩; go_simp; with_reducible rfl
   rotate_left; · simp only [Act.put, List.setIfInBounds_toArray, List.set_cons_zero, List.set_cons_succ, i64_w, i32_w]; rfl
   refine one_ (i := 10) (N := some 21) #[true, true, true, true, true, true, true, true, true, true, true, false, false, false, false, false, false, false] rfl rfl (by kernel_rfl) (by decide) (fun K hK => ?_)
   obtain ⟨r0, r1, c0, c1⟩ := hHeld
   refine goesV_ Tryd.func84 (by kernel_rfl) rfl #[.string s, .int .i64 a, .int .i64 wd] (by rfl) rfl rfl rfl (by simp only [List.map_toArray, List.map_cons, List.map_nil]; rfl) ?_
   with_reducible refine (gets_b hs HX.out _).mono ?_
   rintro e w3 ⟨rfl, hb3⟩
   refine ⟨_, rfl, ?_⟩
   have q0 : RdAt g s a m w3 := blk_below r0 hb3
   have q1 := r1.below hb3
   have c4 : w3.cell? ⟨g, 0, none⟩ = some (.string s) := blk_cell q0 0
   have c5 : w3.cell? ⟨g, 1, none⟩ = some (.int .i64 a) := blk_cell q0 1
   have f1 : w3.frozen? ⟨g, 1, none⟩ = false := blk_frozen q0 _
   have Q0 := am q0
   have Q1 := am q1
   clear q0 q1 hb3 r0 r1
   refine hK.out _ _ ⟨Q0.out, Q1.out, c4, c5⟩ (fun hHeld => ?_)
   clear hK K
   refine norm_ (a' := ?_) ?_ ?_
   rotate_left
   ·show Act.put _ (some 21) _ = _
    simp only [Act.put, List.setIfInBounds_toArray, List.set_cons_zero, List.set_cons_succ, i64_w, i32_w]
    rfl
   refine pu (i := 11) (N := some 10) (v := ?_) (a' := ?_) rfl rfl (by kernel_rfl) (fun _ _ _ h => h) (.inl ⟨by rfl, ?_⟩) ?_ ?_; rotate_left
   ·intro w'; go_simp; with_reducible rfl
   rotate_left; · simp only [Act.put, List.setIfInBounds_toArray, List.set_cons_zero, List.set_cons_succ, i64_w, i32_w]; rfl
   refine pu (i := 12) (N := some 22) (v := ?_) (a' := ?_) rfl rfl (by kernel_rfl) (fun _ _ _ h => h) (.inl ⟨by rfl, ?_⟩) ?_ ?_; rotate_left
   ·intro w'; go_simp; with_reducible rfl
   rotate_left; · simp only [Act.put, List.setIfInBounds_toArray, List.set_cons_zero, List.set_cons_succ, i64_w, i32_w]; rfl
   refine pu (i := 13) (N := some 23) (v := ?_) (a' := ?_) rfl rfl (by kernel_rfl) (fun _ _ _ h => h) (.inl ⟨by rfl, ?_⟩) ?_ ?_; rotate_left
   ·intro w'; go_simp; with_reducible rfl
   rotate_left; · simp only [Act.put, List.setIfInBounds_toArray, List.set_cons_zero, List.set_cons_succ, i64_w, i32_w]; rfl
   refine pu (i := 14) (N := some 24) (v := ?_) (a' := ?_) rfl rfl (by kernel_rfl) (fun _ _ _ h => h) (.inl ⟨by rfl, ?_⟩) ?_ ?_; rotate_left
   ·intro w'; go_simp; with_reducible rfl
   rotate_left; · simp only [Act.put, List.setIfInBounds_toArray, List.set_cons_zero, List.set_cons_succ, i64_w, i32_w]; rfl
   refine pu (i := 15) (N := some 7) (v := ?_) (a' := ?_) rfl rfl (by kernel_rfl) (fun _ _ _ h => h) (.inl ⟨by rfl, ?_⟩) ?_ ?_; rotate_left
   ·intro w'; go_simp; with_reducible rfl
   rotate_left; · simp only [Act.put, List.setIfInBounds_toArray, List.set_cons_zero, List.set_cons_succ, i64_w, i32_w]; rfl
   refine pu (i := 16) (N := some 8) (v := ?_) (a' := ?_) rfl rfl (by kernel_rfl) (fun _ _ _ h => h) (.inl ⟨by rfl, ?_⟩) ?_ ?_; rotate_left
   ·intro w'; go_simp; with_reducible rfl
   rotate_left; · simp only [Act.put, List.setIfInBounds_toArray, List.set_cons_zero, List.set_cons_succ, i64_w, i32_w]; rfl
   refine pu (i := 17) (N := some 9) (v := ?_) (a' := ?_) rfl rfl (by kernel_rfl) (fun _ _ _ h => h) (.inl ⟨by rfl, ?_⟩) ?_ ?_; rotate_left
   ·intro w'; go_simp; with_reducible rfl
   rotate_left; · simp only [Act.put, List.setIfInBounds_toArray, List.set_cons_zero, List.set_cons_succ, i64_w, i32_w]; rfl
   refine done_ (by kernel_rfl) ?_
   go_wp2_with (go_at_call 76; (with_reducible refine (bad_c _ _).mono ?_); rintro e w' ⟨rfl, rfl⟩)
   exact ⟨rfl, rfl, Q1.out⟩
theorem numPost_ok {g : Nat} {s : ByteArray} {m x a1 : Int} {W w' : World} {r : Except Int (Int × Int)} {e : Ending} (h : r = .ok (x, a1)) (h1 : e = .returned (.int .i64 x)) (h2 : RdAt g s a1 m w') (h3 : Fr W w' (fun k => k = g)) : NumPost g s m W r e w' := by
 subst h
 exact ⟨h1, h2, h3⟩
theorem numPost_er {g : Nat} {s : ByteArray} {m c : Int} {W w' : World} {r : Except Int (Int × Int)} {e : Ending} (h : r = .error c) (ht : Thrown c W (fun k => k = g) e w') : NumPost g s m W r e w' := by
 subst h
 exact ht
theorem as_ok {P : Program} {f : FuncId} {args : Array Value} {g : Nat} {s : ByteArray} {m x a1 : Int} {W : World} {r : Except Int (Int × Int)} (h : Calls P f args W (NumPost g s m W r)) (hr : r = .ok (x, a1)) : Calls P f args W fun e w' => e = .returned (.int .i64 x) ∧ RdAt g s a1 m w' ∧ Fr W w' (fun k => k = g) := by
 subst hr
 exact h
theorem as_er {P : Program} {f : FuncId} {args : Array Value} {g : Nat} {s : ByteArray} {m c : Int} {W : World} {r : Except Int (Int × Int)} (h : Calls P f args W (NumPost g s m W r)) (hr : r = .error c) : Calls P f args W (Thrown c W (fun k => k = g)) := by
 subst hr
 exact h
theorem byte_c {g : Nat} {s : ByteArray} {a m : Int} {W : World} (h : RdAt g s a m W) (h0 : 0 ≤ a) (hs : s.size ≤ 140737488355328) : Calls Tryd.prog 74 #[.pointer (some ⟨g, 0, none⟩)] W (NumPost g s m W (pByte s a)) := by
 unfold pByte
 split
 ·exact byte_ok h h0 ‹_› hs
 ·exact byte_cut h ‹_›
def pU32 (s : ByteArray) (a : Int) : Except Int (Int × Int) := pNum (G s a 32)
theorem u32r_c {g : Nat} {s : ByteArray} {a m : Int} {W : World} (h : RdAt g s a m W) (hs : s.size ≤ 140737488355328) : Calls Tryd.prog 79 #[.pointer (some ⟨g, 0, none⟩)] W (NumPost g s m W (pU32 s a)) := by
 have H := am h
 clear h
 cases hr : pNum (G s a 32) with
 | ok p =>
  obtain ⟨x, a1⟩ := p
  have HR := am hr
  unfold pU32
  rw [hr]
  clear hr
  go_enter Tryd.func79, Tryd.ntmps79
  go_wp2_with (go_at_call 83; (with_reducible refine (as_ok (get_number H.out hs) HR.out).mono ?_); rintro e w' ⟨rfl, h1, h2⟩; have H1 := am h1; have H2 := am h2; clear h1 h2)
  go_ret
  exact ⟨rfl, H1.out, H2.out⟩
 | error c =>
  have HR := am hr
  unfold pU32
  rw [hr]
  clear hr
  go_enter Tryd.func79, Tryd.ntmps79
  go_wp2_with (go_at_call 83; (with_reducible refine (as_er (get_number H.out hs) HR.out).mono ?_); rintro e w' ⟨rfl, h2⟩; have H2 := am h2; clear h2)
  exact ⟨rfl, rfl, H2.out⟩
def NilPost (g : Nat) (s : ByteArray) (m : Int) (W : World) (r : Except Int Int) (e : Ending) (w' : World) : Prop := match r with
 | .ok a1 => e = .returned (.tuple #[]) ∧ RdAt g s a1 m w' ∧ Fr W w' (fun k => k = g)
 | .error c => Thrown c W (fun k => k = g) e w'
theorem nil_ok {P : Program} {f : FuncId} {args : Array Value} {g : Nat} {s : ByteArray} {m a1 : Int} {W : World} {r : Except Int Int} (h : Calls P f args W (NilPost g s m W r)) (hr : r = .ok a1) : Calls P f args W fun e w' => e = .returned (.tuple #[]) ∧ RdAt g s a1 m w' ∧ Fr W w' (fun k => k = g) := by
 subst hr
 exact h
theorem nil_er {P : Program} {f : FuncId} {args : Array Value} {g : Nat} {s : ByteArray} {m c : Int} {W : World} {r : Except Int Int} (h : Calls P f args W (NilPost g s m W r)) (hr : r = .error c) : Calls P f args W (Thrown c W (fun k => k = g)) := by
 subst hr
 exact h
theorem nought_c {g : Nat} {s : ByteArray} {a m : Int} {W : World} (h : RdAt g s a m W) (h0 : 0 ≤ a) (hs : s.size ≤ 140737488355328) : Calls Tryd.prog 81 #[.pointer (some ⟨g, 0, none⟩)] W (NilPost g s m W (pNought s a)) := by
 have H := am h
 clear h
 unfold pNought
 cases hr : pByte s a with
 | ok p =>
  obtain ⟨x, a1⟩ := p
  have HR := am hr
  clear hr
  simp only
  by_cases hx : x = 0
  ·subst hx
   rw [if_pos rfl]
   go_enter Tryd.func81, Tryd.ntmps81
   go_wp2_with (go_at_call 74; (with_reducible refine (as_ok (byte_c H.out h0 hs) HR.out).mono ?_); rintro e w' ⟨rfl, h1, h2⟩; have H1 := am h1; have H2 := am h2; clear h1 h2)
   go_end0
   exact ⟨rfl, H1.out, H2.out⟩
  ·rw [if_neg hx]
   have ex : (x != 0) = true := bne_iff_ne.2 hx
   clear hx
   go_enter Tryd.func81, Tryd.ntmps81
   go_wp2_with (first | (go_at_call 74; (with_reducible refine (as_ok (byte_c H.out h0 hs) HR.out).mono ?_); rintro e w' ⟨rfl, h1, h2⟩; have H1 := am h1; have H2 := am h2; clear h1 h2) | (go_at_call 76; (with_reducible refine (bad_c _ _).mono ?_); rintro e w' ⟨rfl, rfl⟩))
   exact ⟨rfl, rfl, H2.out⟩
 | error c =>
  have HR := am hr
  clear hr
  simp only
  go_enter Tryd.func81, Tryd.ntmps81
  go_wp2_with (go_at_call 74; (with_reducible refine (as_er (byte_c H.out h0 hs) HR.out).mono ?_); rintro e w' ⟨rfl, h2⟩; have H2 := am h2; clear h2)
  exact ⟨rfl, rfl, H2.out⟩
def pLow (s : ByteArray) : Nat → Nat → Int → Int → Except Int (Int × Int)
 | 0, _, x, a => .ok (x, a)
 | k + 1, i, x, a => match pByte s a with
  | .ok (b, a1) => pLow s k (i + 1) (Go.bits .or .i64 x (wrap64 (b * 2 ^ (8 * i)))) a1
  | .error c => .error c
def RelLow (g : Nat) (s : ByteArray) (a m : Int) (many : Nat) (W : World) (v5 v8 : Value) (wr : World) : Prop :=
 ∃ (k i : Nat) (x a1 : Int), i + k = many ∧ v5 = .int .i64 x ∧ v8 = .int .i64 i ∧ 0 ≤ a1 ∧ RdAt g s a1 m wr ∧ Fr W wr (fun k => k = g) ∧ pLow s k i x a1 = pLow s many 0 0 a
theorem low_c {g : Nat} {s : ByteArray} {a m : Int} {W : World} (many : Nat) (hm : many ≤ 8) (h : RdAt g s a m W) (h0 : 0 ≤ a) (hs : s.size ≤ 140737488355328) : Calls Tryd.prog 86 #[.pointer (some ⟨g, 0, none⟩), .int .i64 many] W (NumPost g s m W (pLow s many 0 0 a)) := by
 have H := am h
 clear h
 go_enter Tryd.func86, Tryd.ntmps86
 go_wp2
 go_loopw [5, 8] (fun v5 v8 wr => RelLow g s a m many W v5 v8 wr) (fun _ v8 _ => many - (intOf v8).toNat)
 case atStart => exact ⟨many, 0, 0, a, by omega, rfl, rfl, h0, H.out, Fr.refl _ _, rfl⟩
 case round =>
  obtain ⟨k, i, x, a1, hk, rfl, rfl, h1, hR, hF, hE⟩ := hrel
  have HR := am hR
  have HF := am hF
  have HE := am hE
  have HK := am hk
  clear hR hF hE
  by_cases hlt : i < many
  ·have dl : decide (i < many) = true := decide_eq_true hlt
   have dl2 : decide ((i : Int) < (many : Int)) = true := decide_eq_true (by omega)
   obtain ⟨j, rfl⟩ : ∃ j, k = j + 1 := ⟨k - 1, by omega⟩
   have w1 : wrap64 (8 * (i : Int)) = 8 * (i : Int) := by unfold wrap64; omega
   have w2 : wrap64 ((i : Int) + 1) = (i : Int) + 1 := by unfold wrap64; omega
   have w3 : (0 : Int) ≤ 8 * (i : Int) := by omega
   cases hr : pByte s a1 with
   | ok p =>
    obtain ⟨b, a2⟩ := p
    have HB := am hr
    clear hr
    go_wp2_with (go_at_call 74; (with_reducible refine (as_ok (byte_c HR.out h1 hs) HB.out).mono ?_); rintro e w' ⟨rfl, g1, g2⟩; have H1 := am g1; have H2 := am g2; clear g1 g2)
    have h2 := pByte_ok HB.out
    have HE2 : pLow s j (i + 1) (Go.bits .or .i64 x (wrap64 (b * 2 ^ (8 * i)))) a2 = pLow s many 0 0 a := by rw [← HE.out, pLow, HB.out]
    exact ⟨⟨j, i + 1, _, a2, by have := HK.out; omega, rfl, by simp, by omega, H1.out, HF.out.then_ H2.out (fun k hk => .inl hk), HE2⟩, by simp [intOf]; omega⟩
   | error c =>
    have HB := am hr
    clear hr
    go_wp2_with (go_at_call 74; (with_reducible refine (as_er (byte_c HR.out h1 hs) HB.out).mono ?_); rintro e w' ⟨rfl, g2⟩; have H2 := am g2; clear g2)
    refine ⟨rfl, numPost_er (c := c) ?_ ⟨rfl, HF.out.then_ H2.out (fun k hk => .inl hk)⟩⟩
    rw [← HE.out, pLow, HB.out]
  ·have dl : decide (i < many) = false := decide_eq_false hlt
   have dl2 : decide ((i : Int) < (many : Int)) = false := decide_eq_false (by omega)
   obtain rfl : k = 0 := by omega
   go_wp2
   go_ret
   exact numPost_ok HE.out.symm rfl HR.out HF.out
def pInts (s : ByteArray) : Nat → Int → Except Int (List Int × Int)
 | 0, a => .ok ([], a)
 | k + 1, a => match pU32 s a with
  | .ok (x, a1) => (match pInts s k a1 with
   | .ok (xs, a2) => .ok (x :: xs, a2)
   | .error c => .error c)
  | .error c => .error c
def pLabels (s : ByteArray) (a : Int) : Except Int (List Int × Int) := match pU32 s a with
 | .ok (n, a1) => if n ≥ 1024 then .error 1400 else pInts s (n.toNat + 1) a1
 | .error c => .error c
end Go.Proofs.YtkdoijfjceeblaaDoor.EInstr
namespace Go.Proofs.YtkdoijfjceeblaaDoor.EInstr
open Go Go.RowKit Go.Proofs.YtkdoijfjceeblaaDoor.F Go.Proofs.YtkdoijfjceeblaaDoorW.Hand Go.Proofs.YtkdoijfjceeblaaDoorW.PrintWords Go.Proofs.YtkdoijfjceeblaaDoorW.PrintLast Go.Proofs.YtkdoijfjceeblaaDoorW.PrintMore
open Go.Proofs.YtkdoijfjceeblaaDoor.LebMath (T T_lt T_nonneg T_last wrap64_eq)
open Go.Proofs.YtkdoijfjceeblaaDoor.LebFns (Fit byt mo byt_range)
open Go.Proofs.YtkdoijfjceeblaaDoor.LebGets (G G_ok G_err G_not gres hw scan_or)
open Go.Proofs.YtkdoijfjceeblaaDoor.LebGetS (GS GS_ok GS_err GS_not sres)
set_option linter.unusedVariables false
set_option linter.unusedSimpArgs false
theorem pNum_ok {r : Int × Int × Int} {x a1 : Int} (h : pNum r = .ok (x, a1)) : r = (x, a1, 0) := by
 unfold pNum at h
 split at h
 ·cases h
  obtain ⟨x, y, z⟩ := r
  simp at *
  assumption
 ·split at h <;> cases h
theorem G_at {s : ByteArray} {a b x a1 : Int} (h : G s a b = (x, a1, 0)) : a < a1 ∧ a1 ≤ s.size ∧ 0 ≤ a := by
 by_cases hf : Fit s a b
 ·rcases scan_or (byt s a) ((s.size : Int) - a).toNat (mo b) with ⟨n, h1, h2, h3, h4, _⟩ | ⟨h1, h2⟩
  ·rw [G_ok hf h4] at h
   unfold gres at h
   split at h
   ·simp at h
   ·simp only [Prod.mk.injEq] at h
    have := hf.2.1
    omega
  ·rw [G_err hf h1] at h
   simp only [Prod.mk.injEq] at h
   exact absurd h.2.2 h1
 ·rw [G_not hf] at h
  simp at h
theorem GS_at {s : ByteArray} {a b x a1 : Int} (h : GS s a b = (x, a1, 0)) : a < a1 ∧ a1 ≤ s.size ∧ 0 ≤ a := by
 by_cases hf : Fit s a b
 ·rcases scan_or (byt s a) ((s.size : Int) - a).toNat (mo b) with ⟨n, h1, h2, h3, h4, _⟩ | ⟨h1, h2⟩
  ·rw [GS_ok hf h4] at h
   unfold sres at h
   split at h
   ·simp at h
   ·simp only [Prod.mk.injEq] at h
    have := hf.2.1
    omega
  ·rw [GS_err hf h1] at h
   simp only [Prod.mk.injEq] at h
   exact absurd h.2.2 h1
 ·rw [GS_not hf] at h
  simp at h
theorem G_u32 {s : ByteArray} {a x a1 : Int} (h : G s a 32 = (x, a1, 0)) : 0 ≤ x ∧ x < 4294967296 := by
 by_cases hf : Fit s a 32
 ·rcases scan_or (byt s a) ((s.size : Int) - a).toNat (mo 32) with ⟨n, h1, h2, h3, h4, _⟩ | ⟨h1, h2⟩
  ·rw [G_ok hf h4] at h
   unfold gres at h
   split at h
   ·simp at h
   ·rename_i hno
    simp only [Prod.mk.injEq] at h
    have hn5 : n ≤ 5 := by simpa [mo] using h2
    have h0 := T_nonneg (byt s a) n 0
    have hlt : T (byt s a) 0 n < 4294967296 := by
     rcases Nat.lt_or_ge n 5 with h5 | h5
     ·have := T_lt (byt s a) n 0
      have : (128 : Int) ^ n ≤ 128 ^ 4 := by
       have : (128 : Nat) ^ n ≤ 128 ^ 4 := Nat.pow_le_pow_right (by omega) (by omega)
       exact_mod_cast this
      omega
     ·obtain rfl : n = 5 := by omega
      have hb := byt_range s a 4
      have h16 : byt s a 4 / 16 = 0 := by
       apply Classical.byContradiction
       intro hne
       exact hno ⟨by simp [mo], by simpa [hw] using hne⟩
      have e := T_last (byt s a) 4 0
      have h4' := T_lt (byt s a) 4 0
      rw [Nat.zero_add] at e
      rw [show (5 : Nat) = 4 + 1 from rfl, e]
      have : byt s a 4 % 128 ≤ 15 := by omega
      have e4 : (128 : Int) ^ 4 = 268435456 := by decide
      rw [e4] at h4' ⊢
      omega
    rw [wrap64_eq (by omega) (by omega)] at h
    omega
  ·rw [G_err hf h1] at h
   simp only [Prod.mk.injEq] at h
   exact absurd h.2.2 h1
 ·rw [G_not hf] at h
  simp at h
theorem pU32_ok {s : ByteArray} {a x a1 : Int} (h : pU32 s a = .ok (x, a1)) : a < a1 ∧ a1 ≤ s.size ∧ 0 ≤ a ∧ 0 ≤ x ∧ x < 4294967296 := by
 have h' := pNum_ok h
 exact ⟨(G_at h').1, (G_at h').2.1, (G_at h').2.2, G_u32 h'⟩
theorem pInts_ok {s : ByteArray} : ∀ (k : Nat) {a a1 : Int} {xs : List Int}, pInts s k a = .ok (xs, a1) → xs.length = k ∧ a ≤ a1 ∧ (a1 ≤ s.size ∨ a1 = a)
 | 0, a, a1, xs, h => by
  cases h
  exact ⟨rfl, Int.le_refl _, .inr rfl⟩
 | k + 1, a, a1, xs, h => by
  unfold pInts at h
  cases h1 : pU32 s a with
  | error c => rw [h1] at h; cases h
  | ok p =>
   obtain ⟨x, b⟩ := p
   rw [h1] at h
   simp only at h
   cases h2 : pInts s k b with
   | error c => rw [h2] at h; cases h
   | ok q =>
    obtain ⟨ys, b2⟩ := q
    rw [h2] at h
    cases h
    have r1 := pU32_ok h1
    have r2 := pInts_ok k h2
    exact ⟨by simp [r2.1], by omega, by omega⟩
theorem pLabels_ok {s : ByteArray} {a a1 : Int} {xs : List Int} (h : pLabels s a = .ok (xs, a1)) : a < a1 ∧ a1 ≤ s.size ∧ 0 ≤ a := by
 unfold pLabels at h
 cases h1 : pU32 s a with
 | error c => rw [h1] at h; cases h
 | ok p =>
  obtain ⟨x, b⟩ := p
  rw [h1] at h
  simp only at h
  split at h
  ·cases h
  ·have r1 := pU32_ok h1
   have r2 := pInts_ok _ h
   omega
theorem pLow_ok {s : ByteArray} : ∀ (k : Nat) {i : Nat} {x a y a1 : Int}, pLow s k i x a = .ok (y, a1) → 0 ≤ a → a1 = a + k ∧ (a1 ≤ s.size ∨ k = 0)
 | 0, i, x, a, y, a1, h, h0 => by
  cases h
  exact ⟨by simp, .inr rfl⟩
 | k + 1, i, x, a, y, a1, h, h0 => by
  unfold pLow at h
  cases h1 : pByte s a with
  | error c => rw [h1] at h; cases h
  | ok p =>
   obtain ⟨b, a2⟩ := p
   rw [h1] at h
   have r1 := pByte_ok h1
   have r2 := pLow_ok k h (by omega)
   exact ⟨by omega, .inl (by omega)⟩
theorem pNought_ok {s : ByteArray} {a a1 : Int} (h : pNought s a = .ok a1) : a < s.size ∧ a1 = a + 1 := by
 unfold pNought at h
 cases h1 : pByte s a with
 | error c => rw [h1] at h; cases h
 | ok p =>
  obtain ⟨b, a2⟩ := p
  rw [h1] at h
  simp only at h
  split at h
  ·cases h
   have := pByte_ok h1
   exact ⟨this.1, this.2.2⟩
  ·cases h
def preI (xs : List Int) (r : Except Int (List Int × Int)) : Except Int (List Int × Int) := match r with
 | .ok (ys, a) => .ok (xs ++ ys, a)
 | .error c => .error c
theorem preI_nil (r : Except Int (List Int × Int)) : preI [] r = r := by
 unfold preI
 split <;> rfl
theorem preI_next {s : ByteArray} {k : Nat} {a x a1 : Int} (xs : List Int) (h : pU32 s a = .ok (x, a1)) : preI xs (pInts s (k + 1) a) = preI (xs ++ [x]) (pInts s k a1) := by
 rw [pInts, h]
 simp only
 cases pInts s k a1 with
 | error c => rfl
 | ok p => simp [preI]
theorem preI_er {s : ByteArray} {k : Nat} {a c : Int} (xs : List Int) (h : pU32 s a = .error c) : preI xs (pInts s (k + 1) a) = .error c := by
 rw [pInts, h]
 rfl
def RowPost (g : Nat) (s : ByteArray) (m : Int) (W : World) (r : Except Int (List Int × Int)) (e : Ending) (w' : World) : Prop := match r with
 | .ok (xs, a1) => ∃ v, e = .returned v ∧ (Kd.int .i64).R 3 w' 0 (fun k => W.heap.size ≤ k) v xs ∧ RdAt g s a1 m w' ∧ Fr W w' (fun k => k = g)
 | .error c => Thrown c W (fun k => k = g) e w'
theorem rowPost_ok {g : Nat} {s : ByteArray} {m a1 : Int} {xs : List Int} {W w' : World} {r : Except Int (List Int × Int)} {e : Ending} {v : Value} (h : r = .ok (xs, a1)) (h1 : e = .returned v) (h0 : (Kd.int .i64).R 3 w' 0 (fun k => W.heap.size ≤ k) v xs) (h2 : RdAt g s a1 m w') (h3 : Fr W w' (fun k => k = g)) : RowPost g s m W r e w' := by
 subst h
 exact ⟨v, h1, h0, h2, h3⟩
theorem rowPost_er {g : Nat} {s : ByteArray} {m c : Int} {W w' : World} {r : Except Int (List Int × Int)} {e : Ending} (h : r = .error c) (ht : Thrown c W (fun k => k = g) e w') : RowPost g s m W r e w' := by
 subst h
 exact ht
theorem row_ok {P : Program} {f : FuncId} {args : Array Value} {g : Nat} {s : ByteArray} {m a1 : Int} {xs : List Int} {W : World} {r : Except Int (List Int × Int)} (h : Calls P f args W (RowPost g s m W r)) (hr : r = .ok (xs, a1)) : Calls P f args W fun e w' => ∃ v, e = .returned v ∧ (Kd.int .i64).R 3 w' 0 (fun k => W.heap.size ≤ k) v xs ∧ RdAt g s a1 m w' ∧ Fr W w' (fun k => k = g) := by
 subst hr
 exact h
theorem row_er {P : Program} {f : FuncId} {args : Array Value} {g : Nat} {s : ByteArray} {m c : Int} {W : World} {r : Except Int (List Int × Int)} (h : Calls P f args W (RowPost g s m W r)) (hr : r = .error c) : Calls P f args W (Thrown c W (fun k => k = g)) := by
 subst hr
 exact h
def RelLab (g : Nat) (s : ByteArray) (a m : Int) (many : Nat) (W : World) (v4 v12 : Value) (wr : World) : Prop :=
 ∃ (k : Nat) (xs : List Int) (a1 : Int) (v : Value), xs.length + k = many ∧ v12 = .int .i64 (xs.length : Int) ∧ v = v4 ∧ (Kd.int .i64).R 3 wr 0 (fun k => W.heap.size ≤ k) v xs ∧ RdAt g s a1 m wr ∧ Fr W wr (fun k => k = g) ∧ preI xs (pInts s k a1) = pInts s many a
theorem info3' : (Tryd.prog.info? 3).map (fun i => (i.zero, i.size, i.bytes)) = some (some (.int .i64 0), 1, 8) := by kernel_rfl
set_option maxHeartbeats 1000000 in
set_option maxRecDepth 100000 in
theorem labels_c {g : Nat} {s : ByteArray} {a m : Int} {W : World} (h : RdAt g s a m W) (hs : s.size ≤ 140737488355328) : Calls Tryd.prog 80 #[.pointer (some ⟨g, 0, none⟩)] W (RowPost g s m W (pLabels s a)) := by
 have H := am h
 have GL := am (blk_lt h)
 clear h
 unfold pLabels
 cases hr : pU32 s a with
 | error c =>
  have HR := am hr
  clear hr
  go_enter Tryd.func80, Tryd.ntmps80
  go_wp2_with (go_at_call 79; (with_reducible refine (as_er (u32r_c H.out hs) HR.out).mono ?_); rintro e w' ⟨rfl, h2⟩; have H2 := am h2; clear h2)
  exact ⟨rfl, rfl, H2.out⟩
 | ok p =>
  obtain ⟨n, a0⟩ := p
  have hN := pU32_ok hr
  have HR := am hr
  clear hr
  simp only
  by_cases hb : n ≥ 1024
  ·rw [if_pos hb]
   have db : decide (n ≥ 1024) = true := decide_eq_true hb
   have db2 : decide (1024 ≤ n) = true := decide_eq_true hb
   clear hN
   go_enter Tryd.func80, Tryd.ntmps80
   go_wp2_with (first | (go_at_call 79; (with_reducible refine (as_ok (u32r_c H.out hs) HR.out).mono ?_); rintro e w' ⟨rfl, h1, h2⟩; have H1 := am h1; have H2 := am h2; clear h1 h2) | (go_at_call 76; (with_reducible refine (bad_c _ _).mono ?_); rintro e w' ⟨rfl, rfl⟩))
   exact ⟨rfl, rfl, H2.out⟩
  ·rw [if_neg hb]
   have db : decide (n ≥ 1024) = false := decide_eq_false hb
   have db2 : decide (1024 ≤ n) = false := decide_eq_false hb
   obtain ⟨q, rfl⟩ : ∃ q : Nat, n = q := ⟨n.toNat, by omega⟩
   have hM2 : q + 1 ≤ 1024 := by omega
   have hM3 : (q : Int) ≤ 1023 := by omega
   rw [Int.toNat_natCast]
   clear hb hN
   go_enter Tryd.func80, Tryd.ntmps80
   go_wp2_with (first | (go_at_call 79; (with_reducible refine (as_ok (u32r_c H.out hs) HR.out).mono ?_); rintro e w' ⟨rfl, h1, h2⟩; have H1 := am h1; have H2 := am h2; clear h1 h2))
   go_loopw [4, 12] (fun v4 v12 wr => RelLab g s a0 m (q + 1) W v4 v12 wr) (fun _ v12 _ => (q + 1) - (intOf v12).toNat)
   case atStart => exact ⟨q + 1, [], a0, _, by simp, rfl, rfl, Kd.R_nil _ _ _ _ _, H1.out, H2.out, preI_nil _⟩
   case round =>
    obtain ⟨k, xs, a1, v4, hk, rfl, rfl, hO, hR, hF, hE⟩ := hrel
    have HO := am hO
    have HRd := am hR
    have HF := am hF
    have HE := am hE
    have HK := am hk
    clear hO hR hF hE
    by_cases hlt : xs.length < q + 1
    ·have dl : decide (xs.length < q + 1) = true := decide_eq_true hlt
     have dl2 : decide ((xs.length : Int) < (q : Int) + 1) = true := decide_eq_true (by omega)
     obtain ⟨j, rfl⟩ : ∃ j, k = j + 1 := ⟨k - 1, by omega⟩
     have w2 : wrap64 ((xs.length : Int) + 1) = (xs.length : Int) + 1 := by unfold wrap64; omega
     cases hu : pU32 s a1 with
     | error c =>
      have HU := am hu
      clear hu
      go_wp2_with (go_at_call 79; (with_reducible refine (as_er (u32r_c HRd.out hs) HU.out).mono ?_); rintro e w' ⟨rfl, g2⟩; have G2 := am g2; clear g2)
      exact ⟨rfl, rowPost_er (HE.out.symm.trans (preI_er _ HU.out)) ⟨rfl, HF.out.then_ G2.out (fun k hk => .inl hk)⟩⟩
     | ok q =>
      obtain ⟨x, a2⟩ := q
      have HU := am hu
      clear hu
      go_wp2_with (first
       | (go_at_call 79; (with_reducible refine (as_ok (u32r_c HRd.out hs) HU.out).mono ?_); rintro e w2 ⟨rfl, g1, g2⟩; have G1 := am g1; have O1 := am (Kd.R_step (Kd.R_types HO.out HRd.out (by decide)) (fun k hk hlt => g2.k.2 k hlt hk.2)); have G2 := am (HF.out.then_ g2 (fun k hk => .inl hk)); clear g1 g2 HO HRd HF)
       | ((with_reducible refine gate_builtin (b := .append) (xs := #[.tmp 14, .tmp 17]) rfl ?_); at_builtin; refine Kd.R_append (Kd.int .i64) (w0 := W) 0 rfl (.tmp 14) (.tmp 17) 25 3 (.int .i64 0) 8 rfl Tryd.underlying25 info3' rfl (by decide) (by decide) v4 xs x [.int .i64 x] (fun k => W.heap.size ≤ k) (fun _ => False) rfl rfl rfl (fun _ hk => hk.elim) (fun k hk => Nat.le_trans G2.out.size hk) (Kd.R_mono O1.out (fun _ hk => hk.1)) G2.out.b (Nat.zero_le _) (by omega) ?_; intro v5 w5 ho hb hg hat; have NE := Kd.R_ne O1.out G1.out (by decide); have G3 := am (blk_grown G1.out hg NE); have G4 := am (G2.out.then_ (Fr.grown hg (S := fun k => W.heap.size ≤ k) (fun k hk => (O1.out.1 k hk).1)) (fun k hk => .inr hk)); have O2 := am ho; clear ho hb hg hat NE O1 G1 G2))
      exact ⟨⟨j, xs ++ [x], a2, _, by have := HK.out; simp; omega, by simp, rfl, O2.out, G3.out, G4.out, (preI_next xs HU.out).symm.trans HE.out⟩, by simp [intOf]; omega⟩
    ·have dl : decide (xs.length < q + 1) = false := decide_eq_false hlt
     have dl2 : decide ((xs.length : Int) < (q : Int) + 1) = false := decide_eq_false (by omega)
     obtain rfl : k = 0 := by omega
     go_wp2
     go_ret
     exact rowPost_ok (HE.out.symm.trans (by simp [preI, pInts])) rfl HO.out HRd.out HF.out
end Go.Proofs.YtkdoijfjceeblaaDoor.EInstr
namespace Go.Proofs.YtkdoijfjceeblaaDoor.EInstr
open Go Go.RowKit Go.Proofs.YtkdoijfjceeblaaDoor.F Go.Proofs.YtkdoijfjceeblaaDoorW.Hand Go.Proofs.YtkdoijfjceeblaaDoorW.PrintWords Go.Proofs.YtkdoijfjceeblaaDoorW.PrintLast Go.Proofs.YtkdoijfjceeblaaDoorW.PrintMore
open Go.Proofs.YtkdoijfjceeblaaDoor.LebGets (G)
open Go.Proofs.YtkdoijfjceeblaaDoor.LebGetS (GS)
set_option linter.unusedVariables false
set_option linter.unusedSimpArgs false
abbrev LRes := Except Int (List S110 × Bool × Int × Int)
abbrev LFn := Int → Bool → Int → Int → LRes
abbrev ORes := Except Int (S110 × Int × Int)
def pBlock (s : ByteArray) (f : LFn) (op d a m : Int) : ORes :=
 if 32 ≤ d then .error 1402 else match pByte s a with
 | .error c => .error c
 | .ok (t, a1) => if typeB t = false then .error 1400 else match f (d + 1) (op == 4) a1 m with
  | .error c => .error c
  | .ok (body, more, a2, m2) => if more then (match f (d + 1) false a2 m2 with
    | .error c => .error c
    | .ok (els, _, a3, m3) => .ok (⟨op, 0, 0, 0, t, [], body, els⟩, a3, m3))
   else .ok (⟨op, 0, 0, 0, t, [], body, []⟩, a2, m2)
def oneI (r : Except Int (Int × Int)) (m : Int) (k : Int → S110) : ORes := match r with
 | .error c => .error c
 | .ok (x, a1) => .ok (k x, a1, m)
def pOne (s : ByteArray) (f : LFn) (op d a m : Int) : ORes :=
 if ofF op = 2 then pBlock s f op d a m
 else if ofF op = 3 then oneI (pU32 s a) m (fun x => ⟨op, x, 0, 0, 0, [], [], []⟩)
 else if ofF op = 4 then (match pLabels s a with
  | .error c => .error c
  | .ok (xs, a1) => .ok (⟨op, 0, 0, 0, 0, xs, [], []⟩, a1, m))
 else if ofF op = 5 then (match pU32 s a with
  | .error c => .error c
  | .ok (x, a1) => match pNought s a1 with
   | .error c => .error c
   | .ok a2 => .ok (⟨op, x, 0, 0, 0, [], [], []⟩, a2, m))
 else if ofF op = 6 then (match pU32 s a with
  | .error c => .error c
  | .ok (x, a1) => match pU32 s a1 with
   | .error c => .error c
   | .ok (y, a2) => .ok (⟨op, x, y, 0, 0, [], [], []⟩, a2, m))
 else if ofF op = 7 then (match pNought s a with
  | .error c => .error c
  | .ok a1 => .ok (⟨op, 0, 0, 0, 0, [], [], []⟩, a1, m))
 else if ofF op = 8 then (if wideB op = true then oneI (pNum (GS s a 64)) m (fun x => ⟨op, 0, 0, x, 0, [], [], []⟩) else oneI (pNum (GS s a 32)) m (fun x => ⟨op, 0, 0, x % 4294967296, 0, [], [], []⟩))
 else if ofF op = 9 then oneI (pLow s (if wideB op = true then 8 else 4) 0 0 a) m (fun x => ⟨op, 0, 0, x, 0, [], [], []⟩)
 else .ok (⟨op, 0, 0, 0, 0, [], [], []⟩, a, m)
def pList (s : ByteArray) : Nat → LFn
 | 0, _, _, _, _ => .error 0
 | n + 1, d, fol, a, m => match pByte s a with
  | .error c => .error c
  | .ok (op, a1) => if op = 11 then .ok ([], false, a1, m) else if op = 5 ∧ fol = true then .ok ([], true, a1, m) else if ofF op = 0 then .error 1403 else if 8192 < m + 1 then .error 1400
   else match pOne s (pList s n) op d a1 (m + 1) with
    | .error c => .error c
    | .ok (x, a2, m2) => match pList s n d fol a2 m2 with
     | .error c => .error c
     | .ok (xs, b, a3, m3) => .ok (x :: xs, b, a3, m3)
def LMon (s : ByteArray) (f : LFn) : Prop := ∀ d fol a m xs b a' m', f d fol a m = .ok (xs, b, a', m') → 0 ≤ a → m ≤ 8192 → a < a' ∧ a' ≤ s.size ∧ m ≤ m' ∧ m' ≤ 8192
theorem oneI_ok {r : Except Int (Int × Int)} {m a' m' : Int} {k : Int → S110} {x : S110} (h : oneI r m k = .ok (x, a', m')) : ∃ y, r = .ok (y, a') ∧ x = k y ∧ m' = m := by
 unfold oneI at h
 cases r with
 | error c => cases h
 | ok p =>
  obtain ⟨y, b⟩ := p
  cases h
  exact ⟨y, rfl, rfl, rfl⟩
theorem pBlock_mon {s : ByteArray} {f : LFn} (hf : LMon s f) {op d a m a' m' : Int} {x : S110} (h : pBlock s f op d a m = .ok (x, a', m')) (h0 : 0 ≤ a) (hm : m ≤ 8192) : a ≤ a' ∧ a' ≤ s.size ∧ m ≤ m' ∧ m' ≤ 8192 := by
 unfold pBlock at h
 split at h
 ·cases h
 cases h1 : pByte s a with
 | error c => rw [h1] at h; cases h
 | ok p =>
  obtain ⟨t, a1⟩ := p
  rw [h1] at h
  have r1 := pByte_ok h1
  simp only at h
  split at h
  ·cases h
  cases h2 : f (d + 1) (op == 4) a1 m with
  | error c => rw [h2] at h; cases h
  | ok p =>
   obtain ⟨body, more, a2, m2⟩ := p
   rw [h2] at h
   have r2 := hf _ _ _ _ _ _ _ _ h2 (by omega) hm
   simp only at h
   split at h
   ·cases h3 : f (d + 1) false a2 m2 with
    | error c => rw [h3] at h; cases h
    | ok p =>
     obtain ⟨els, b3, a3, m3⟩ := p
     rw [h3] at h
     have r3 := hf _ _ _ _ _ _ _ _ h3 (by omega) (by omega)
     cases h
     omega
   ·cases h
    omega
theorem pOne_mon {s : ByteArray} {f : LFn} (hf : LMon s f) {op d a m a' m' : Int} {x : S110} (h : pOne s f op d a m = .ok (x, a', m')) (h0 : 0 ≤ a) (hs : a ≤ s.size) (hm : m ≤ 8192) : a ≤ a' ∧ a' ≤ s.size ∧ m ≤ m' ∧ m' ≤ 8192 := by
 unfold pOne at h
 split at h
 ·exact pBlock_mon hf h h0 hm
 split at h
 ·obtain ⟨y, hy, _, rfl⟩ := oneI_ok h
  have := pU32_ok hy
  omega
 split at h
 ·cases h1 : pLabels s a with
  | error c => rw [h1] at h; cases h
  | ok p =>
   obtain ⟨xs, a1⟩ := p
   rw [h1] at h
   have := pLabels_ok h1
   cases h
   omega
 split at h
 ·cases h1 : pU32 s a with
  | error c => rw [h1] at h; cases h
  | ok p =>
   obtain ⟨y, a1⟩ := p
   rw [h1] at h
   simp only at h
   have r1 := pU32_ok h1
   cases h2 : pNought s a1 with
   | error c => rw [h2] at h; cases h
   | ok a2 =>
    rw [h2] at h
    have r2 := pNought_ok h2
    cases h
    omega
 split at h
 ·cases h1 : pU32 s a with
  | error c => rw [h1] at h; cases h
  | ok p =>
   obtain ⟨y, a1⟩ := p
   rw [h1] at h
   simp only at h
   have r1 := pU32_ok h1
   cases h2 : pU32 s a1 with
   | error c => rw [h2] at h; cases h
   | ok q =>
    obtain ⟨z, a2⟩ := q
    rw [h2] at h
    have r2 := pU32_ok h2
    cases h
    omega
 split at h
 ·cases h2 : pNought s a with
  | error c => rw [h2] at h; cases h
  | ok a2 =>
   rw [h2] at h
   have r2 := pNought_ok h2
   cases h
   omega
 split at h
 ·split at h
  ·obtain ⟨y, hy, _, rfl⟩ := oneI_ok h
   have := GS_at (pNum_ok hy)
   omega
  ·obtain ⟨y, hy, _, rfl⟩ := oneI_ok h
   have := GS_at (pNum_ok hy)
   omega
 split at h
 ·obtain ⟨y, hy, _, rfl⟩ := oneI_ok h
  have := pLow_ok _ hy h0
  split at this <;> omega
 ·cases h
  omega
theorem pList_mon (s : ByteArray) : ∀ n, LMon s (pList s n)
 | 0 => fun _ _ _ _ _ _ _ _ h => by cases h
 | n + 1 => fun d fol a m xs b a' m' h h0 hm => by
  have ih := pList_mon s n
  unfold pList at h
  cases h1 : pByte s a with
  | error c => rw [h1] at h; cases h
  | ok p =>
   obtain ⟨op, a1⟩ := p
   rw [h1] at h
   have r1 := pByte_ok h1
   simp only at h
   split at h
   ·cases h
    omega
   split at h
   ·cases h
    omega
   split at h
   ·cases h
   split at h
   ·cases h
   cases h2 : pOne s (pList s n) op d a1 (m + 1) with
   | error c => rw [h2] at h; cases h
   | ok p =>
    obtain ⟨x, a2, m2⟩ := p
    rw [h2] at h
    have r2 := pOne_mon ih h2 (by omega) (by omega) (by omega)
    simp only at h
    cases h3 : pList s n d fol a2 m2 with
    | error c => rw [h3] at h; cases h
    | ok q =>
     obtain ⟨ys, b3, a3, m3⟩ := q
     rw [h3] at h
     have r3 := ih _ _ _ _ _ _ _ _ h3 (by omega) (by omega)
     cases h
     omega
def preL (xs : List S110) (r : LRes) : LRes := match r with
 | .ok (ys, b, a, m) => .ok (xs ++ ys, b, a, m)
 | .error c => .error c
theorem preL_nil (r : LRes) : preL [] r = r := by
 unfold preL
 split <;> rfl
def ListPost (g : Nat) (s : ByteArray) (W : World) (r : LRes) (e : Ending) (w' : World) : Prop := match r with
 | .ok (xs, b, a1, m1) => ∃ v, e = .returned (.tuple #[v, .bool b]) ∧ k110.R 110 w' 0 (fun k => W.heap.size ≤ k) v xs ∧ RdAt g s a1 m1 w' ∧ Fr W w' (fun k => k = g)
 | .error c => Thrown c W (fun k => k = g) e w'
theorem listPost_ok {g : Nat} {s : ByteArray} {b : Bool} {m1 a1 : Int} {xs : List S110} {W w' : World} {r : LRes} {e : Ending} {v : Value} (h : r = .ok (xs, b, a1, m1)) (h1 : e = .returned (.tuple #[v, .bool b])) (h0 : k110.R 110 w' 0 (fun k => W.heap.size ≤ k) v xs) (h2 : RdAt g s a1 m1 w') (h3 : Fr W w' (fun k => k = g)) : ListPost g s W r e w' := by
 subst h
 exact ⟨v, h1, h0, h2, h3⟩
theorem listPost_er {g : Nat} {s : ByteArray} {c : Int} {W w' : World} {r : LRes} {e : Ending} (h : r = .error c) (ht : Thrown c W (fun k => k = g) e w') : ListPost g s W r e w' := by
 subst h
 exact ht
theorem list_ok {P : Program} {f : FuncId} {args : Array Value} {g : Nat} {s : ByteArray} {b : Bool} {m1 a1 : Int} {xs : List S110} {W : World} {r : LRes} (h : Calls P f args W (ListPost g s W r)) (hr : r = .ok (xs, b, a1, m1)) : Calls P f args W fun e w' => ∃ A c, e = .returned (.tuple #[.slice A xs.length c, .bool b]) ∧ k110.R 110 w' 0 (fun k => W.heap.size ≤ k) (.slice A xs.length c) xs ∧ RdAt g s a1 m1 w' ∧ Fr W w' (fun k => k = g) := by
 subst hr
 refine h.mono ?_
 rintro e w' ⟨v, rfl, h1, h2, h3⟩
 obtain ⟨A, c, rfl⟩ := Kd.R_slice h1
 exact ⟨A, c, rfl, h1, h2, h3⟩
theorem list_er {P : Program} {f : FuncId} {args : Array Value} {g : Nat} {s : ByteArray} {c : Int} {W : World} {r : LRes} (h : Calls P f args W (ListPost g s W r)) (hr : r = .error c) : Calls P f args W (Thrown c W (fun k => k = g)) := by
 subst hr
 exact h
def ListOk (s : ByteArray) (n : Nat) : Prop := ∀ (g : Nat) (W : World) (a m d : Int) (fol : Bool), RdAt g s a m W → 0 ≤ a → a ≤ s.size → (s.size : Int) - a < n → 0 ≤ m → m ≤ 8192 → 0 ≤ d → d ≤ 33 →
 Calls Tryd.prog 73 #[.pointer (some ⟨g, 0, none⟩), .int .i64 d, .bool fol] W (ListPost g s W (pList s n d fol a m))
theorem listOk_at {s : ByteArray} {n : Nat} (hl : ListOk s n) (g : Nat) (W : World) (a m d : Int) (fol : Bool) (h : RdAt g s a m W) (h0 : 0 ≤ a) (h1 : a ≤ s.size) (h2 : (s.size : Int) - a < n) (h3 : 0 ≤ m) (h4 : m ≤ 8192) (h5 : 0 ≤ d) (h6 : d ≤ 33) : Calls Tryd.prog 73 #[.pointer (some ⟨g, 0, none⟩), .int .i64 d, .bool fol] W (ListPost g s W (pList s n d fol a m)) := hl g W a m d fol h h0 h1 h2 h3 h4 h5 h6
def BlockPost (g gi : Nat) (s : ByteArray) (op : Int) (W : World) (r : ORes) (e : Ending) (w' : World) : Prop := match r with
 | .ok (x, a1, m1) => ∃ v6 v7, e = .returned (.tuple #[]) ∧ w'.heap[gi]? = some (.cells #[.int .i64 op, .int .i64 0, .int .i64 0, .int .i64 0, .int .i64 x.f4, .slice none 0 0, v6, v7] 110 (0, 0)) ∧ x = ⟨op, 0, 0, 0, x.f4, [], x.f6, x.f7⟩ ∧
   k110.R 110 w' 0 (fun k => W.heap.size ≤ k) v6 x.f6 ∧ k110.R 110 w' 0 (fun k => W.heap.size ≤ k) v7 x.f7 ∧ RdAt g s a1 m1 w' ∧ Fr W w' (fun k => k = g ∨ k = gi)
 | .error c => Thrown c W (fun k => k = g ∨ k = gi) e w'
theorem blockPost_ok {g gi : Nat} {s : ByteArray} {op m1 a1 : Int} {x : S110} {W w' : World} {r : ORes} {e : Ending} (v6 v7 : Value) (h : r = .ok (x, a1, m1)) (h1 : e = .returned (.tuple #[])) (h2 : w'.heap[gi]? = some (.cells #[.int .i64 op, .int .i64 0, .int .i64 0, .int .i64 0, .int .i64 x.f4, .slice none 0 0, v6, v7] 110 (0, 0))) (h3 : x = ⟨op, 0, 0, 0, x.f4, [], x.f6, x.f7⟩)
  (h4 : k110.R 110 w' 0 (fun k => W.heap.size ≤ k) v6 x.f6) (h5 : k110.R 110 w' 0 (fun k => W.heap.size ≤ k) v7 x.f7) (h6 : RdAt g s a1 m1 w') (h7 : Fr W w' (fun k => k = g ∨ k = gi)) : BlockPost g gi s op W r e w' := by
 subst h
 exact ⟨v6, v7, h1, h2, h3, h4, h5, h6, h7⟩
theorem blockPost_er {g gi : Nat} {s : ByteArray} {op c : Int} {W w' : World} {r : ORes} {e : Ending} (h : r = .error c) (ht : Thrown c W (fun k => k = g ∨ k = gi) e w') : BlockPost g gi s op W r e w' := by
 subst h
 exact ht
def OnePost (g : Nat) (s : ByteArray) (W : World) (r : ORes) (e : Ending) (w' : World) : Prop := match r with
 | .ok (x, a1, m1) => ∃ v5 v6 v7, e = .returned (.agg #[.int .i64 x.f0, .int .i64 x.f1, .int .i64 x.f2, .int .i64 x.f3, .int .i64 x.f4, v5, v6, v7]) ∧ k110.M w' 0 (fun k => W.heap.size ≤ k) x [.int .i64 x.f0, .int .i64 x.f1, .int .i64 x.f2, .int .i64 x.f3, .int .i64 x.f4, v5, v6, v7] ∧ RdAt g s a1 m1 w' ∧ Fr W w' (fun k => k = g)
 | .error c => Thrown c W (fun k => k = g) e w'
theorem onePost_er {g : Nat} {s : ByteArray} {c : Int} {W w' : World} {r : ORes} {e : Ending} (h : r = .error c) (ht : Thrown c W (fun k => k = g) e w') : OnePost g s W r e w' := by
 subst h
 exact ht
theorem one_er {P : Program} {f : FuncId} {args : Array Value} {g : Nat} {s : ByteArray} {c : Int} {W : World} {r : ORes} (h : Calls P f args W (OnePost g s W r)) (hr : r = .error c) : Calls P f args W (Thrown c W (fun k => k = g)) := by
 subst hr
 exact h
theorem one_ok {P : Program} {f : FuncId} {args : Array Value} {g : Nat} {s : ByteArray} {m1 a1 : Int} {x : S110} {W : World} {r : ORes} (h : Calls P f args W (OnePost g s W r)) (hr : r = .ok (x, a1, m1)) : Calls P f args W fun e w' => ∃ v5 v6 v7, e = .returned (.agg #[.int .i64 x.f0, .int .i64 x.f1, .int .i64 x.f2, .int .i64 x.f3, .int .i64 x.f4, v5, v6, v7]) ∧ k110.M w' 0 (fun k => W.heap.size ≤ k) x [.int .i64 x.f0, .int .i64 x.f1, .int .i64 x.f2, .int .i64 x.f3, .int .i64 x.f4, v5, v6, v7] ∧ RdAt g s a1 m1 w' ∧ Fr W w' (fun k => k = g) := by
 subst hr
 exact h
end Go.Proofs.YtkdoijfjceeblaaDoor.EInstr
namespace Go.Proofs.YtkdoijfjceeblaaDoor.EInstr
open Go Go.RowKit Go.Proofs.YtkdoijfjceeblaaDoor.F Go.Proofs.YtkdoijfjceeblaaDoorW.Hand Go.Proofs.YtkdoijfjceeblaaDoorW.PrintWords Go.Proofs.YtkdoijfjceeblaaDoorW.PrintLast Go.Proofs.YtkdoijfjceeblaaDoorW.PrintMore
open Go.Proofs.YtkdoijfjceeblaaDoor.LebGets (G)
open Go.Proofs.YtkdoijfjceeblaaDoor.LebGetS (GS)
set_option linter.unusedVariables false
set_option linter.unusedSimpArgs false
theorem ne_ge {g n k : Nat} (h : g < n) (hk : n ≤ k) : k ≠ g := by omega
theorem type_w (x : Int) (w : World) : Calls Tryd.prog 71 #[.int .i64 x] w fun e w' => e = .returned (.bool (typeB x)) ∧ Below w.heap.size w w' := (type_c x w).mono fun _ _ hh => ⟨hh.1, hh.2.below⟩
set_option maxHeartbeats 2000000 in
set_option maxRecDepth 100000 in
theorem block_calls {s : ByteArray} {n : Nat} (hl : ListOk s n) (hs : s.size ≤ 140737488355328) {g gi : Nat} {op a m d : Int} {W : World} (h : RdAt g s a m W) (hgi : W.heap[gi]? = some (.cells #[.int .i64 op, .int .i64 0, .int .i64 0, .int .i64 0, .int .i64 0, .slice none 0 0, .slice none 0 0, .slice none 0 0] 110 (0, 0))) (hne : g ≠ gi) (h0 : 0 ≤ a) (h1 : a ≤ s.size) (hf : (s.size : Int) - a < n) (hm0 : 0 ≤ m) (hm : m ≤ 8192) (hd0 : 0 ≤ d) (hd : d ≤ 33) :
  Calls Tryd.prog 78 #[.pointer (some ⟨g, 0, none⟩), .pointer (some ⟨gi, 0, none⟩), .int .i64 d] W (BlockPost g gi s op W (pBlock s (pList s n) op d a m)) := by
 have H := am h
 have KI := am hgi
 have NE := am hne
 clear h hgi hne
 unfold pBlock
 by_cases hd32 : 32 ≤ d
 ·rw [if_pos hd32]
  have dd : decide (d ≥ 32) = true := decide_eq_true hd32
  have dd2 : decide (32 ≤ d) = true := decide_eq_true hd32
  go_enter Tryd.func78, Tryd.ntmps78
  go_wp2_with (go_at_call 76; (with_reducible refine (bad_c _ _).mono ?_); rintro e w' ⟨rfl, rfl⟩)
  exact ⟨rfl, blockPost_er rfl ⟨rfl, Fr.refl _ _⟩⟩
 rw [if_neg hd32]
 have dd : decide (d ≥ 32) = false := decide_eq_false hd32
 have dd2 : decide (32 ≤ d) = false := decide_eq_false hd32
 have dw : wrap64 (d + 1) = d + 1 := by unfold wrap64; omega
 cases hb : pByte s a with
 | error c =>
  have HB := am hb
  clear hb
  simp only
  go_enter Tryd.func78, Tryd.ntmps78
  go_wp2_with (go_at_call 74; (with_reducible refine (as_er (byte_c H.out h0 hs) HB.out).mono ?_); rintro e w1 ⟨rfl, g2⟩; have F1 := am g2; clear g2)
  exact ⟨rfl, blockPost_er rfl ⟨rfl, F1.out.mono (fun k hk => .inl hk)⟩⟩
 | ok p =>
  obtain ⟨t, a1⟩ := p
  have ha1 := pByte_ok hb
  have HB := am hb
  clear hb
  simp only
  have ha2 : 0 ≤ a1 ∧ a1 ≤ s.size ∧ (s.size : Int) - a1 < n := by omega
  obtain ⟨hp0, hp1, hp2⟩ := ha2
  clear ha1
  cases ht : typeB t with
  | false =>
   rw [if_pos rfl]
   go_enter Tryd.func78, Tryd.ntmps78
   go_wp2_with (first | (go_at_call 74; (with_reducible refine (as_ok (byte_c H.out h0 hs) HB.out).mono ?_); rintro e w1 ⟨rfl, g1, g2⟩; have R1 := am g1; have F1 := am g2; have K1 := am (g2.block KI.out (fun h => NE.out h.symm)); clear g1 g2) | ((with_reducible refine gate_store (p := 14) rfl ?_); refine storeCell_event (g := gi) (j := 4) (x := .int .i64 t) rfl rfl rfl rfl rfl K1.out (by simp) (by kernel_rfl) rfl ?_; intro w2 hA hb ho hs; have K2 : Aside0 (w2.heap[gi]? = some (.cells #[.int .i64 op, .int .i64 0, .int .i64 0, .int .i64 0, .int .i64 t, .slice none 0 0, .slice none 0 0, .slice none 0 0] 110 (0, 0))) := ⟨hA⟩; have R2 : Aside0 (RdAt g s a1 m w2) := ⟨(ho g NE.out).trans R1.out⟩; have F2 : Aside0 (Fr W w2 (fun k => k = g ∨ k = gi)) := ⟨(F1.out.mono (fun k hk => .inl hk)).then_ (Fr.stored (S := fun k => k = gi) hb ho hs rfl) (fun k hk => .inl (.inr hk))⟩; have z4 : w2.cell? ⟨gi, 4, none⟩ = some (.int .i64 t) := blk_cell hA 4; have z0 : w2.cell? ⟨gi, 0, none⟩ = some (.int .i64 op) := blk_cell hA 0; clear hA hb ho hs R1 F1 K1) | (go_at_call 71; (with_reducible refine (type_w _ _).mono ?_); rintro e w3 ⟨rfl, g3⟩; have K3 := am (blk_below K2.out g3); have R3 : Aside0 (RdAt g s a1 m w3) := ⟨blk_below R2.out g3⟩; have F3 := am (F2.out.below g3); have y0 : w3.cell? ⟨gi, 0, none⟩ = some (.int .i64 op) := blk_cell K3.out 0; clear g3 z0 z4 K2 R2 F2) | (go_at_call 76; (with_reducible refine (bad_c _ _).mono ?_); rintro e w' ⟨rfl, rfl⟩))
   exact ⟨rfl, blockPost_er rfl ⟨rfl, F3.out⟩⟩
  | true =>
   rw [if_neg (by decide)]
   have P1 := am (show 0 ≤ a1 ∧ a1 ≤ s.size ∧ (s.size : Int) - a1 < n ∧ 0 ≤ m ∧ m ≤ 8192 ∧ 0 ≤ d + 1 ∧ d + 1 ≤ 33 by omega)
   cases hu : pList s n (d + 1) (op == 4) a1 m with
   | error c =>
    have HL1 := am hu
    clear hu
    simp only
    go_enter Tryd.func78, Tryd.ntmps78
    go_wp2_with (first | (go_at_call 74; (with_reducible refine (as_ok (byte_c H.out h0 hs) HB.out).mono ?_); rintro e w1 ⟨rfl, g1, g2⟩; have R1 := am g1; have F1 := am g2; have K1 := am (g2.block KI.out (fun h => NE.out h.symm)); clear g1 g2) | ((with_reducible refine gate_store (p := 14) rfl ?_); refine storeCell_event (g := gi) (j := 4) (x := .int .i64 t) rfl rfl rfl rfl rfl K1.out (by simp) (by kernel_rfl) rfl ?_; intro w2 hA hb ho hs; have K2 : Aside0 (w2.heap[gi]? = some (.cells #[.int .i64 op, .int .i64 0, .int .i64 0, .int .i64 0, .int .i64 t, .slice none 0 0, .slice none 0 0, .slice none 0 0] 110 (0, 0))) := ⟨hA⟩; have R2 : Aside0 (RdAt g s a1 m w2) := ⟨(ho g NE.out).trans R1.out⟩; have F2 : Aside0 (Fr W w2 (fun k => k = g ∨ k = gi)) := ⟨(F1.out.mono (fun k hk => .inl hk)).then_ (Fr.stored (S := fun k => k = gi) hb ho hs rfl) (fun k hk => .inl (.inr hk))⟩; have z4 : w2.cell? ⟨gi, 4, none⟩ = some (.int .i64 t) := blk_cell hA 4; have z0 : w2.cell? ⟨gi, 0, none⟩ = some (.int .i64 op) := blk_cell hA 0; clear hA hb ho hs R1 F1 K1) | (go_at_call 71; (with_reducible refine (type_w _ _).mono ?_); rintro e w3 ⟨rfl, g3⟩; have K3 := am (blk_below K2.out g3); have R3 : Aside0 (RdAt g s a1 m w3) := ⟨blk_below R2.out g3⟩; have F3 := am (F2.out.below g3); have y0 : w3.cell? ⟨gi, 0, none⟩ = some (.int .i64 op) := blk_cell K3.out 0; clear g3 z0 z4 K2 R2 F2) | (go_at_call 73; (with_reducible refine (list_er (listOk_at hl g w3 a1 m (d + 1) (op == 4) R3.out P1.out.1 P1.out.2.1 P1.out.2.2.1 P1.out.2.2.2.1 P1.out.2.2.2.2.1 P1.out.2.2.2.2.2.1 P1.out.2.2.2.2.2.2) HL1.out).mono ?_); rintro e w4 ⟨rfl, g2⟩; have F4 := am (F3.out.then_ g2 (fun k hk => .inl (.inl hk))); clear g2))
    exact ⟨rfl, blockPost_er rfl ⟨rfl, F4.out⟩⟩
   | ok p =>
    obtain ⟨body, more, a2, m2⟩ := p
    have hr := pList_mon s n _ _ _ _ _ _ _ _ hu hp0 hm
    have HL1 := am hu
    clear hu
    simp only
    have P2 := am (show 0 ≤ a2 ∧ a2 ≤ s.size ∧ (s.size : Int) - a2 < n ∧ 0 ≤ m2 ∧ m2 ≤ 8192 by omega)
    clear hr
    cases more with
    | false =>
     rw [if_neg (by decide)]
     go_enter Tryd.func78, Tryd.ntmps78
     go_wp2_with (first | (go_at_call 74; (with_reducible refine (as_ok (byte_c H.out h0 hs) HB.out).mono ?_); rintro e w1 ⟨rfl, g1, g2⟩; have R1 := am g1; have F1 := am g2; have K1 := am (g2.block KI.out (fun h => NE.out h.symm)); clear g1 g2) | ((with_reducible refine gate_store (p := 14) rfl ?_); refine storeCell_event (g := gi) (j := 4) (x := .int .i64 t) rfl rfl rfl rfl rfl K1.out (by simp) (by kernel_rfl) rfl ?_; intro w2 hA hb ho hs; have K2 : Aside0 (w2.heap[gi]? = some (.cells #[.int .i64 op, .int .i64 0, .int .i64 0, .int .i64 0, .int .i64 t, .slice none 0 0, .slice none 0 0, .slice none 0 0] 110 (0, 0))) := ⟨hA⟩; have R2 : Aside0 (RdAt g s a1 m w2) := ⟨(ho g NE.out).trans R1.out⟩; have F2 : Aside0 (Fr W w2 (fun k => k = g ∨ k = gi)) := ⟨(F1.out.mono (fun k hk => .inl hk)).then_ (Fr.stored (S := fun k => k = gi) hb ho hs rfl) (fun k hk => .inl (.inr hk))⟩; have z4 : w2.cell? ⟨gi, 4, none⟩ = some (.int .i64 t) := blk_cell hA 4; have z0 : w2.cell? ⟨gi, 0, none⟩ = some (.int .i64 op) := blk_cell hA 0; clear hA hb ho hs R1 F1 K1) | (go_at_call 71; (with_reducible refine (type_w _ _).mono ?_); rintro e w3 ⟨rfl, g3⟩; have K3 := am (blk_below K2.out g3); have R3 : Aside0 (RdAt g s a1 m w3) := ⟨blk_below R2.out g3⟩; have F3 := am (F2.out.below g3); have y0 : w3.cell? ⟨gi, 0, none⟩ = some (.int .i64 op) := blk_cell K3.out 0; clear g3 z0 z4 K2 R2 F2) | (go_at_call 73; (with_reducible refine (list_ok (listOk_at hl g w3 a1 m (d + 1) (op == 4) R3.out P1.out.1 P1.out.2.1 P1.out.2.2.1 P1.out.2.2.2.1 P1.out.2.2.2.2.1 P1.out.2.2.2.2.2.1 P1.out.2.2.2.2.2.2) HL1.out).mono ?_); rintro e w4 ⟨A6, c6, rfl, g1, g2, g3⟩; have B6 := am g1; have R4 := am g2; have K4 := am (g3.block K3.out (fun h => NE.out h.symm)); have F4 := am (F3.out.then_ g3 (fun k hk => .inl (.inl hk))); have WS := am F3.out.size; have LGi := am (blk_lt K3.out); have LGg := am (blk_lt R3.out); clear g1 g2 g3 y0 K3 R3 F3) | ((with_reducible refine gate_store (p := 36) rfl ?_); refine storeCell_event (g := gi) (j := 6) (x := .slice A6 body.length c6) rfl rfl rfl rfl rfl K4.out (by simp) (by kernel_rfl) rfl ?_; intro w5 hA hb ho hs; have K5 : Aside0 (w5.heap[gi]? = some (.cells #[.int .i64 op, .int .i64 0, .int .i64 0, .int .i64 0, .int .i64 t, .slice none 0 0, .slice A6 body.length c6, .slice none 0 0] 110 (0, 0))) := ⟨hA⟩; have R5 : Aside0 (RdAt g s a2 m2 w5) := ⟨(ho g NE.out).trans R4.out⟩; have F5 : Aside0 (Fr W w5 (fun k => k = g ∨ k = gi)) := ⟨F4.out.then_ (Fr.stored (S := fun k => k = gi) hb ho hs rfl) (fun k hk => .inl (.inr hk))⟩; have B7 := am (Kd.R_step B6.out (fun k hk _ => ho k (ne_ge LGi.out hk))); clear hA hb ho hs R4 F4 K4 B6))
     go_end0
     exact blockPost_ok _ _ rfl rfl K5.out rfl (Kd.R_mono B7.out (fun k hk => Nat.le_trans WS.out hk)) (Kd.R_nil _ _ _ _ _) R5.out F5.out
    | true =>
     rw [if_pos rfl]
     cases hv : pList s n (d + 1) false a2 m2 with
     | error c =>
      have HL2 := am hv
      clear hv
      simp only
      go_enter Tryd.func78, Tryd.ntmps78
      go_wp2_with (first | (go_at_call 74; (with_reducible refine (as_ok (byte_c H.out h0 hs) HB.out).mono ?_); rintro e w1 ⟨rfl, g1, g2⟩; have R1 := am g1; have F1 := am g2; have K1 := am (g2.block KI.out (fun h => NE.out h.symm)); clear g1 g2) | ((with_reducible refine gate_store (p := 14) rfl ?_); refine storeCell_event (g := gi) (j := 4) (x := .int .i64 t) rfl rfl rfl rfl rfl K1.out (by simp) (by kernel_rfl) rfl ?_; intro w2 hA hb ho hs; have K2 : Aside0 (w2.heap[gi]? = some (.cells #[.int .i64 op, .int .i64 0, .int .i64 0, .int .i64 0, .int .i64 t, .slice none 0 0, .slice none 0 0, .slice none 0 0] 110 (0, 0))) := ⟨hA⟩; have R2 : Aside0 (RdAt g s a1 m w2) := ⟨(ho g NE.out).trans R1.out⟩; have F2 : Aside0 (Fr W w2 (fun k => k = g ∨ k = gi)) := ⟨(F1.out.mono (fun k hk => .inl hk)).then_ (Fr.stored (S := fun k => k = gi) hb ho hs rfl) (fun k hk => .inl (.inr hk))⟩; have z4 : w2.cell? ⟨gi, 4, none⟩ = some (.int .i64 t) := blk_cell hA 4; have z0 : w2.cell? ⟨gi, 0, none⟩ = some (.int .i64 op) := blk_cell hA 0; clear hA hb ho hs R1 F1 K1) | (go_at_call 71; (with_reducible refine (type_w _ _).mono ?_); rintro e w3 ⟨rfl, g3⟩; have K3 := am (blk_below K2.out g3); have R3 : Aside0 (RdAt g s a1 m w3) := ⟨blk_below R2.out g3⟩; have F3 := am (F2.out.below g3); have y0 : w3.cell? ⟨gi, 0, none⟩ = some (.int .i64 op) := blk_cell K3.out 0; clear g3 z0 z4 K2 R2 F2) | (go_at_call 73; (with_reducible refine (list_er (listOk_at hl g w5 a2 m2 (d + 1) false R5.out P2.out.1 P2.out.2.1 P2.out.2.2.1 P2.out.2.2.2.1 P2.out.2.2.2.2 P1.out.2.2.2.2.2.1 P1.out.2.2.2.2.2.2) HL2.out).mono ?_); rintro e w6 ⟨rfl, g2⟩; have F6 := am (F5.out.then_ g2 (fun k hk => .inl (.inl hk))); clear g2) | (go_at_call 73; (with_reducible refine (list_ok (listOk_at hl g w3 a1 m (d + 1) (op == 4) R3.out P1.out.1 P1.out.2.1 P1.out.2.2.1 P1.out.2.2.2.1 P1.out.2.2.2.2.1 P1.out.2.2.2.2.2.1 P1.out.2.2.2.2.2.2) HL1.out).mono ?_); rintro e w4 ⟨A6, c6, rfl, g1, g2, g3⟩; have B6 := am g1; have R4 := am g2; have K4 := am (g3.block K3.out (fun h => NE.out h.symm)); have F4 := am (F3.out.then_ g3 (fun k hk => .inl (.inl hk))); have WS := am F3.out.size; have LGi := am (blk_lt K3.out); have LGg := am (blk_lt R3.out); clear g1 g2 g3 y0 K3 R3 F3) | ((with_reducible refine gate_store (p := 36) rfl ?_); refine storeCell_event (g := gi) (j := 6) (x := .slice A6 body.length c6) rfl rfl rfl rfl rfl K4.out (by simp) (by kernel_rfl) rfl ?_; intro w5 hA hb ho hs; have K5 : Aside0 (w5.heap[gi]? = some (.cells #[.int .i64 op, .int .i64 0, .int .i64 0, .int .i64 0, .int .i64 t, .slice none 0 0, .slice A6 body.length c6, .slice none 0 0] 110 (0, 0))) := ⟨hA⟩; have R5 : Aside0 (RdAt g s a2 m2 w5) := ⟨(ho g NE.out).trans R4.out⟩; have F5 : Aside0 (Fr W w5 (fun k => k = g ∨ k = gi)) := ⟨F4.out.then_ (Fr.stored (S := fun k => k = gi) hb ho hs rfl) (fun k hk => .inl (.inr hk))⟩; have B7 := am (Kd.R_step B6.out (fun k hk _ => ho k (ne_ge LGi.out hk))); clear hA hb ho hs R4 F4 K4 B6))
      exact ⟨rfl, blockPost_er rfl ⟨rfl, F6.out⟩⟩
     | ok q =>
      obtain ⟨els, more2, a3, m3⟩ := q
      have HL2 := am hv
      clear hv
      simp only
      go_enter Tryd.func78, Tryd.ntmps78
      go_wp2_with (first | (go_at_call 74; (with_reducible refine (as_ok (byte_c H.out h0 hs) HB.out).mono ?_); rintro e w1 ⟨rfl, g1, g2⟩; have R1 := am g1; have F1 := am g2; have K1 := am (g2.block KI.out (fun h => NE.out h.symm)); clear g1 g2) | ((with_reducible refine gate_store (p := 14) rfl ?_); refine storeCell_event (g := gi) (j := 4) (x := .int .i64 t) rfl rfl rfl rfl rfl K1.out (by simp) (by kernel_rfl) rfl ?_; intro w2 hA hb ho hs; have K2 : Aside0 (w2.heap[gi]? = some (.cells #[.int .i64 op, .int .i64 0, .int .i64 0, .int .i64 0, .int .i64 t, .slice none 0 0, .slice none 0 0, .slice none 0 0] 110 (0, 0))) := ⟨hA⟩; have R2 : Aside0 (RdAt g s a1 m w2) := ⟨(ho g NE.out).trans R1.out⟩; have F2 : Aside0 (Fr W w2 (fun k => k = g ∨ k = gi)) := ⟨(F1.out.mono (fun k hk => .inl hk)).then_ (Fr.stored (S := fun k => k = gi) hb ho hs rfl) (fun k hk => .inl (.inr hk))⟩; have z4 : w2.cell? ⟨gi, 4, none⟩ = some (.int .i64 t) := blk_cell hA 4; have z0 : w2.cell? ⟨gi, 0, none⟩ = some (.int .i64 op) := blk_cell hA 0; clear hA hb ho hs R1 F1 K1) | (go_at_call 71; (with_reducible refine (type_w _ _).mono ?_); rintro e w3 ⟨rfl, g3⟩; have K3 := am (blk_below K2.out g3); have R3 : Aside0 (RdAt g s a1 m w3) := ⟨blk_below R2.out g3⟩; have F3 := am (F2.out.below g3); have y0 : w3.cell? ⟨gi, 0, none⟩ = some (.int .i64 op) := blk_cell K3.out 0; clear g3 z0 z4 K2 R2 F2) | (go_at_call 73; (with_reducible refine (list_ok (listOk_at hl g w5 a2 m2 (d + 1) false R5.out P2.out.1 P2.out.2.1 P2.out.2.2.1 P2.out.2.2.2.1 P2.out.2.2.2.2 P1.out.2.2.2.2.2.1 P1.out.2.2.2.2.2.2) HL2.out).mono ?_); rintro e w6 ⟨A7, c7, rfl, g1, g2, g3⟩; have E6 := am g1; have R6 := am g2; have K6 := am (g3.block K5.out (fun h => NE.out h.symm)); have F6 := am (F5.out.then_ g3 (fun k hk => .inl (.inl hk))); have B8 := am (Kd.R_step B7.out (fun k hk hlt => g3.k.2 k hlt (ne_ge LGg.out hk))); have LG5 := am (blk_lt K5.out); have WS5 := am F5.out.size; clear g1 g2 g3 K5 R5 F5 B7) | (go_at_call 73; (with_reducible refine (list_ok (listOk_at hl g w3 a1 m (d + 1) (op == 4) R3.out P1.out.1 P1.out.2.1 P1.out.2.2.1 P1.out.2.2.2.1 P1.out.2.2.2.2.1 P1.out.2.2.2.2.2.1 P1.out.2.2.2.2.2.2) HL1.out).mono ?_); rintro e w4 ⟨A6, c6, rfl, g1, g2, g3⟩; have B6 := am g1; have R4 := am g2; have K4 := am (g3.block K3.out (fun h => NE.out h.symm)); have F4 := am (F3.out.then_ g3 (fun k hk => .inl (.inl hk))); have WS := am F3.out.size; have LGi := am (blk_lt K3.out); have LGg := am (blk_lt R3.out); clear g1 g2 g3 y0 K3 R3 F3) | ((with_reducible refine gate_store (p := 36) rfl ?_); refine storeCell_event (g := gi) (j := 6) (x := .slice A6 body.length c6) rfl rfl rfl rfl rfl K4.out (by simp) (by kernel_rfl) rfl ?_; intro w5 hA hb ho hs; have K5 : Aside0 (w5.heap[gi]? = some (.cells #[.int .i64 op, .int .i64 0, .int .i64 0, .int .i64 0, .int .i64 t, .slice none 0 0, .slice A6 body.length c6, .slice none 0 0] 110 (0, 0))) := ⟨hA⟩; have R5 : Aside0 (RdAt g s a2 m2 w5) := ⟨(ho g NE.out).trans R4.out⟩; have F5 : Aside0 (Fr W w5 (fun k => k = g ∨ k = gi)) := ⟨F4.out.then_ (Fr.stored (S := fun k => k = gi) hb ho hs rfl) (fun k hk => .inl (.inr hk))⟩; have B7 := am (Kd.R_step B6.out (fun k hk _ => ho k (ne_ge LGi.out hk))); clear hA hb ho hs R4 F4 K4 B6) | ((with_reducible refine gate_store (p := 47) rfl ?_); refine storeCell_event (g := gi) (j := 7) (x := .slice A7 els.length c7) rfl rfl rfl rfl rfl K6.out (by simp) (by kernel_rfl) rfl ?_; intro w7 hA hb ho hs; have K7 : Aside0 (w7.heap[gi]? = some (.cells #[.int .i64 op, .int .i64 0, .int .i64 0, .int .i64 0, .int .i64 t, .slice none 0 0, .slice A6 body.length c6, .slice A7 els.length c7] 110 (0, 0))) := ⟨hA⟩; have R7 : Aside0 (RdAt g s a3 m3 w7) := ⟨(ho g NE.out).trans R6.out⟩; have F7 : Aside0 (Fr W w7 (fun k => k = g ∨ k = gi)) := ⟨F6.out.then_ (Fr.stored (S := fun k => k = gi) hb ho hs rfl) (fun k hk => .inl (.inr hk))⟩; have B9 := am (Kd.R_step B8.out (fun k hk _ => ho k (ne_ge LGi.out hk))); have E7 := am (Kd.R_step E6.out (fun k hk _ => ho k (ne_ge LG5.out hk))); clear hA hb ho hs R6 F6 K6 B8 E6))
      go_end0
      exact blockPost_ok _ _ rfl rfl K7.out rfl (Kd.R_mono B9.out (fun k hk => Nat.le_trans WS.out hk)) (Kd.R_mono E7.out (fun k hk => Nat.le_trans WS5.out hk)) R7.out F7.out
end Go.Proofs.YtkdoijfjceeblaaDoor.EInstr
