/-
  The small functions of package instr and of its reference: what they compute, in plain terms.
-/
import Derived.Test.YtmofdpkddimmlaaFx0
import Derived.Test.YtmofdpkddimmlaaFx1
import Derived.Test.YtmofdpkddimmlaaFx2
import Derived.Test.YtmofdpkddimmlaaFx3
import Derived.Test.YtmofdpkddimmlaaWFr2
import Derived.BigQuiet
import Derived.Deep.QuietTactic
namespace Go.Proofs.Ytmofdpkddimmlaa.EInstr
open Go Go.RowKit Go.Proofs.Ytmofdpkddimmlaa.F Go.Proofs.YtmofdpkddimmlaaW.Hand Go.Proofs.YtmofdpkddimmlaaW.PrintWords Go.Proofs.YtmofdpkddimmlaaW.PrintLast Go.Proofs.YtmofdpkddimmlaaW.PrintMore
set_option linter.unusedVariables false
set_option linter.unusedSimpArgs false
/-- What stands behind an Op (0: it is none). -/
def ofF (op : Int) : Int :=
  if op = 0 ∨ op = 1 ∨ op = 15 ∨ op = 26 ∨ op = 27 ∨ (69 ≤ op ∧ op ≤ 191) then 1
  else if op = 2 ∨ op = 3 ∨ op = 4 then 2
  else if op = 12 ∨ op = 13 ∨ op = 16 ∨ (32 ≤ op ∧ op ≤ 36) then 3
  else if op = 14 then 4
  else if op = 17 then 5
  else if 40 ≤ op ∧ op ≤ 62 then 6
  else if op = 63 ∨ op = 64 then 7
  else if op = 65 ∨ op = 66 then 8
  else if op = 67 ∨ op = 68 then 9
  else 0
def formF (op : Int) : Int :=
  if op = 0 ∨ op = 1 ∨ op = 15 ∨ op = 26 ∨ op = 27 ∨ (69 ≤ op ∧ op ≤ 191) then 0
  else if op = 2 ∨ op = 3 then 1
  else if op = 4 then 2
  else if op = 12 ∨ op = 13 ∨ op = 16 ∨ (32 ≤ op ∧ op ≤ 36) then 3
  else if op = 14 then 4
  else if op = 17 then 5
  else if 40 ≤ op ∧ op ≤ 62 then 6
  else if op = 63 ∨ op = 64 then 7
  else if 65 ≤ op ∧ op ≤ 68 then 8
  else 9
def u32B (x : Int) : Bool := decide (0 ≤ x ∧ x ≤ 4294967295)
def typeB (x : Int) : Bool := decide (x = 64 ∨ (124 ≤ x ∧ x ≤ 127))
def tmayB (x : Int) : Bool := decide (124 ≤ x ∧ x ≤ 127)
def wideB (x : Int) : Bool := decide (x = 66 ∨ x = 68)
theorem dec_iff {p q : Prop} [Decidable p] [Decidable q] (h : p ↔ q) : decide p = decide q := by simp only [h]
set_option maxHeartbeats 4000000 in
theorem of_ev (op : Int) : instr_of.f 10 op = some (ofF op) := by
  unfold instr_of.f ofF
  by_cases h0 : op = 0 ∨ op = 1 ∨ op = 15 ∨ op = 26 ∨ op = 27
  · rcases h0 with rfl | rfl | rfl | rfl | rfl <;> rfl
  · have h1 : op ≠ 0 ∧ op ≠ 1 ∧ op ≠ 15 ∧ op ≠ 26 ∧ op ≠ 27 := by omega
    obtain ⟨a1, a2, a3, a4, a5⟩ := h1
    rw [if_neg a1, if_neg a2, if_neg a3, if_neg a4, if_neg a5]
    by_cases hA : 69 ≤ op ∧ op ≤ 191
    · rw [if_pos (by omega), if_pos (by omega), decide_eq_true hA.2]
      rfl
    · have e : (if op ≥ 69 then instr_of.j0 10 op (decide (op ≤ 191)) else instr_of.j0 10 op false) = instr_of.j0 10 op false := by
        split
        · rw [decide_eq_false (by omega)]
        · rfl
      rw [e, if_neg (by omega), instr_of.j0, if_neg (by decide)]
      by_cases hB : op = 2 ∨ op = 3 ∨ op = 4
      · rw [if_pos hB]
        rcases hB with rfl | rfl | rfl <;> rfl
      · have e : (if op = 2 then instr_of.j1 9 op true else if op = 3 then instr_of.j1 9 op true else instr_of.j1 9 op (op == 4)) = instr_of.j1 9 op false := by
          rw [if_neg (by omega), if_neg (by omega), show (op == 4) = false by rw [beq_eq_false_iff_ne]; omega]
        rw [e, if_neg hB, instr_of.j1, if_neg (by decide)]
        by_cases hC : op = 12 ∨ op = 13 ∨ op = 16 ∨ (32 ≤ op ∧ op ≤ 36)
        · rw [if_pos hC]
          by_cases c1 : op = 12
          · rw [if_pos c1]; rfl
          by_cases c2 : op = 13
          · rw [if_neg c1, if_pos c2]; rfl
          by_cases c3 : op = 16
          · rw [if_neg c1, if_neg c2, if_pos c3]; rfl
          rw [if_neg c1, if_neg c2, if_neg c3, if_pos (by omega), decide_eq_true (by omega)]
          rfl
        · have e : (if op = 12 then instr_of.j2 8 op true else if op = 13 then instr_of.j2 8 op true else if op = 16 then instr_of.j2 8 op true else if op ≥ 32 then instr_of.j2 8 op (decide (op ≤ 36)) else instr_of.j2 8 op false) = instr_of.j2 8 op false := by
            rw [if_neg (by omega), if_neg (by omega), if_neg (by omega)]
            split
            · rw [decide_eq_false (by omega)]
            · rfl
          rw [e, if_neg hC, instr_of.j2, if_neg (by decide)]
          by_cases c4 : op = 14
          · rw [if_pos c4, if_pos c4]
          rw [if_neg c4, if_neg c4]
          by_cases c5 : op = 17
          · rw [if_pos c5, if_pos c5]
          rw [if_neg c5, if_neg c5]
          by_cases c6 : 40 ≤ op ∧ op ≤ 62
          · rw [if_pos (by omega), if_pos c6, decide_eq_true c6.2]; rfl
          have e : (if op ≥ 40 then instr_of.j3 7 op (decide (op ≤ 62)) else instr_of.j3 7 op false) = instr_of.j3 7 op false := by
            split
            · rw [decide_eq_false (by omega)]
            · rfl
          rw [e, if_neg c6, instr_of.j3, if_neg (by decide)]
          by_cases c7 : op = 63
          · rw [if_pos c7, if_pos (Or.inl c7)]; rfl
          rw [if_neg c7]
          by_cases c8 : op = 64
          · rw [if_pos (Or.inr c8), c8]; rfl
          rw [show (op == 64) = false by rw [beq_eq_false_iff_ne]; exact c8, if_neg (by omega), instr_of.j4, if_neg (by decide)]
          by_cases c9 : op = 65
          · rw [if_pos c9, if_pos (Or.inl c9)]; rfl
          rw [if_neg c9]
          by_cases c10 : op = 66
          · rw [if_pos (Or.inr c10), c10]; rfl
          rw [show (op == 66) = false by rw [beq_eq_false_iff_ne]; exact c10, if_neg (by omega), instr_of.j5, if_neg (by decide)]
          by_cases c11 : op = 67
          · rw [if_pos c11, if_pos (Or.inl c11)]
          rw [if_neg c11]
          by_cases c12 : op = 68
          · rw [if_pos c12, if_pos (Or.inr c12)]
          rw [if_neg c12, if_neg (by omega)]
set_option maxHeartbeats 4000000 in
theorem form_ev (op : Int) : pelorusref12_form.f 10 op = some (formF op) := by
  unfold pelorusref12_form.f formF
  by_cases h0 : op = 0 ∨ op = 1 ∨ op = 15 ∨ op = 26 ∨ op = 27
  · rcases h0 with rfl | rfl | rfl | rfl | rfl <;> rfl
  · have h1 : op ≠ 0 ∧ op ≠ 1 ∧ op ≠ 15 ∧ op ≠ 26 ∧ op ≠ 27 := by omega
    obtain ⟨a1, a2, a3, a4, a5⟩ := h1
    rw [if_neg a1, if_neg a2, if_neg a3, if_neg a4, if_neg a5]
    by_cases hA : 69 ≤ op ∧ op ≤ 191
    · rw [if_pos (by omega), if_pos (by omega), decide_eq_true hA.2]
      rfl
    · have e : (if op ≥ 69 then pelorusref12_form.j0 10 op (decide (op ≤ 191)) else pelorusref12_form.j0 10 op false) = pelorusref12_form.j0 10 op false := by
        split
        · rw [decide_eq_false (by omega)]
        · rfl
      rw [e, if_neg (by omega), pelorusref12_form.j0, if_neg (by decide)]
      by_cases hB : op = 2 ∨ op = 3
      · rw [if_pos hB]
        rcases hB with rfl | rfl <;> rfl
      · have e : (if op = 2 then pelorusref12_form.j1 9 op true else pelorusref12_form.j1 9 op (op == 3)) = pelorusref12_form.j1 9 op false := by
          rw [if_neg (by omega), show (op == 3) = false by rw [beq_eq_false_iff_ne]; omega]
        rw [e, if_neg hB, pelorusref12_form.j1, if_neg (by decide)]
        by_cases c0 : op = 4
        · rw [if_pos c0, if_pos c0]
        rw [if_neg c0, if_neg c0]
        by_cases hC : op = 12 ∨ op = 13 ∨ op = 16 ∨ (32 ≤ op ∧ op ≤ 36)
        · rw [if_pos hC]
          by_cases c1 : op = 12
          · rw [if_pos c1]; rfl
          by_cases c2 : op = 13
          · rw [if_neg c1, if_pos c2]; rfl
          by_cases c3 : op = 16
          · rw [if_neg c1, if_neg c2, if_pos c3]; rfl
          rw [if_neg c1, if_neg c2, if_neg c3, if_pos (by omega), decide_eq_true (by omega)]
          rfl
        · have e : (if op = 12 then pelorusref12_form.j2 8 op true else if op = 13 then pelorusref12_form.j2 8 op true else if op = 16 then pelorusref12_form.j2 8 op true else if op ≥ 32 then pelorusref12_form.j2 8 op (decide (op ≤ 36)) else pelorusref12_form.j2 8 op false) = pelorusref12_form.j2 8 op false := by
            rw [if_neg (by omega), if_neg (by omega), if_neg (by omega)]
            split
            · rw [decide_eq_false (by omega)]
            · rfl
          rw [e, if_neg hC, pelorusref12_form.j2, if_neg (by decide)]
          by_cases c4 : op = 14
          · rw [if_pos c4, if_pos c4]
          rw [if_neg c4, if_neg c4]
          by_cases c5 : op = 17
          · rw [if_pos c5, if_pos c5]
          rw [if_neg c5, if_neg c5]
          by_cases c6 : 40 ≤ op ∧ op ≤ 62
          · rw [if_pos (by omega), if_pos c6, decide_eq_true c6.2]; rfl
          have e : (if op ≥ 40 then pelorusref12_form.j3 7 op (decide (op ≤ 62)) else pelorusref12_form.j3 7 op false) = pelorusref12_form.j3 7 op false := by
            split
            · rw [decide_eq_false (by omega)]
            · rfl
          rw [e, if_neg c6, pelorusref12_form.j3, if_neg (by decide)]
          by_cases c7 : op = 63
          · rw [if_pos c7, if_pos (Or.inl c7)]; rfl
          rw [if_neg c7]
          by_cases c8 : op = 64
          · rw [if_pos (Or.inr c8), c8]; rfl
          rw [show (op == 64) = false by rw [beq_eq_false_iff_ne]; exact c8, if_neg (by omega), pelorusref12_form.j4, if_neg (by decide)]
          by_cases c9 : 65 ≤ op ∧ op ≤ 68
          · rw [if_pos (by omega), if_pos c9.2, if_pos c9]
          · rw [if_neg c9]
            split
            · rw [if_neg (by omega)]
            · rfl
theorem of_c (op : Int) (w : World) : Calls Try.prog 76 #[.int .i64 op] w fun e w' => e = .returned (.int .i64 (ofF op)) ∧ Drawn0 w w' := instr_of.calls 10 op _ w (of_ev op)
theorem form_c (op : Int) (w : World) : Calls Try.prog 84 #[.int .i64 op] w fun e w' => e = .returned (.int .i64 (formF op)) ∧ Drawn0 w w' := pelorusref12_form.calls 10 op _ w (form_ev op)
theorem u32_ev (x : Int) : instr_u32.f x = some (u32B x) := by
  unfold instr_u32.f u32B
  split <;> simp <;> omega
theorem u32_c (x : Int) (w : World) : Calls Try.prog 81 #[.int .i64 x] w fun e w' => e = .returned (.bool (u32B x)) ∧ Drawn0 w w' := instr_u32.calls x _ w (u32_ev x)
theorem word_c (x : Int) (w : World) : Calls Try.prog 86 #[.int .i64 x] w fun e w' => e = .returned (.bool (u32B x)) ∧ Drawn0 w w' := pelorusref12_word.calls x _ w (u32_ev x)
theorem type_ev (x : Int) : instr_Type.f x = some (typeB x) := by
  unfold instr_Type.f typeB
  split
  · simp [*]
  · split
    · rw [Option.some.injEq]
      exact decide_eq_decide.2 (by omega)
    · rw [Option.some.injEq]
      exact (decide_eq_false (by omega)).symm
theorem type_c (x : Int) (w : World) : Calls Try.prog 73 #[.int .i64 x] w fun e w' => e = .returned (.bool (typeB x)) ∧ Drawn0 w w' := instr_Type.calls x _ w (type_ev x)
theorem tmay_ev (x : Int) : pelorusref4_TypeMay.f x = some (tmayB x) := by
  unfold pelorusref4_TypeMay.f tmayB
  split
  · rw [Option.some.injEq]
    exact decide_eq_decide.2 (by omega)
  · rw [Option.some.injEq]
    exact (decide_eq_false (by omega)).symm
theorem tmay_c (x : Int) (w : World) : Calls Try.prog 61 #[.int .i64 x] w fun e w' => e = .returned (.bool (tmayB x)) ∧ Drawn0 w w' := pelorusref4_TypeMay.calls x _ w (tmay_ev x)
theorem wide_ev (x : Int) : instr_wide.f x = some (wideB x) := by
  unfold instr_wide.f wideB
  split
  · simp [*]
  · rw [Option.some.injEq, Bool.eq_iff_iff]
    simp
    omega
theorem wide_c (x : Int) (w : World) : Calls Try.prog 82 #[.int .i64 x] w fun e w' => e = .returned (.bool (wideB x)) ∧ Drawn0 w w' := instr_wide.calls x _ w (wide_ev x)
/-- Is one of the labels no number of 32 bits? -/
def anyNo (l : List Int) : Bool := l.any fun x => !u32B x
theorem index_run (l : List Int) (hl : l.length ≤ 9223372036854775807) : ∀ d i, i + d = l.length → ∃ r, slices_IndexFunc_int_int.l0 (d + 1) l (l.length : Int) (i : Int) = some r ∧ (decide (r ≥ 0)) = anyNo (l.drop i) := by
  intro d
  induction d with
  | zero =>
    intro i hi
    rw [slices_IndexFunc_int_int.l0, if_neg (by omega)]
    refine ⟨-1, rfl, ?_⟩
    rw [List.drop_of_length_le (by omega)]
    rfl
  | succ d ih =>
    intro i hi
    have hlt : i < l.length := by omega
    rw [slices_IndexFunc_int_int.l0, if_pos (by omega), if_pos (by omega), if_pos (by omega), List.drop_eq_getElem_cons hlt]
    have hr : rd l (i : Int) = l[i] := by
      unfold rd
      rw [Int.toNat_natCast, List.getD_eq_getElem?_getD, List.getElem?_eq_getElem hlt]
      rfl
    rw [hr]
    unfold instr_may_1.f
    rw [u32_ev]
    simp only [Option.bind_some]
    cases hu : u32B l[i] with
    | false =>
      refine ⟨(i : Int), rfl, ?_⟩
      unfold anyNo
      rw [List.any_cons, hu]
      simp
    | true =>
      rw [if_neg (by decide), show wrap64 ((i : Int) + 1) = ((i + 1 : Nat) : Int) by unfold wrap64; omega]
      obtain ⟨r, h1, h2⟩ := ih (i + 1) (by omega)
      refine ⟨r, h1, ?_⟩
      rw [h2]
      unfold anyNo
      rw [List.any_cons, hu]
      rfl
theorem contains_c {w : World} {A : Option Addr} {c : Nat} {l : List Int} (hA : (Kd.int .i64).C w A l.length l) (hc : l.length ≤ c) :
    Calls Try.prog 60 #[.slice A l.length c, .func (.func 83) #[] #[]] w fun e w' => e = .returned (.bool (anyNo l)) ∧ Drawn0 w w' := by
  obtain ⟨r, h1, h2⟩ := index_run l (Kd.C_max hA) l.length 0 (by omega)
  exact slices_ContainsFunc_int_int.calls (l.length + 1) A c l () _ w hA hc (by
    unfold slices_ContainsFunc_int_int.f slices_IndexFunc_int_int.f
    rw [show slices_IndexFunc_int_int.l0 (l.length + 1) l (l.length : Int) 0 = some r from h1, Option.bind_some, h2, List.drop_zero])
end Go.Proofs.Ytmofdpkddimmlaa.EInstr
