/-
  Instructions with their depths, in the row of All; the first error among them; plain.
-/
import Derived.Test.YtmofdpkddimmlaaEMay
import Derived.Test.YtmofdpkddimmlaaERMay
import Derived.Test.YtmofdpkddimmlaaESame
namespace Go.Proofs.Ytmofdpkddimmlaa.EInstr
open Go Go.RowKit Go.Proofs.Ytmofdpkddimmlaa.F Go.Proofs.YtmofdpkddimmlaaW.PrintWords
open Go.Proofs.Ytmofdpkddimmlaa.ESame (size106)
set_option linter.unusedVariables false
set_option linter.unusedSimpArgs false
theorem of_form (op : Int) : (ofF op = 0 ↔ formF op = 9) ∧ (ofF op = 1 ↔ formF op = 0) ∧ (ofF op = 2 ↔ (formF op = 1 ∨ formF op = 2)) ∧ (ofF op = 3 ↔ formF op = 3) ∧ (ofF op = 4 ↔ formF op = 4) ∧ (ofF op = 5 ↔ formF op = 5) ∧ (ofF op = 6 ↔ formF op = 6) ∧ (ofF op = 7 ↔ formF op = 7) ∧ ((ofF op = 8 ∨ ofF op = 9) ↔ formF op = 8) ∧ (formF op = 2 ↔ op = 4) := by
  unfold ofF formF
  repeat' split
  all_goals omega
theorem rmay_eq (x : S106) : rmayB x = mayB x := by
  obtain ⟨e0, e1, e2, e3, e4, e5, e6, e7, e8, e9⟩ := of_form x.f0
  have h1 : x.f1 = 0 → u32B x.f1 = true := fun h => by rw [h]; decide
  have h2 : x.f2 = 0 → u32B x.f2 = true := fun h => by rw [h]; decide
  unfold rmayB mayB mayA mayC mayN mayT mayL mayI typeB tmayB
  rcases ofF_range x.f0 with hk | hk | hk | hk | hk | hk | hk | hk | hk | hk
  · have hf : formF x.f0 = 9 := by omega
    simp only [hk, hf]; grind
  · have hf : formF x.f0 = 0 := by omega
    simp only [hk, hf]; grind
  · by_cases h4 : x.f0 = 4
    · have hf : formF x.f0 = 2 := by omega
      simp only [hk, hf]; grind
    · have hf : formF x.f0 = 1 := by omega
      simp only [hk, hf]; grind
  · have hf : formF x.f0 = 3 := by omega
    simp only [hk, hf]; grind
  · have hf : formF x.f0 = 4 := by omega
    simp only [hk, hf]; grind
  · have hf : formF x.f0 = 5 := by omega
    simp only [hk, hf]; grind
  · have hf : formF x.f0 = 6 := by omega
    simp only [hk, hf]; grind
  · have hf : formF x.f0 = 7 := by omega
    simp only [hk, hf]; grind
  · have hf : formF x.f0 = 8 := by omega
    simp only [hk, hf]; grind
  · have hf : formF x.f0 = 8 := by omega
    simp only [hk, hf]; grind
/-- Each instruction with its depth, itself ahead of its blocks. -/
def pre (d : Nat) : List S106 → List (Nat × S106)
  | [] => []
  | x :: xs => (d, x) :: (pre (d + 1) x.f6 ++ pre (d + 1) x.f7 ++ pre d xs)
termination_by is => SizeOf.sizeOf is
decreasing_by
  all_goals
    have := size106 x
    simp only [List.cons.sizeOf_spec]
    omega
theorem pre_nil (d : Nat) : pre d [] = [] := by rw [pre]
theorem pre_cons (d : Nat) (x : S106) (xs : List S106) : pre d (x :: xs) = (d, x) :: (pre (d + 1) x.f6 ++ pre (d + 1) x.f7 ++ pre d xs) := by rw [pre]
theorem pre_append (d : Nat) (a b : List S106) : pre d (a ++ b) = pre d a ++ pre d b := by
  induction a with
  | nil => simp [pre_nil]
  | cons x a ih => simp [pre_cons, ih]
theorem pre_one (d : Nat) (x : S106) : pre d [x] = (d, x) :: (pre (d + 1) x.f6 ++ pre (d + 1) x.f7) := by simp [pre_cons, pre_nil]
/-- One step of May: the error of the n-th instruction met (n from 1 on). -/
def stepE (n : Nat) (e : Nat × S106) : Int := if ofF e.2.f0 = 2 ∧ 32 ≤ e.1 then 1402 else if 8192 < n ∨ mayB e.2 = false then 1400 else 0
/-- The same, of the reference. -/
def stepR (n : Nat) (e : Nat × S106) : Int := if 8192 < n then 1400 else if ofF e.2.f0 = 2 ∧ 32 ≤ e.1 then 1402 else if mayB e.2 = false then 1400 else 0
/-- The first error, n instructions having been met. -/
def scanE (f : Nat → Nat × S106 → Int) : Nat → List (Nat × S106) → Int
  | _, [] => 0
  | n, e :: r => if f (n + 1) e = 0 then scanE f (n + 1) r else f (n + 1) e
theorem scanE_cons (f : Nat → Nat × S106 → Int) (n : Nat) (e : Nat × S106) (r : List (Nat × S106)) : scanE f n (e :: r) = if f (n + 1) e = 0 then scanE f (n + 1) r else f (n + 1) e := rfl
theorem scanE_append (f : Nat → Nat × S106 → Int) (n : Nat) (a b : List (Nat × S106)) : scanE f n (a ++ b) = if scanE f n a = 0 then scanE f (n + a.length) b else scanE f n a := by
  induction a generalizing n with
  | nil => simp [scanE]
  | cons e a ih =>
    have h0 := scanE_cons f n e a
    rw [List.cons_append, scanE_cons]
    by_cases h : f (n + 1) e = 0
    · rw [if_pos h] at h0 ⊢
      rw [ih, h0, List.length_cons, show n + 1 + a.length = n + (a.length + 1) by omega]
    · rw [if_neg h] at h0 ⊢
      rw [h0, if_neg h]
theorem scanE_snoc (f : Nat → Nat × S106 → Int) (n : Nat) (a : List (Nat × S106)) (e : Nat × S106) (h : scanE f n a = 0) : scanE f n (a ++ [e]) = f (n + a.length + 1) e := by
  rw [scanE_append, if_pos h]
  simp only [scanE]
  split
  · rename_i h2; exact h2.symm
  · rfl
/-- What May answers. -/
def mayE (is : List S106) : Int := scanE stepE 0 (pre 0 is)
/-- What the reference's Checks answers. -/
def chkE (is : List S106) : Int := scanE stepR 0 (pre 0 is)
theorem step_zero (n : Nat) (e : Nat × S106) : stepE n e = 0 ↔ stepR n e = 0 := by
  unfold stepE stepR
  grind
theorem scan_zero (n : Nat) (l : List (Nat × S106)) : scanE stepE n l = 0 ↔ scanE stepR n l = 0 := by
  induction l generalizing n with
  | nil => simp [scanE]
  | cons e l ih =>
    simp only [scanE]
    have h := step_zero (n + 1) e
    by_cases h1 : stepE (n + 1) e = 0
    · rw [if_pos h1, if_pos (h.1 h1)]
      exact ih (n + 1)
    · rw [if_neg h1, if_neg (fun h2 => h1 (h.2 h2))]
      exact ⟨fun h2 => absurd h2 h1, fun h2 => absurd (h.2 h2) h1⟩
theorem may_chk (is : List S106) : mayE is = 0 ↔ chkE is = 0 := scan_zero 0 _
theorem scan_len {f : Nat → Nat × S106 → Int} (hf : ∀ n e, 8192 < n → f n e ≠ 0) : ∀ (l : List (Nat × S106)) (n : Nat), scanE f n l = 0 → n ≤ 8192 → n + l.length ≤ 8192
  | [], n, _, hn => by simpa using hn
  | e :: l, n, h, hn => by
    simp only [scanE] at h
    by_cases h1 : f (n + 1) e = 0
    · rw [if_pos h1] at h
      have h2 : n + 1 ≤ 8192 := by
        by_cases h3 : n + 1 ≤ 8192
        · exact h3
        · exact absurd h1 (hf _ e (by omega))
      have := scan_len hf l (n + 1) h h2
      simp only [List.length_cons]
      omega
    · rw [if_neg h1] at h
      exact absurd h h1
theorem stepE_big (n : Nat) (e : Nat × S106) (h : 8192 < n) : stepE n e ≠ 0 := by
  unfold stepE
  rw [if_pos (Or.inl h)]
  split <;> decide
theorem stepR_big (n : Nat) (e : Nat × S106) (h : 8192 < n) : stepR n e ≠ 0 := by
  unfold stepR
  rw [if_pos h]
  decide
end Go.Proofs.Ytmofdpkddimmlaa.EInstr
