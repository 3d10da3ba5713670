/-
  FtypeMay, plain: no program in sight.
-/
import Derived.Test.YtmofdpkddimmlaaGxD
namespace Go.Proofs.Ytmofdpkddimmlaa.PureFty
open Go Go.RowKit Go.Proofs.Ytmofdpkddimmlaa.G Go.Proofs.YtmofdpkddimmlaaW.PrintWords Go.Proofs.YtmofdpkddimmlaaW.PrintLast
set_option linter.unusedSimpArgs false
set_option linter.unusedVariables false
theorem wrap_small (n : Nat) (h : n < 256) : IntKind.i64.wrap (n : Int) = (n : Int) := by
  have : ∀ n : Fin 256, IntKind.i64.wrap (n.val : Int) = (n.val : Int) := by decide +kernel
  exact this ⟨n, h⟩
theorem and_low (l : Int) (m : Nat) (hm : m = 64 ∨ m = 4 ∨ m = 256) : ∃ n : Nat, Go.bits .and .i64 l ((m : Int) - 1) = (n : Int) ∧ n < m := by
  have e : Go.bits .and .i64 l ((m : Int) - 1) = IntKind.i64.wrap ((BitVec.ofInt 64 l &&& BitVec.ofInt 64 ((m : Int) - 1)).toNat : Int) := rfl
  have h : (BitVec.ofInt 64 l &&& BitVec.ofInt 64 ((m : Int) - 1)).toNat < m := by
    rcases hm with rfl | rfl | rfl
    all_goals
      rw [BitVec.toNat_and]
      exact Nat.lt_succ_of_le (Nat.le_trans Nat.and_le_right (by decide))
  refine ⟨_, ?_, h⟩
  rw [e]
  generalize (BitVec.ofInt 64 l &&& BitVec.ofInt 64 ((m : Int) - 1)).toNat = n at h
  exact wrap_small n (by omega)
def PL (p : Nat) : List Int := (List.range p).map fun (i : Nat) => wrap64 (127 - Go.bits .and .i64 (i : Int) 3)
def RL (r : Nat) : List Int := List.replicate r 124
theorem PL_succ (i : Nat) : PL i ++ [wrap64 (127 - Go.bits .and .i64 (i : Int) 3)] = PL (i + 1) := by unfold PL; rw [List.range_succ]; simp
theorem RL_succ (i : Nat) : RL i ++ [124] = RL (i + 1) := by unfold RL; rw [List.replicate_succ']
theorem w1 (i : Nat) (h : i < 100) : wrap64 ((i : Int) + 1) = ((i + 1 : Nat) : Int) := by unfold wrap64; omega
theorem l1_run (K : Nat) (x2 : Int) (p r : Nat) (hr : r < 4) (P : List Int) : ∀ d i, i + d = r → peloruslaw17_FtypeMay.l1 (K + 1 + d) x2 p r i P (RL i) = peloruslaw17_FtypeMay.j2 K x2 p r (decide ((p : Int) ≤ 32) && decide ((r : Int) ≤ 1)) P (RL r) := by
  intro d
  induction d with
  | zero =>
    intro i hi
    obtain rfl : i = r := by omega
    rw [Nat.add_zero, peloruslaw17_FtypeMay.l1, if_neg (by omega)]
    by_cases h : (p : Int) ≤ 32
    · rw [if_pos h, decide_eq_true h, Bool.true_and]
    · rw [if_neg h, decide_eq_false h, Bool.false_and]
  | succ d ih =>
    intro i hi
    rw [← Nat.add_assoc, peloruslaw17_FtypeMay.l1, if_pos (by omega), if_pos (by unfold RL; rw [List.length_replicate]; omega), RL_succ, w1 i (by omega)]
    exact ih (i + 1) (by omega)
theorem l0_run (K : Nat) (x2 : Int) (p r : Nat) (hp : p < 64) (hr : r < 4) : ∀ d i, i + d = p → peloruslaw17_FtypeMay.l0 (K + 1 + r + 1 + d) x2 p r i (PL i) = peloruslaw17_FtypeMay.j2 K x2 p r (decide ((p : Int) ≤ 32) && decide ((r : Int) ≤ 1)) (PL p) (RL r) := by
  intro d
  induction d with
  | zero =>
    intro i hi
    obtain rfl : i = p := by omega
    rw [Nat.add_zero, peloruslaw17_FtypeMay.l0, if_neg (by omega)]
    exact l1_run K x2 i r hr (PL i) r 0 (by omega)
  | succ d ih =>
    intro i hi
    rw [← Nat.add_assoc, peloruslaw17_FtypeMay.l0, if_pos (by omega), if_pos (by unfold PL; rw [List.length_map, List.length_range]; omega), PL_succ, w1 i (by omega)]
    exact ih (i + 1) (by omega)
theorem may_t : ∀ p : Fin 64, ∀ r : Fin 4, ftype_May.f 130 (PL p.val) (RL r.val) = some (decide ((p.val : Int) ≤ 32) && decide ((r.val : Int) ≤ 1)) := by decide +kernel
theorem may_u : ∀ b : Fin 256, ftype_May.f 130 [] [(b.val : Int)] = some (decide ((b.val : Int) ≥ 124) && decide ((b.val : Int) ≤ 127)) := by decide +kernel
theorem same_t : ∀ p : Fin 64, ∀ r : Fin 4, ftype_Same.f 130 (PL p.val) (RL r.val) (PL p.val) (RL r.val) = some true := by decide +kernel
theorem same_b : ∀ b : Fin 256, ∀ r : Fin 4, slices_Equal_int_int.f 130 (RL r.val) [(b.val : Int)] = some (decide ((r.val : Int) = 1) && ((b.val : Int) == 124)) := by decide +kernel
theorem equal_p : ∀ p : Fin 64, slices_Equal_int_int.f 130 (PL p.val) [] = some (decide ((p.val : Int) = 0)) := by decide +kernel
theorem same_u (b p r : Nat) (hb : b < 256) (hp : p < 64) (hr : r < 4) : ftype_Same.f 130 (PL p) (RL r) [] [(b : Int)] = some (decide ((p : Int) = 0) && (decide ((r : Int) = 1) && ((b : Int) == 124))) := by
  unfold ftype_Same.f
  rw [equal_p ⟨p, hp⟩, Option.bind_some]
  by_cases h : (p : Int) = 0
  · rw [decide_eq_true h, if_pos rfl, same_b ⟨b, hb⟩ ⟨r, hr⟩]
    rfl
  · rw [decide_eq_false h, if_neg (by decide)]
    rfl
theorem j2_true (x2 : Int) (p r b : Nat) (hp : p < 64) (hr : r < 4) (hb : b < 256) (hx : Go.bits .and .i64 x2 255 = (b : Int)) : peloruslaw17_FtypeMay.j2 131 x2 p r (decide ((p : Int) ≤ 32) && decide ((r : Int) ≤ 1)) (PL p) (RL r) = some true := by
  rw [peloruslaw17_FtypeMay.j2, hx]
  simp only [Option.bind_some, may_t ⟨p, hp⟩ ⟨r, hr⟩, may_u ⟨b, hb⟩, same_t ⟨p, hp⟩ ⟨r, hr⟩, same_u b p r hb hp hr, peloruslaw0_Num.f, beq_self_eq_true, if_true]
  by_cases h1 : (b : Int) ≥ 124
  · simp only [h1, decide_true, Bool.true_and, beq_self_eq_true, if_true]
    by_cases h2 : p = 0
    · subst h2
      by_cases h3 : r = 1
      · subst h3
        simp
      · have h3' : ¬ (r : Int) = 1 := by omega
        simp [h3, h3']
    · have h2' : ¬ (p : Int) = 0 := by omega
      simp [h2, h2']
  · simp only [h1, decide_false, Bool.false_and, beq_self_eq_true, if_true, if_false]
    by_cases h2 : p = 0
    · subst h2
      by_cases h3 : r = 1
      · subst h3
        simp
      · have h3' : ¬ (r : Int) = 1 := by omega
        simp [h3, h3']
    · have h2' : ¬ (p : Int) = 0 := by omega
      simp [h2, h2']
theorem FtypeMay : peloruslaw17_FtypeMay.Pure := by
  intro a0 a1 a2 _ _ _
  obtain ⟨p, ep, hp⟩ := and_low a0 64 (.inl rfl)
  obtain ⟨r, er, hr⟩ := and_low a1 4 (.inr (.inl rfl))
  obtain ⟨b, eb, hb⟩ := and_low a2 256 (.inr (.inr rfl))
  refine ⟨131 + 1 + r + 1 + p, ?_⟩
  unfold peloruslaw17_FtypeMay.f peloruslaw17_awake.f
  rw [Option.bind_some, if_pos rfl, show Go.bits .and .i64 a0 63 = (p : Int) from ep, show Go.bits .and .i64 a1 3 = (r : Int) from er]
  exact (l0_run 131 a2 p r hp hr p 0 (by omega)).trans (j2_true a2 p r b hp hr hb eb)
end Go.Proofs.Ytmofdpkddimmlaa.PureFty
