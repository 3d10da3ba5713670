/-
  LebRow: numbers one behind the other are read one behind the other. Conditions: none beyond the statement's own reach.
-/
import Derived.Test.YtflejniglhjbfaaLebBacks
import Derived.Test.YtflejniglhjbfaaFx6
namespace Go.Proofs.Ytflejniglhjbfaa.Pure
open Go.RowKit Go.Proofs.Ytflejniglhjbfaa.F Go.Proofs.YtflejniglhjbfaaW.PrintWords Go.Proofs.YtflejniglhjbfaaW.PrintLast Go.Proofs.Ytflejniglhjbfaa.LebMath Go.Proofs.Ytflejniglhjbfaa.LebFns Go.Proofs.Ytflejniglhjbfaa.LebGets Go.Proofs.Ytflejniglhjbfaa.LebGetS Go.Proofs.Ytflejniglhjbfaa.LebBacks

theorem awake_evR : Ev (fun k => peloruslaw12_awake.f k) true := Ev.of peloruslaw12_awake.mono (k := 20) (by decide +kernel)
theorem wf_rangeR {x : Int} (h : (Lit.int .i64 x).wf = true) : -9223372036854775808 ≤ x ∧ x < 9223372036854775808 := by
  simp only [Lit.wf, IntKind.min, IntKind.max, IntKind.signed, IntKind.bits, Bool.and_eq_true, decide_eq_true_eq, if_true] at h
  omega
def PU (x : Int) : ByteArray := strOfNums (U 9 (x % 18446744073709551616))
def QS (x : Int) : ByteArray := strOfNums (S 9 x)
/-- What the first i numbers come to. -/
def BB (xs : List Int) : Nat → ByteArray
  | 0 => ⟨#[]⟩
  | i + 1 => BB xs i ++ PU (rd xs i) ++ QS (rd xs i)
theorem size_PU (x : Int) : (PU x).size ≤ 10 := by
  unfold PU; rw [size_str]; exact (U9 _ (by omega) (by omega)).2
theorem size_QS (x : Int) (h0 : -9223372036854775808 ≤ x) (h1 : x < 9223372036854775808) : (QS x).size ≤ 10 := by
  unfold QS; rw [size_str]; exact (S9 _ h0 h1).2
theorem size_BB (xs : List Int) (hw : ∀ i : Nat, i < 30 → -9223372036854775808 ≤ rd xs i ∧ rd xs i < 9223372036854775808) : ∀ i, i ≤ 30 → (BB xs i).size ≤ 20 * i
  | 0, _ => by simp [BB, ByteArray.size]
  | i + 1, h => by
    have h1 := size_BB xs hw i (by omega)
    have h2 := size_PU (rd xs i)
    have h3 := size_QS (rd xs i) (hw i (by omega)).1 (hw i (by omega)).2
    rw [BB, ByteArray.size_append, ByteArray.size_append]; omega
theorem BB_rest (xs : List Int) (m : Nat) : ∀ d i, i + d = m → ∃ R, BB xs m = BB xs i ++ R
  | 0, i, h => ⟨⟨#[]⟩, by rw [show m = i from by omega]; exact (ByteArray.append_empty).symm⟩
  | d + 1, i, h => by
    obtain ⟨R, hR⟩ := BB_rest xs m d (i + 1) (by omega)
    refine ⟨PU (rd xs i) ++ QS (rd xs i) ++ R, ?_⟩
    rw [hR, BB, ByteArray.append_assoc, ByteArray.append_assoc, ByteArray.append_assoc]
theorem mo64 : mo 64 = 10 := rfl
theorem aux_lt {i d m n : Nat} (h : i + (d + 1) = m) (hn : m ≤ n) : (i : Int) < (n : Int) := by omega
theorem size0 : (((⟨#[]⟩ : ByteArray).size : Nat) : Int) = 0 := rfl
theorem row_l1 (xs : List Int) (m : Nat) (hm : m ≤ 30) (hml : m ≤ xs.length) (hend : m = 30 ∨ m = xs.length) (hl : xs.length ≤ 9223372036854775806) (hw : ∀ i : Nat, i < 30 → -9223372036854775808 ≤ rd xs i ∧ rd xs i < 9223372036854775808) :
    ∀ (d i : Nat), i + d = m → Ev (fun k => peloruslaw12_LebRow.l1 k xs (BB xs m) (BB xs i).size i) true
  | 0, i, h => by
    obtain rfl : i = m := by omega
    have hz := size_BB xs hw i hm
    have j3 : Ev (fun k => peloruslaw12_LebRow.j3 k xs (BB xs i) (BB xs i).size i false) true := by
      refine Ev.step (fun k => by rw [peloruslaw12_LebRow.j3, if_neg (by simp)]) ?_
      have g1 := get_ev (BB xs i) (BB xs i).size 64 (by omega)
      have f1 : Fit (BB xs i) (BB xs i).size 64 := ⟨.inr rfl, by omega, by omega, by omega⟩
      have hs : scan (byt (BB xs i) (BB xs i).size) (((BB xs i).size : Int) - ((BB xs i).size : Int)).toNat (mo 64) 0 = (0, 1201) := by
        rw [mo64, show (((BB xs i).size : Int) - ((BB xs i).size : Int)).toNat = 0 from by omega]; exact scan_cut _ 0 10 0 (by omega) (by omega) (fun j _ h => by omega)
      rw [G_err f1 (by rw [hs]; decide), hs] at g1
      have g2 := get_ev (BB xs i) (((BB xs i).size : Int) + 1) 64 (by omega)
      rw [G_not (fun hf => by have := hf.2.2.1; omega)] at g2
      have hw1 : wrap64 (((BB xs i).size : Int) + 1) = ((BB xs i).size : Int) + 1 := wrap64_eq (by omega) (by omega)
      simp only [hw1]
      refine Ev.bind g1 (Ev.bind g2 ?_)
      simp only [if_true, peloruslaw0_Num.f, Option.bind_some]
      exact Ev.now true
    by_cases c : (i : Int) < (xs.length : Int)
    · refine Ev.step (fun k => by rw [peloruslaw12_LebRow.l1, if_pos c, show decide ((i : Int) < 30) = false from decide_eq_false (by omega)]) j3
    · refine Ev.step (fun k => by rw [peloruslaw12_LebRow.l1, if_neg c]) j3
  | d + 1, i, h => by
    obtain ⟨hx0, hx1⟩ := hw i (by omega)
    obtain ⟨R, hR⟩ := BB_rest xs m d (i + 1) (by omega)
    have hz := size_BB xs hw m hm
    obtain ⟨hu, hul⟩ := U9 (rd xs i % 18446744073709551616) (by omega) (by omega)
    obtain ⟨hs, hsl⟩ := S9 (rd xs i) hx0 hx1
    have e1 : BB xs m = BB xs i ++ strOfNums (U 9 (rd xs i % 18446744073709551616)) ++ (strOfNums (S 9 (rd xs i)) ++ R) := by
      rw [hR, BB, ByteArray.append_assoc, ByteArray.append_assoc, ByteArray.append_assoc]; rfl
    have e2 : BB xs m = (BB xs i ++ strOfNums (U 9 (rd xs i % 18446744073709551616))) ++ strOfNums (S 9 (rd xs i)) ++ R := by
      rw [hR, BB]; rfl
    have a1 : At (BB xs m) (BB xs i).size (U 9 (rd xs i % 18446744073709551616)) := by
      rw [e1]; exact at_mid _ _ _ hu.range (by rw [← e1]; omega)
    have a2 : At (BB xs m) (BB xs i ++ strOfNums (U 9 (rd xs i % 18446744073709551616))).size (S 9 (rd xs i)) := by
      rw [e2]; exact at_mid _ _ _ hs.range (by rw [← e2]; omega)
    have z1 : ((BB xs i ++ strOfNums (U 9 (rd xs i % 18446744073709551616))).size : Int) = ((BB xs i).size : Int) + ((U 9 (rd xs i % 18446744073709551616)).length : Int) := by
      rw [ByteArray.size_append, size_str]; omega
    have z2 : ((BB xs (i + 1)).size : Int) = ((BB xs i ++ strOfNums (U 9 (rd xs i % 18446744073709551616))).size : Int) + ((S 9 (rd xs i)).length : Int) := by
      rw [BB, ByteArray.size_append]; unfold PU QS; rw [size_str]; omega
    have g1 := get_ev (BB xs m) (BB xs i).size 64 (by omega)
    rw [get_u a1 hu (.inr ⟨rfl, by omega⟩) (by rw [mo64]; omega)] at g1
    have g2 := gets_ev (BB xs m) (BB xs i ++ strOfNums (U 9 (rd xs i % 18446744073709551616))).size 64 (by omega)
    rw [gets_s a2 hs (.inr ⟨rfl, hx0, hx1⟩) (by rw [mo64]; omega)] at g2
    have hval : wrap64 (rd xs i % 18446744073709551616) = rd xs i := by
      have := wrap64_idem (rd xs i % 18446744073709551616) (rd xs i) (by omega)
      rw [this]; exact wrap64_eq hx0 hx1
    have hw1 : wrap64 ((i : Int) + 1) = ((i + 1 : Nat) : Int) := by rw [wrap64_eq (by omega) (by omega)]; omega
    rw [hval, ← z1] at g1
    rw [← z2] at g2
    have ih := row_l1 xs m hm hml hend hl hw d (i + 1) (by omega)
    have c1 : (0 : Int) ≤ (i : Int) := Int.natCast_nonneg i
    have c2 : (i : Int) < (xs.length : Int) := aux_lt h hml
    have c3 : decide ((i : Int) < 30) = true := decide_eq_true (aux_lt h hm)
    refine Ev.step (f := fun k => peloruslaw12_LebRow.j3 k xs (BB xs m) (BB xs i).size i true) (fun k => by rw [peloruslaw12_LebRow.l1, if_pos c2, c3]) ?_
    refine Ev.step (fun k => by rw [peloruslaw12_LebRow.j3, if_pos rfl]) ?_
    refine Ev.bind g1 ?_
    refine Ev.bind g2 ?_
    simp only [if_pos c1, if_pos c2, if_true, peloruslaw0_Num.f, Option.bind_some, hw1]
    exact ih
theorem row_l0 (xs : List Int) (m : Nat) (hm : m ≤ 30) (hml : m ≤ xs.length) (hend : m = 30 ∨ m = xs.length) (hl : xs.length ≤ 9223372036854775806) (hw : ∀ i : Nat, i < 30 → -9223372036854775808 ≤ rd xs i ∧ rd xs i < 9223372036854775808) :
    ∀ (d i : Nat), i + d = m → Ev (fun k => peloruslaw12_LebRow.l0 k xs (BB xs i) i) true
  | 0, i, h => by
    obtain rfl : i = m := by omega
    have fin : Ev (fun k => peloruslaw12_LebRow.l1 k xs (BB xs i) 0 0) true := row_l1 xs i hm hml hend hl hw i 0 (Nat.zero_add i)
    have j1 : Ev (fun k => peloruslaw12_LebRow.j1 k xs (BB xs i) i false) true :=
      Ev.step (fun k => by rw [peloruslaw12_LebRow.j1, if_neg (by simp)]) fin
    by_cases c : (i : Int) < (xs.length : Int)
    · refine Ev.step (fun k => by rw [peloruslaw12_LebRow.l0, if_pos c, show decide ((i : Int) < 30) = false from decide_eq_false (by omega)]) j1
    · refine Ev.step (fun k => by rw [peloruslaw12_LebRow.l0, if_neg c]) j1
  | d + 1, i, h => by
    obtain ⟨hx0, hx1⟩ := hw i (by omega)
    have hz := size_BB xs hw i (by omega)
    have s1 := size_PU (rd xs i)
    have s2 := size_QS (rd xs i) hx0 hx1
    have ih := row_l0 xs m hm hml hend hl hw d (i + 1) (by omega)
    have hw1 : wrap64 ((i : Int) + 1) = ((i + 1 : Nat) : Int) := by rw [wrap64_eq (by omega) (by omega)]; omega
    refine Ev.step (f := fun k => peloruslaw12_LebRow.j1 k xs (BB xs i) i true) (fun k => by rw [peloruslaw12_LebRow.l0, if_pos (by omega), show decide ((i : Int) < 30) = true from decide_eq_true (by omega)]) ?_
    have c1 : (0 : Int) ≤ (i : Int) := by omega
    have c2 : (i : Int) < (xs.length : Int) := by omega
    refine Ev.step (fun k => by rw [peloruslaw12_LebRow.j1, if_pos rfl, if_pos c1, if_pos c2]) ?_
    refine Ev.bind (put_ev (rd xs i)) ?_
    have c3 : (BB xs i).size + (strOfNums (U 9 (rd xs i % 18446744073709551616))).size ≤ 9223372036854775807 := by
      have : (strOfNums (U 9 (rd xs i % 18446744073709551616))).size ≤ 10 := s1
      omega
    simp only [if_pos c3]
    refine Ev.bind (puts_ev (rd xs i) hx0 hx1) ?_
    have c4 : (BB xs i ++ strOfNums (U 9 (rd xs i % 18446744073709551616))).size + (strOfNums (S 9 (rd xs i))).size ≤ 9223372036854775807 := by
      have : (strOfNums (U 9 (rd xs i % 18446744073709551616))).size ≤ 10 := s1
      have : (strOfNums (S 9 (rd xs i))).size ≤ 10 := s2
      rw [ByteArray.size_append]; omega
    simp only [if_pos c4, hw1]
    exact ih
theorem LebRow : peloruslaw12_LebRow.Pure := by
  intro xs hl _ hwf
  unfold maxLen at hl
  refine Ev.rounds (g := fun k => peloruslaw12_LebRow.f k xs) ?_
  unfold peloruslaw12_LebRow.f
  refine Ev.bind awake_evR ?_
  simp only [if_true]
  have hw : ∀ i : Nat, i < 30 → -9223372036854775808 ≤ rd xs i ∧ rd xs i < 9223372036854775808 := by
    intro i _
    unfold rd
    rw [Int.toNat_natCast]
    by_cases c : i < xs.length
    · rw [List.getD_eq_getElem?_getD, List.getElem?_eq_getElem c]
      exact wf_rangeR (hwf _ (List.getElem_mem c))
    · rw [List.getD_eq_getElem?_getD, List.getElem?_eq_none (by omega)]
      exact ⟨by decide, by decide⟩
  rename_i h8
  have := row_l0 xs (min 30 xs.length) (by omega) (by omega) (by omega) (by omega) hw (min 30 xs.length) 0 (by omega)
  exact this

end Go.Proofs.Ytflejniglhjbfaa.Pure
