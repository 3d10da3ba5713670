/-
  Package names by hand: Put, Get, May, over the library's ValidString; what they answer.
-/
import Derived.Test.YtflejniglhjbfaaDoorPureUtf8
import Derived.Test.YtflejniglhjbfaaDoorShelf
import Derived.Test.YtflejniglhjbfaaDoorWHand
namespace Go.Proofs.YtflejniglhjbfaaDoor.ENames
open Go Go.RowKit Go.Lib Go.Proofs.YtflejniglhjbfaaDoor.F Go.Proofs.YtflejniglhjbfaaDoorW.Hand Go.Proofs.YtflejniglhjbfaaDoorW.PrintWords Go.Proofs.YtflejniglhjbfaaDoorW.PrintLast Go.Proofs.YtflejniglhjbfaaDoorW.PrintMore Go.Proofs.YtflejniglhjbfaaDoor.LebMath Go.Proofs.YtflejniglhjbfaaDoor.LebFns Go.Proofs.YtflejniglhjbfaaDoor.LebGets Go.Proofs.YtflejniglhjbfaaDoor.Pure13
set_option linter.unusedVariables false
set_option linter.unusedSimpArgs false

def Tabs (w : World) : Prop := Utf8Tabs 0 1 w
theorem tabs_below {w w1 : World} (h : Tabs w) (hb : Below w.heap.size w w1) : Tabs w1 := Utf8Tabs_below h hb
def lebOf (x : Int) : ByteArray := strOfNums (U 9 (x % 18446744073709551616))
def nmay (s : ByteArray) : Bool := decide (s.size ≤ 64) && validD s.data.toList
def nput (s : ByteArray) : ByteArray × Int := if 64 < s.size then (⟨#[]⟩, 1301) else if validD s.data.toList then (lebOf s.size ++ s, 0) else (⟨#[]⟩, 1300)
def nget (s : ByteArray) (a : Int) : ByteArray × Int × Int :=
  if (G s a 32).2.2 ≠ 0 ∨ (G s a 32).1 > (s.size : Int) - (G s a 32).2.1 then (⟨#[]⟩, 0, 1300) else if (G s a 32).1 > 64 then (⟨#[]⟩, 0, 1301)
  else if validD (s.extract (G s a 32).2.1.toNat ((G s a 32).2.1.toNat + (G s a 32).1.toNat)).data.toList then (s.extract (G s a 32).2.1.toNat ((G s a 32).2.1.toNat + (G s a 32).1.toNat), (G s a 32).2.1 + (G s a 32).1, 0) else (⟨#[]⟩, 0, 1300)
theorem T5_lt (s : ByteArray) (a : Int) (n : Nat) (hn : n ≤ 5) : T (byt s a) 0 n < 128 ^ 5 := by
  have := T_lt (byt s a) n 0
  have h2 : (128 : Int) ^ n ≤ 128 ^ 5 := by
    rcases n with _ | _ | _ | _ | _ | _ | n <;> first | decide | omega
  omega
theorem G_form (s : ByteArray) (a : Int) : (∃ n p : Nat, G s a 32 = ((n : Int), (p : Int), 0) ∧ n < 34359738368 ∧ p ≤ s.size) ∨ ∃ e : Int, e ≠ 0 ∧ G s a 32 = (0, 0, e) := by
  by_cases hf : Fit s a 32
  · rcases scan_or (byt s a) ((s.size : Int) - a).toNat (mo 32) with ⟨n, h1, h2, h3, h4, _⟩ | ⟨h, _⟩
    · rw [G_ok hf h4]
      unfold gres
      obtain ⟨_, h0, hs, _⟩ := hf
      have h5 := T_nonneg (byt s a) n 0
      have h6 := T5_lt s a n h2
      by_cases c : n = mo 32 ∧ byt s a (n - 1) / hw 32 ≠ 0
      · rw [if_pos c]; exact .inr ⟨1200, by decide, rfl⟩
      · rw [if_neg c]
        refine .inl ⟨(T (byt s a) 0 n).toNat, (a + n).toNat, ?_, by omega, by omega⟩
        rw [wrap64_eq (by omega) (by omega)]
        congr 1
        · omega
        · congr 1; omega
    · exact .inr ⟨_, h, G_err hf h⟩
  · exact .inr ⟨1200, by decide, G_not hf⟩
theorem U_len : ∀ (d : Nat) (u : Int), (U d u).length ≤ d + 1
  | 0, u => by simp [U]
  | d + 1, u => by
    have := U_len d (u / 128)
    unfold U
    split <;> simp <;> omega
theorem strOfNums_size (l : List Int) : (strOfNums l).size = l.length := by simp [strOfNums, ByteArray.size]
theorem name_ev (s : ByteArray) (hz : s.size ≤ 140737488355328) : Ev (fun k => pelorusref12_Name.f k s) (nput s) := by
  unfold pelorusref12_Name.f nput
  by_cases h : 64 < s.size
  · simp only [if_pos (show (s.size : Int) > 64 by omega), if_pos h]
    exact Ev.now _
  · simp only [if_neg (show ¬ (s.size : Int) > 64 by omega), if_neg h]
    refine Ev.bind (utf8_ev s hz) ?_
    cases hv : validD s.data.toList
    · simp only [if_neg (show ¬ false = true by decide)]
      exact Ev.now _
    · simp only [if_true]
      refine Ev.bind (lebref_ev _) ?_
      have hu : (U 9 ((s.size : Int) % 18446744073709551616)).length ≤ 10 := U_len 9 _
      have hz2 : (strOfNums (U 9 ((s.size : Int) % 18446744073709551616))).size + s.size ≤ 9223372036854775807 := by
        rw [strOfNums_size]; omega
      simp only [if_pos hz2]
      exact Ev.now _
theorem may_ev (s : ByteArray) (hz : s.size ≤ 140737488355328) : Ev (fun k => pelorusref12_NameMay.f k s) (nmay s) := by
  unfold pelorusref12_NameMay.f nmay
  by_cases h : s.size ≤ 64
  · simp only [if_pos (show (s.size : Int) ≤ 64 by omega), decide_eq_true h, Bool.true_and]
    exact Ev.bind (utf8_ev s hz) (Ev.now _)
  · simp only [if_neg (show ¬ (s.size : Int) ≤ 64 by omega), decide_eq_false h, Bool.false_and]
    exact Ev.now _
theorem unname_ev (s : ByteArray) (a : Int) (hz : s.size ≤ 140737488355328) : Ev (fun k => pelorusref12_Unname.f k s a) (nget s a) := by
  unfold pelorusref12_Unname.f nget
  refine Ev.bind (unleb_ev s a 32 hz) ?_
  rcases G_form s a with ⟨n, p, hG, hn, hp⟩ | ⟨e, he, hG⟩
  · rw [hG]
    simp only [ne_eq, not_true_eq_false, false_or, if_true, Int.toNat_natCast]
    rw [wrap64_eq (x := (s.size : Int) - p) (by omega) (by omega)]
    by_cases h1 : (n : Int) > (s.size : Int) - p
    · rw [if_pos h1, decide_eq_true h1]
      exact Ev.step (f := fun _ => some _) (fun k => by rw [pelorusref12_Unname.j0, if_pos rfl]) (Ev.now _)
    · rw [if_neg h1, decide_eq_false h1]
      by_cases h2 : (n : Int) > 64
      · rw [if_pos h2]
        exact Ev.step (f := fun _ => some _) (fun k => by rw [pelorusref12_Unname.j0, if_neg (by decide), if_pos h2]) (Ev.now _)
      · rw [if_neg h2]
        have e1 : wrap64 ((p : Int) + n) = ((p + n : Nat) : Int) := by rw [wrap64_eq (by omega) (by omega)]; omega
        have hes : (s.extract p (p + n)).size ≤ 140737488355328 := by rw [ByteArray.size_extract]; omega
        refine Ev.step (fun k => by rw [pelorusref12_Unname.j0, if_neg (by decide), if_neg h2, if_pos (by omega), e1, if_pos (by omega), if_pos (by omega)]) (Ev.bind (utf8_ev (s.extract ((p : Int)).toNat (((p + n : Nat) : Int)).toNat) (by simp only [Int.toNat_natCast]; exact hes)) ?_)
        simp only [Int.toNat_natCast]
        cases hv : validD (s.extract p (p + n)).data.toList
        · simp only [if_neg (show ¬ false = true by decide)]
          exact Ev.now _
        · simp only [if_true, Int.natCast_add]
          exact Ev.now _
  · rw [hG]
    simp only [ne_eq, he, not_false_eq_true, true_or, if_true, if_neg he]
    exact Ev.step (f := fun _ => some (⟨#[]⟩, 0, 1300)) (fun k => by rw [if_neg not_false, pelorusref12_Unname.j0, if_pos rfl]) (Ev.now _)
end Go.Proofs.YtflejniglhjbfaaDoor.ENames
