/-
  InstrOps: the walk.
-/
import Derived.Test.YtbekfmeaeaghpaaELawOps1
import Derived.Test.YtbekfmeaeaghpaaELawOps2
namespace Go.Proofs.Ytbekfmeaeaghpaa.EInstr
open Go Go.RowKit Go.Proofs.Ytbekfmeaeaghpaa.F Go.Proofs.YtbekfmeaeaghpaaW.Hand Go.Proofs.YtbekfmeaeaghpaaW.PrintWords Go.Proofs.YtbekfmeaeaghpaaW.PrintLast Go.Proofs.YtbekfmeaeaghpaaW.PrintMore
open Go.Proofs.YtbekfmeaeaghpaaW.Byt
set_option linter.unusedVariables false
set_option linter.unusedSimpArgs false
theorem ops_calls (W : World) (z : Int) : Calls Try.prog 7 #[.int .i64 z] W fun e w' => e = .returned (.bool true) ∧ Below W.heap.size W w' := by
  have hz := LebMath.and_mask z 8 (by omega) 255 rfl
  rw [show ((2 ^ 8 : Nat) : Int) = 256 from rfl] at hz
  have h0 : 0 ≤ z % 256 ∧ z % 256 < 256 := by omega
  generalize z % 256 = o at *
  by_cases h : 0 ≤ o ∧ o ≤ 0
  · exact ops_0 W (.inl h) hz
  by_cases h : 1 ≤ o ∧ o ≤ 1
  · exact ops_0 W (.inr (.inl h)) hz
  by_cases h : 2 ≤ o ∧ o ≤ 4
  · exact ops_1 W h hz
  by_cases h : 5 ≤ o ∧ o ≤ 10
  · exact ops_2 W (.inl h) hz
  by_cases h : 11 ≤ o ∧ o ≤ 11
  · exact ops_3 W h hz
  by_cases h : 12 ≤ o ∧ o ≤ 12
  · exact ops_4 W (.inl h) hz
  by_cases h : 13 ≤ o ∧ o ≤ 13
  · exact ops_4 W (.inr (.inl h)) hz
  by_cases h : 14 ≤ o ∧ o ≤ 14
  · exact ops_5 W h hz
  by_cases h : 15 ≤ o ∧ o ≤ 15
  · exact ops_0 W (.inr (.inr (.inl h))) hz
  by_cases h : 16 ≤ o ∧ o ≤ 16
  · exact ops_4 W (.inr (.inr (.inl h))) hz
  by_cases h : 17 ≤ o ∧ o ≤ 17
  · exact ops_6 W h hz
  by_cases h : 18 ≤ o ∧ o ≤ 25
  · exact ops_2 W (.inr (.inl h)) hz
  by_cases h : 26 ≤ o ∧ o ≤ 26
  · exact ops_0 W (.inr (.inr (.inr (.inl h)))) hz
  by_cases h : 27 ≤ o ∧ o ≤ 27
  · exact ops_0 W (.inr (.inr (.inr (.inr (.inl h))))) hz
  by_cases h : 28 ≤ o ∧ o ≤ 31
  · exact ops_2 W (.inr (.inr (.inl h))) hz
  by_cases h : 32 ≤ o ∧ o ≤ 36
  · exact ops_4 W (.inr (.inr (.inr h))) hz
  by_cases h : 37 ≤ o ∧ o ≤ 39
  · exact ops_2 W (.inr (.inr (.inr (.inl h)))) hz
  by_cases h : 40 ≤ o ∧ o ≤ 62
  · exact ops_7 W h hz
  by_cases h : 63 ≤ o ∧ o ≤ 63
  · exact ops_8 W (.inl h) hz
  by_cases h : 64 ≤ o ∧ o ≤ 64
  · exact ops_8 W (.inr h) hz
  by_cases h : 65 ≤ o ∧ o ≤ 65
  · exact ops_9 W (.inl h) hz
  by_cases h : 66 ≤ o ∧ o ≤ 66
  · exact ops_9 W (.inr h) hz
  by_cases h : 67 ≤ o ∧ o ≤ 67
  · exact ops_10 W h hz
  by_cases h : 68 ≤ o ∧ o ≤ 68
  · exact ops_11 W h hz
  by_cases h : 69 ≤ o ∧ o ≤ 191
  · exact ops_0 W (.inr (.inr (.inr (.inr (.inr h))))) hz
  by_cases h : 192 ≤ o ∧ o ≤ 255
  · exact ops_2 W (.inr (.inr (.inr (.inr h)))) hz
  exfalso
  omega
end Go.Proofs.Ytbekfmeaeaghpaa.EInstr
