/-
  awake of chapter 17, in the form that the print's texts use.
-/
import Derived.Test.YtmofdpkddimmlaaEFty5
set_option linter.unusedVariables false
namespace Go.Proofs.Ytmofdpkddimmlaa.G
open Go Go.RowKit Go.Proofs.YtmofdpkddimmlaaW.PrintWords
def peloruslaw17_awake.f (k : Nat) : Option Bool := some true
theorem peloruslaw17_awake.mono : ∀ k, LeO (peloruslaw17_awake.f k) (peloruslaw17_awake.f (k + 1)) := fun _ => LeO.refl _
theorem peloruslaw17_awake.calls (k : Nat) (r : Bool) (w : World) (h : peloruslaw17_awake.f k = some r) : Calls Try.prog 39 #[] w fun e w' => e = .returned (.bool r) ∧ Below w.heap.size w w' := by
  cases h
  exact EFty.awake_calls w
end Go.Proofs.Ytmofdpkddimmlaa.G
