/-
  FtypeImports: what the row hands in.
-/
import Derived.Test.YtmofdpkddimmlaaEFty8a
import Derived.Test.YtmofdpkddimmlaaEFty8b
import Derived.Test.YtmofdpkddimmlaaWOpen2
namespace Go.Proofs.Ytmofdpkddimmlaa.EFty
open Go Go.RowKit Go.Proofs.Ytmofdpkddimmlaa.F Go.Proofs.YtmofdpkddimmlaaW.Hand Go.Proofs.YtmofdpkddimmlaaW.Open2 Go.Proofs.YtmofdpkddimmlaaW.PrintWords Go.Proofs.YtmofdpkddimmlaaW.PrintLast Go.Proofs.YtmofdpkddimmlaaW.PrintMore
set_option linter.unusedVariables false
section
variable {H : Type} {enc : TypeId × Value → H} {w : World} {base : Nat} {spare : Nat → Bool} {held : Bool}
theorem o34 : Opens enc Try.prog w base spare held 34 (Kd.slice 3 (Kd.int .i64)) (fun _ => True) := (Opens.slice Try.underlying34 (by kernel_rfl) (by kernel_rfl) (Opens.int Try.underlying3) (B := 8)).mono fun _ _ => trivial
end
theorem imports_row {w : World} {ks : List Int} {ck : List Value} {own : Int} (h0 : (Kd.slice 3 (Kd.int .i64)).K w ks ck) : Calls Try.prog 7 #[ck.headD undef, .int .i64 own] w fun e w' => e = .returned (.bool true) ∧ Below w.heap.size w w' := by
  obtain ⟨A, c, rfl, hc, hK⟩ := h0
  obtain ⟨q, hq, hown⟩ := and7 own
  by_cases h : ks.length ≤ 20
  · exact imports_a w ks own q A c hK hc hq hown h
  · exact imports_b w ks own q A c hK hc hq hown (by omega)
end Go.Proofs.Ytmofdpkddimmlaa.EFty
