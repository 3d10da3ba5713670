/-
  The arguments of chapter 11's laws, as they are opened.
-/
import Derived.Test.YtmofdpkddimmlaaETraceNew
import Derived.Test.YtmofdpkddimmlaaWOpen2
namespace Go.Proofs.Ytmofdpkddimmlaa.ETrace
open Go Go.RowKit Go.Proofs.Ytmofdpkddimmlaa.F Go.Proofs.YtmofdpkddimmlaaW.Open2 Go.Proofs.YtmofdpkddimmlaaW.PrintWords
set_option linter.unusedVariables false
section
variable {H : Type} {enc : TypeId × Value → H} {w : World} {base : Nat} {spare : Nat → Bool} {held : Bool}
theorem o56 : Opens enc Try.prog w base spare held 56 k56 (fun _ => True) :=
  (((Opens.struct (d := Kd.pair (Kd.int .i64) (Kd.int .i64)) Try.underlying56 (FieldsOpen.cons (Opens.int Try.underlying3) rfl (FieldsOpen.last (Opens.int Try.underlying3) (by kernel_rfl) (by kernel_rfl)))).iso (fun x : S56 => (x.f0, x.f1)) (fun p => ⟨p.1, p.2⟩) (fun _ => rfl))).mono fun _ _ => trivial
theorem o24 : Opens enc Try.prog w base spare held 24 (Kd.slice 56 k56) (fun xs => xs.length * 16 ≤ 140737488351232) := (Opens.slice Try.underlying24 (by kernel_rfl) (by kernel_rfl) o56).mono fun _ h => h.1
theorem o27 : Opens enc Try.prog w base spare held 27 k27 (fun xs => xs.length * 16 ≤ 140737488351232) := Opens.struct Try.underlying27 (FieldsOpen.last o24 (by kernel_rfl) (by kernel_rfl))
theorem o22 : Opens enc Try.prog w base spare held 22 (Kd.slice 27 k27) (fun an => an.length * 24 ≤ 140737488351232 ∧ ∀ x, x ∈ an → x.length * 16 ≤ 140737488351232) := (Opens.slice Try.underlying22 (by kernel_rfl) (by kernel_rfl) o27).mono fun _ h => h
end
end Go.Proofs.Ytmofdpkddimmlaa.ETrace
