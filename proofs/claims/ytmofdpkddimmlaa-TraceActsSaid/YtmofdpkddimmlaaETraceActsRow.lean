/-
  TraceActs' statement, from arguments as they are opened.
-/
import Derived.Test.YtmofdpkddimmlaaETraceActs
import Derived.Test.YtmofdpkddimmlaaETraceOpen
namespace Go.Proofs.Ytmofdpkddimmlaa.ETrace
open Go Go.RowKit Go.Proofs.Ytmofdpkddimmlaa.F Go.Proofs.YtmofdpkddimmlaaW.Open2 Go.Proofs.YtmofdpkddimmlaaW.PrintWords
set_option linter.unusedVariables false
section
variable {H : Type} {enc : TypeId × Value → H} {w : World} {base : Nat} {spare : Nat → Bool} {held : Bool}
theorem o34 : Opens enc Try.prog w base spare held 34 (Kd.slice 3 (Kd.int .i64)) (fun _ => True) := (Opens.slice Try.underlying34 (by kernel_rfl) (by kernel_rfl) (Opens.int Try.underlying3) (B := 8)).mono fun _ _ => trivial
theorem o36 : Opens enc Try.prog w base spare held 36 (Kd.pair (Kd.slice 3 (Kd.int .i64)) (Kd.slice 3 (Kd.int .i64))) (fun _ => True) :=
  (Opens.struct Try.underlying36 (FieldsOpen.cons o34 rfl (FieldsOpen.last o34 (by kernel_rfl) (by kernel_rfl)))).mono fun _ _ => trivial
set_option maxRecDepth 100000 in
theorem o38 : Opens enc Try.prog w base spare held 38 kAc (fun x => x.args.length * 16 ≤ 140737488351232) :=
  ((Opens.struct (d := Kd.pair (Kd.int .i64) (Kd.pair (Kd.pair (Kd.slice 3 (Kd.int .i64)) (Kd.slice 3 (Kd.int .i64))) (Kd.slice 56 k56))) Try.underlying38 (FieldsOpen.cons (Opens.int Try.underlying3) rfl (FieldsOpen.cons o36 rfl (FieldsOpen.last o24 (by kernel_rfl) (by kernel_rfl))))).iso (fun x : Ac => (x.fn, ((x.ps, x.rs), x.args))) (fun p => ⟨p.1, p.2.1.1, p.2.1.2, p.2.2⟩) (fun _ => rfl)).mono fun x h => (show _ ∧ (_ ∧ x.args.length * 16 ≤ 140737488351232) from h).2.2
theorem o23 : Opens enc Try.prog w base spare held 23 (Kd.slice 38 kAc) (fun xs => ∀ x, x ∈ xs → x.args.length * 16 ≤ 140737488351232) := (Opens.slice Try.underlying23 (by kernel_rfl) (by kernel_rfl) o38 (B := 80)).mono fun _ h => h.2
end
theorem acts_row {w : World} {an : List (List S56)} {acts : List Ac} {ca cb : List Value} (h0 : (Kd.slice 27 k27).K w an ca) (g0 : an.length * 24 ≤ 140737488351232 ∧ ∀ x, x ∈ an → x.length * 16 ≤ 140737488351232) (h1 : (Kd.slice 38 kAc).K w acts cb) (g1 : ∀ x, x ∈ acts → x.args.length * 16 ≤ 140737488351232) :
    Calls Try.prog 3 #[ca.headD undef, cb.headD undef] w fun e w' => e = .returned (.bool true) ∧ Below w.heap.size w w' := by
  obtain ⟨A, c, rfl, hc, hA⟩ := h0
  obtain ⟨B, d, rfl, hd, hB⟩ := h1
  exact acts_calls hA g0.1 g0.2 hB g1
end Go.Proofs.Ytmofdpkddimmlaa.ETrace
