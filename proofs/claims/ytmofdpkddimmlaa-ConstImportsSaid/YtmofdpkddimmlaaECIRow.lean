/-
  ConstImports: what the row hands in.
-/
import Derived.Test.YtmofdpkddimmlaaECI
import Derived.Test.YtmofdpkddimmlaaEOpenM
namespace Go.Proofs.Ytmofdpkddimmlaa.EInstr
open Go Go.RowKit Go.Proofs.Ytmofdpkddimmlaa.F Go.Proofs.YtmofdpkddimmlaaW.PrintWords
theorem cimports_row {w : World} {ks : List Int} {ck : List Value} {a t : Int} (h0 : (Kd.slice 3 (Kd.int .i64)).K w ks ck) : Calls Try.prog 11 #[ck.headD undef, .int .i64 a, .int .i64 t] w fun e w' => e = .returned (.bool true) ∧ Below w.heap.size w w' := by
  obtain ⟨A, c, rfl, hc, hK⟩ := h0
  exact cimports_calls w ks a t A c hK hc
end Go.Proofs.Ytmofdpkddimmlaa.EInstr
