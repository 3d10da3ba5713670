/-
  TraceTypes' statement, from arguments as they are opened.
-/
import Derived.Test.YtmofdpkddimmlaaETraceTypes
import Derived.Test.YtmofdpkddimmlaaETraceOpen
namespace Go.Proofs.Ytmofdpkddimmlaa.ETrace
open Go Go.RowKit Go.Proofs.Ytmofdpkddimmlaa.F Go.Proofs.YtmofdpkddimmlaaW.PrintWords
theorem types_row {w : World} {v : S56} {kind : Int} {none : Bool} {c : List Value} (h : k56.K w v c) : Calls Try.prog 5 #[.agg c.toArray, .int .i64 kind, .bool none] w fun e w' => e = .returned (.bool true) ∧ Below w.heap.size w w' := by
  rw [k56_open h]
  exact types_calls
end Go.Proofs.Ytmofdpkddimmlaa.ETrace
