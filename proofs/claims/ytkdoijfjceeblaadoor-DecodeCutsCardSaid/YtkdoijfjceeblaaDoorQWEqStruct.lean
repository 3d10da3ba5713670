/-
  What the claim leans on, in the order of its making: words about values and worlds, the printed functions, the decoder in plain words and its walk. Cut to what is used by wip/tools/prune15.py. (WEqStruct)
-/
import Derived.Test.YtkdoijfjceeblaaDoorQWWords
import Derived.Laws.StructEq
namespace Go.Proofs.YtkdoijfjceeblaaDoorW.PrintWords
open Go.RowKit
section
variable {P : Program} {d : Nat} {xs ys : Array Value} {f : Field} {fs : List Field} {a b : Value} {r s : Bool} {w : World}
end
end Go.Proofs.YtkdoijfjceeblaaDoorW.PrintWords
