-- Written for this claim by a program of this session (wip/tools/myprint.sh), out of the translation. Lean checks it.
import Derived.Test.YtmofdpkddimmlaaProg
import Derived.Below
import Derived.Deep.Draws
import Derived.Deep.AppendLies
import Derived.Maps.AppendAt
import Derived.OwnWalk
import Derived.Laws.BytesArg
import Derived.Laws.MakeOwn
import Derived.Laws.OwnMore
import Derived.Deep.OwnRows
import Derived.Tactics
import Derived.Lib.ConvBytes
import Derived.Laws.Slices
import Derived.WalkKit
import Derived.KernelRfl
import Derived.RowKit3
import Derived.Deep.LoopGhost
import Derived.Deep.QuietTactic
import Derived.BigQuiet
import Derived.WideLaws
import Derived.Deep.DeepCutAuto
import Derived.Deep.CutBlock
import Derived.Deep.RegionHeld3
import Derived.Laws.Rows
import Derived.Lib.AppendStr
import Derived.ArgAppend
import Derived.Laws.IdiomCopy
import Derived.OrdersHeld
import Derived.Laws.BitsLemmas
import Derived.RowKit
import Derived.Test.YtmofdpkddimmlaaWWords
import Derived.Test.YtmofdpkddimmlaaWLast
import Derived.Test.YtmofdpkddimmlaaWTab
import Derived.Test.YtmofdpkddimmlaaWFour
import Derived.Test.YtmofdpkddimmlaaWQPut
import Derived.Test.YtmofdpkddimmlaaWApart
import Derived.Test.YtmofdpkddimmlaaWArr
import Derived.Test.YtmofdpkddimmlaaWZeros
import Derived.Test.YtmofdpkddimmlaaWFoot
import Derived.Test.YtmofdpkddimmlaaWKept
import Derived.Test.YtmofdpkddimmlaaWShare
import Derived.Test.YtmofdpkddimmlaaWN
import Derived.Test.YtmofdpkddimmlaaWFootNe
import Derived.Test.YtmofdpkddimmlaaWAt
import Derived.Test.YtmofdpkddimmlaaWEqStruct
import Derived.Test.YtmofdpkddimmlaaWRepsOne
import Derived.Test.YtmofdpkddimmlaaWInv
import Derived.Test.YtmofdpkddimmlaaWInvWords
import Derived.Test.YtmofdpkddimmlaaWGuard
import Derived.Test.YtmofdpkddimmlaaWNEv
import Derived.Test.YtmofdpkddimmlaaWMore
import Derived.Test.YtmofdpkddimmlaaWFn
namespace Go.Proofs.Ytmofdpkddimmlaa.G
open Go.RowKit Go.Proofs.YtmofdpkddimmlaaW.PrintWords Go.Proofs.YtmofdpkddimmlaaW.PrintLast Go.Proofs.YtmofdpkddimmlaaW.PrintMore
attribute [local go_sem] max2_int min2_int max_two min_two max_three min_three max_four min_four   -- for this text's walks alone
set_option linter.unusedVariables false
set_option linter.unusedSimpArgs false



def errW : Option Int → Value
  | none => .nilIface
  | some c => .iface 0 (.int .i64 c)
theorem errW_none : errW none = .nilIface := rfl
theorem errW_some (c : Int) : errW (some c) = .iface 0 (.int .i64 c) := rfl

theorem info3 : (Try.prog.info? 3).map (fun i => (i.zero, i.size, i.bytes)) = some (some (.int .i64 0), 1, 8) := by kernel_rfl
-- the values' own types

end Go.Proofs.Ytmofdpkddimmlaa.G
