-- Written for this claim by a program of this session (wip/tools/myprint.sh), out of the translation. Lean checks it.
import Derived.Test.YtflejniglhjbfaaDoorProg
import Derived.Below
import Derived.Deep.Draws
import Derived.Deep.AppendLies
import Derived.Maps.AppendAt
import Derived.OwnWalk
import Derived.Laws.BytesArg
import Derived.Laws.MakeOwn
import Derived.Laws.OwnMore
import Derived.Deep.OwnRows
import Derived.Tactics
import Derived.Lib.ConvBytes
import Derived.Laws.Slices
import Derived.WalkKit
import Derived.KernelRfl
import Derived.RowKit3
import Derived.Deep.LoopGhost
import Derived.Deep.QuietTactic
import Derived.BigQuiet
import Derived.WideLaws
import Derived.Deep.DeepCutAuto
import Derived.Deep.CutBlock
import Derived.Deep.RegionHeld3
import Derived.Laws.Rows
import Derived.Lib.AppendStr
import Derived.ArgAppend
import Derived.Laws.IdiomCopy
import Derived.OrdersHeld
import Derived.Laws.BitsLemmas
import Derived.RowKit
import Derived.Test.YtflejniglhjbfaaDoorWWords
import Derived.Test.YtflejniglhjbfaaDoorWLast
import Derived.Test.YtflejniglhjbfaaDoorWTab
import Derived.Test.YtflejniglhjbfaaDoorWFour
import Derived.Test.YtflejniglhjbfaaDoorWQPut
import Derived.Test.YtflejniglhjbfaaDoorWApart
import Derived.Test.YtflejniglhjbfaaDoorWArr
import Derived.Test.YtflejniglhjbfaaDoorWZeros
import Derived.Test.YtflejniglhjbfaaDoorWFoot
import Derived.Test.YtflejniglhjbfaaDoorWKept
import Derived.Test.YtflejniglhjbfaaDoorWShare
import Derived.Test.YtflejniglhjbfaaDoorWN
import Derived.Test.YtflejniglhjbfaaDoorWFootNe
import Derived.Test.YtflejniglhjbfaaDoorWAt
import Derived.Test.YtflejniglhjbfaaDoorWEqStruct
import Derived.Test.YtflejniglhjbfaaDoorWRepsOne
import Derived.Test.YtflejniglhjbfaaDoorWInv
import Derived.Test.YtflejniglhjbfaaDoorWInvWords
import Derived.Test.YtflejniglhjbfaaDoorWGuard
import Derived.Test.YtflejniglhjbfaaDoorWNEv
import Derived.Test.YtflejniglhjbfaaDoorWMore
import Derived.Test.YtflejniglhjbfaaDoorWFn
namespace Go.Proofs.YtflejniglhjbfaaDoor.F
open Go.RowKit Go.Proofs.YtflejniglhjbfaaDoorW.PrintWords Go.Proofs.YtflejniglhjbfaaDoorW.PrintLast Go.Proofs.YtflejniglhjbfaaDoorW.PrintMore
attribute [local go_sem] max2_int min2_int max_two min_two max_three min_three max_four min_four   -- for this text's walks alone
set_option linter.unusedVariables false
set_option linter.unusedSimpArgs false



def errW : Option Int → Value
  | none => .nilIface
  | some c => .iface 0 (.int .i64 c)
theorem errW_none : errW none = .nilIface := rfl
theorem errW_some (c : Int) : errW (some c) = .iface 0 (.int .i64 c) := rfl

theorem info5 : (Tryd.prog.info? 5).map (fun i => (i.zero, i.size, i.bytes)) = some (some (.int .u8 0), 1, 1) := by kernel_rfl
-- the values' own types

end Go.Proofs.YtflejniglhjbfaaDoor.F
