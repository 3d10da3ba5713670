-- Written for this claim by a program of this session (wip/tools/myprint.sh), out of the translation. Lean checks it.
import Derived.Test.YtflejniglhjbfaaProg
import Derived.Below
import Derived.Deep.Draws
import Derived.Deep.AppendLies
import Derived.Maps.AppendAt
import Derived.OwnWalk
import Derived.Laws.BytesArg
import Derived.Laws.MakeOwn
import Derived.Laws.OwnMore
import Derived.Deep.OwnRows
import Derived.Tactics
import Derived.Lib.ConvBytes
import Derived.Laws.Slices
import Derived.WalkKit
import Derived.KernelRfl
import Derived.RowKit3
import Derived.Deep.LoopGhost
import Derived.Deep.QuietTactic
import Derived.BigQuiet
import Derived.WideLaws
import Derived.Deep.DeepCutAuto
import Derived.Deep.CutBlock
import Derived.Deep.RegionHeld3
import Derived.Laws.Rows
import Derived.Lib.AppendStr
import Derived.ArgAppend
import Derived.Laws.IdiomCopy
import Derived.OrdersHeld
import Derived.Laws.BitsLemmas
import Derived.RowKit
import Derived.Test.YtflejniglhjbfaaWWords
import Derived.Test.YtflejniglhjbfaaWLast
import Derived.Test.YtflejniglhjbfaaWTab
import Derived.Test.YtflejniglhjbfaaWFour
import Derived.Test.YtflejniglhjbfaaWQPut
import Derived.Test.YtflejniglhjbfaaWApart
import Derived.Test.YtflejniglhjbfaaWArr
import Derived.Test.YtflejniglhjbfaaWZeros
import Derived.Test.YtflejniglhjbfaaWFoot
import Derived.Test.YtflejniglhjbfaaWKept
import Derived.Test.YtflejniglhjbfaaWShare
import Derived.Test.YtflejniglhjbfaaWN
import Derived.Test.YtflejniglhjbfaaWFootNe
import Derived.Test.YtflejniglhjbfaaWAt
import Derived.Test.YtflejniglhjbfaaWEqStruct
import Derived.Test.YtflejniglhjbfaaWRepsOne
import Derived.Test.YtflejniglhjbfaaWInv
import Derived.Test.YtflejniglhjbfaaWInvWords
import Derived.Test.YtflejniglhjbfaaWGuard
import Derived.Test.YtflejniglhjbfaaWNEv
import Derived.Test.YtflejniglhjbfaaWMore
namespace Go.Proofs.Ytflejniglhjbfaa.F
open Go.RowKit Go.Proofs.YtflejniglhjbfaaW.PrintWords Go.Proofs.YtflejniglhjbfaaW.PrintLast Go.Proofs.YtflejniglhjbfaaW.PrintMore
attribute [local go_sem] max2_int min2_int max_two min_two max_three min_three max_four min_four   -- for this text's walks alone
set_option linter.unusedVariables false
set_option linter.unusedSimpArgs false



def errW : Option Int → Value
  | none => .nilIface
  | some c => .iface 0 (.int .i64 c)
theorem errW_none : errW none = .nilIface := rfl
theorem errW_some (c : Int) : errW (some c) = .iface 0 (.int .i64 c) := rfl

theorem info5 : (Try.prog.info? 5).map (fun i => (i.zero, i.size, i.bytes)) = some (some (.int .u8 0), 1, 1) := by kernel_rfl
-- the values' own types

end Go.Proofs.Ytflejniglhjbfaa.F
