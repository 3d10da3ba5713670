-- PRINTED BY print.sh 35421559b90ae4d0a3588c463048766b98c2df88dd9212a6774a882060cdf62d: not written by this session
import Derived.Test.YtddfoogbakiojaaProg
import Derived.Below
import Derived.Deep.Draws
import Derived.Deep.AppendLies
import Derived.Maps.AppendAt
import Derived.OwnWalk
import Derived.Laws.BytesArg
import Derived.Laws.MakeOwn
import Derived.Laws.OwnMore
import Derived.Deep.OwnRows
import Derived.Tactics
import Derived.Lib.ConvBytes
import Derived.Laws.Slices
import Derived.WalkKit
import Derived.KernelRfl
import Derived.RowKit3
import Derived.Deep.LoopGhost
import Derived.Deep.QuietTactic
import Derived.BigQuiet
import Derived.WideLaws
import Derived.Deep.DeepCutAuto
import Derived.Deep.CutBlock
import Derived.Deep.RegionHeld3
import Derived.Laws.Rows
import Derived.Lib.AppendStr
import Derived.ArgAppend
import Derived.Laws.IdiomCopy
import Derived.OrdersHeld
import Derived.Laws.BitsLemmas
import Derived.RowKit
import Derived.Test.YtddfoogbakiojaaWWords
import Derived.Test.YtddfoogbakiojaaWLast
import Derived.Test.YtddfoogbakiojaaWTab
import Derived.Test.YtddfoogbakiojaaWFour
import Derived.Test.YtddfoogbakiojaaWQPut
import Derived.Test.YtddfoogbakiojaaWApart
import Derived.Test.YtddfoogbakiojaaWArr
import Derived.Test.YtddfoogbakiojaaWZeros
import Derived.Test.YtddfoogbakiojaaWFoot
import Derived.Test.YtddfoogbakiojaaWKept
import Derived.Test.YtddfoogbakiojaaWShare
import Derived.Test.YtddfoogbakiojaaWN
import Derived.Test.YtddfoogbakiojaaWFootNe
import Derived.Test.YtddfoogbakiojaaWAt
import Derived.Test.YtddfoogbakiojaaWEqStruct
import Derived.Test.YtddfoogbakiojaaWRepsOne
import Derived.Test.YtddfoogbakiojaaWInv
import Derived.Test.YtddfoogbakiojaaWInvWords
import Derived.Test.YtddfoogbakiojaaWGuard
import Derived.Test.YtddfoogbakiojaaWNEv
import Derived.Test.YtddfoogbakiojaaWMore
namespace Go.Proofs.Ytddfoogbakiojaa.PPelorusNames
open Go.RowKit Go.Proofs.YtddfoogbakiojaaW.PrintWords Go.Proofs.YtddfoogbakiojaaW.PrintLast Go.Proofs.YtddfoogbakiojaaW.PrintMore
attribute [local go_sem] max2_int min2_int max_two min_two max_three min_three max_four min_four   -- for this text's walks alone
set_option linter.unusedVariables false
set_option linter.unusedSimpArgs false



def errW : Option Int → Value
  | none => .nilIface
  | some c => .iface 0 (.int .i64 c)
theorem errW_none : errW none = .nilIface := rfl
theorem errW_some (c : Int) : errW (some c) = .iface 0 (.int .i64 c) := rfl

-- the values' own types

end Go.Proofs.Ytddfoogbakiojaa.PPelorusNames
