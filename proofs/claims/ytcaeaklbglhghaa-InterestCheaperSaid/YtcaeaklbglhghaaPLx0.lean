-- Laid by wip/myprint.py, a driver over the kit's print, for this claim: a lemma's text, not read by a person.
import Derived.Test.YtcaeaklbglhghaaProg
import Derived.Below
import Derived.Deep.Draws
import Derived.Deep.AppendLies
import Derived.Maps.AppendAt
import Derived.OwnWalk
import Derived.Laws.BytesArg
import Derived.Laws.MakeOwn
import Derived.Laws.OwnMore
import Derived.Deep.OwnRows
import Derived.Tactics
import Derived.Lib.ConvBytes
import Derived.Laws.Slices
import Derived.WalkKit
import Derived.KernelRfl
import Derived.RowKit3
import Derived.Deep.LoopGhost
import Derived.Deep.QuietTactic
import Derived.BigQuiet
import Derived.WideLaws
import Derived.Deep.DeepCutAuto
import Derived.Deep.CutBlock
import Derived.Deep.RegionHeld3
import Derived.Laws.Rows
import Derived.Lib.AppendStr
import Derived.ArgAppend
import Derived.Laws.IdiomCopy
import Derived.OrdersHeld
import Derived.Laws.BitsLemmas
import Derived.RowKit
import Derived.Test.YtcaeaklbglhghaaShelf
import Derived.Test.YtcaeaklbglhghaaWWords
import Derived.Test.YtcaeaklbglhghaaWLast
import Derived.Test.YtcaeaklbglhghaaWTab
import Derived.Test.YtcaeaklbglhghaaWFour
import Derived.Test.YtcaeaklbglhghaaWQPut
import Derived.Test.YtcaeaklbglhghaaWApart
import Derived.Test.YtcaeaklbglhghaaWArr
import Derived.Test.YtcaeaklbglhghaaWZeros
import Derived.Test.YtcaeaklbglhghaaWFoot
import Derived.Test.YtcaeaklbglhghaaWKept
import Derived.Test.YtcaeaklbglhghaaWShare
import Derived.Test.YtcaeaklbglhghaaWN
import Derived.Test.YtcaeaklbglhghaaWFootNe
import Derived.Test.YtcaeaklbglhghaaWAt
import Derived.Test.YtcaeaklbglhghaaWEqStruct
import Derived.Test.YtcaeaklbglhghaaWRepsOne
import Derived.Test.YtcaeaklbglhghaaWInv
import Derived.Test.YtcaeaklbglhghaaWInvWords
import Derived.Test.YtcaeaklbglhghaaWGuard
import Derived.Test.YtcaeaklbglhghaaWNEv
import Derived.Test.YtcaeaklbglhghaaWMore
namespace Go.Proofs.Ytcaeaklbglhghaa.PL
open Go.RowKit Go.Proofs.YtcaeaklbglhghaaW.PrintWords Go.Proofs.YtcaeaklbglhghaaW.PrintLast Go.Proofs.YtcaeaklbglhghaaW.PrintMore
attribute [local go_sem] max2_int min2_int max_two min_two max_three min_three max_four min_four   -- for this text's walks alone
set_option linter.unusedVariables false
set_option linter.unusedSimpArgs false



def errW : Option Int → Value
  | none => .nilIface
  | some c => .iface 0 (.int .i64 c)
theorem errW_none : errW none = .nilIface := rfl
theorem errW_some (c : Int) : errW (some c) = .iface 0 (.int .i64 c) := rfl

-- the values' own types

end Go.Proofs.Ytcaeaklbglhghaa.PL
