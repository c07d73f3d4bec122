-- Laid by wip/myprint.py, a driver over the kit's print, for this claim: a lemma's text, not read by a person.
import Derived.Test.YtfofcgflamidhaaDoorProg
import Derived.Below
import Derived.Deep.Draws
import Derived.Deep.AppendLies
import Derived.Maps.AppendAt
import Derived.OwnWalk
import Derived.Laws.BytesArg
import Derived.Laws.MakeOwn
import Derived.Laws.OwnMore
import Derived.Deep.OwnRows
import Derived.Tactics
import Derived.Lib.ConvBytes
import Derived.Laws.Slices
import Derived.WalkKit
import Derived.KernelRfl
import Derived.RowKit3
import Derived.Deep.LoopGhost
import Derived.Deep.QuietTactic
import Derived.BigQuiet
import Derived.WideLaws
import Derived.Deep.DeepCutAuto
import Derived.Deep.CutBlock
import Derived.Deep.RegionHeld3
import Derived.Laws.Rows
import Derived.Lib.AppendStr
import Derived.ArgAppend
import Derived.Laws.IdiomCopy
import Derived.OrdersHeld
import Derived.Laws.BitsLemmas
import Derived.RowKit
import Derived.Test.YtfofcgflamidhaaDoorWWords
import Derived.Test.YtfofcgflamidhaaDoorWLast
import Derived.Test.YtfofcgflamidhaaDoorWTab
import Derived.Test.YtfofcgflamidhaaDoorWFour
import Derived.Test.YtfofcgflamidhaaDoorWQPut
import Derived.Test.YtfofcgflamidhaaDoorWApart
import Derived.Test.YtfofcgflamidhaaDoorWArr
import Derived.Test.YtfofcgflamidhaaDoorWZeros
import Derived.Test.YtfofcgflamidhaaDoorWFoot
import Derived.Test.YtfofcgflamidhaaDoorWKept
import Derived.Test.YtfofcgflamidhaaDoorWShare
import Derived.Test.YtfofcgflamidhaaDoorWN
import Derived.Test.YtfofcgflamidhaaDoorWFootNe
import Derived.Test.YtfofcgflamidhaaDoorWAt
import Derived.Test.YtfofcgflamidhaaDoorWEqStruct
import Derived.Test.YtfofcgflamidhaaDoorWRepsOne
import Derived.Test.YtfofcgflamidhaaDoorWInv
import Derived.Test.YtfofcgflamidhaaDoorWInvWords
import Derived.Test.YtfofcgflamidhaaDoorWGuard
import Derived.Test.YtfofcgflamidhaaDoorWNEv
import Derived.Test.YtfofcgflamidhaaDoorWMore
namespace Go.Proofs.YtfofcgflamidhaaDoor.PA
open Go.RowKit Go.Proofs.YtfofcgflamidhaaDoorW.PrintWords Go.Proofs.YtfofcgflamidhaaDoorW.PrintLast Go.Proofs.YtfofcgflamidhaaDoorW.PrintMore
attribute [local go_sem] max2_int min2_int max_two min_two max_three min_three max_four min_four   -- for this text's walks alone
set_option linter.unusedVariables false
set_option linter.unusedSimpArgs false



def errW : Option Int → Value
  | none => .nilIface
  | some c => .iface 0 (.int .i64 c)
theorem errW_none : errW none = .nilIface := rfl
theorem errW_some (c : Int) : errW (some c) = .iface 0 (.int .i64 c) := rfl

-- the values' own types

end Go.Proofs.YtfofcgflamidhaaDoor.PA
