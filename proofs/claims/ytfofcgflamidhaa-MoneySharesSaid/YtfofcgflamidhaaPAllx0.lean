-- Laid by wip/myprint.py, a driver over the kit's print, for this claim: a lemma's text, not read by a person.
import Derived.Test.YtfofcgflamidhaaProg
import Derived.Below
import Derived.Deep.Draws
import Derived.Deep.AppendLies
import Derived.Maps.AppendAt
import Derived.OwnWalk
import Derived.Laws.BytesArg
import Derived.Laws.MakeOwn
import Derived.Laws.OwnMore
import Derived.Deep.OwnRows
import Derived.Tactics
import Derived.Lib.ConvBytes
import Derived.Laws.Slices
import Derived.WalkKit
import Derived.KernelRfl
import Derived.RowKit3
import Derived.Deep.LoopGhost
import Derived.Deep.QuietTactic
import Derived.BigQuiet
import Derived.WideLaws
import Derived.Deep.DeepCutAuto
import Derived.Deep.CutBlock
import Derived.Deep.RegionHeld3
import Derived.Laws.Rows
import Derived.Lib.AppendStr
import Derived.ArgAppend
import Derived.Laws.IdiomCopy
import Derived.OrdersHeld
import Derived.Laws.BitsLemmas
import Derived.RowKit
import Derived.Laws.Externs
import Derived.Test.YtfofcgflamidhaaShelf
import Derived.Test.YtfofcgflamidhaaWWords
import Derived.Test.YtfofcgflamidhaaWLast
import Derived.Test.YtfofcgflamidhaaWTab
import Derived.Test.YtfofcgflamidhaaWFour
import Derived.Test.YtfofcgflamidhaaWQPut
import Derived.Test.YtfofcgflamidhaaWApart
import Derived.Test.YtfofcgflamidhaaWArr
import Derived.Test.YtfofcgflamidhaaWZeros
import Derived.Test.YtfofcgflamidhaaWFoot
import Derived.Test.YtfofcgflamidhaaWKept
import Derived.Test.YtfofcgflamidhaaWShare
import Derived.Test.YtfofcgflamidhaaWN
import Derived.Test.YtfofcgflamidhaaWFootNe
import Derived.Test.YtfofcgflamidhaaWAt
import Derived.Test.YtfofcgflamidhaaWEqStruct
import Derived.Test.YtfofcgflamidhaaWRepsOne
import Derived.Test.YtfofcgflamidhaaWInv
import Derived.Test.YtfofcgflamidhaaWInvWords
import Derived.Test.YtfofcgflamidhaaWGuard
import Derived.Test.YtfofcgflamidhaaWNEv
import Derived.Test.YtfofcgflamidhaaWMore
namespace Go.Proofs.Ytfofcgflamidhaa.PAll
open Go.RowKit Go.Proofs.YtfofcgflamidhaaW.PrintWords Go.Proofs.YtfofcgflamidhaaW.PrintLast Go.Proofs.YtfofcgflamidhaaW.PrintMore
attribute [local go_sem] max2_int min2_int max_two min_two max_three min_three max_four min_four   -- for this text's walks alone
set_option linter.unusedVariables false
set_option linter.unusedSimpArgs false



def errW : Option Int → Value
  | none => .nilIface
  | some c => .iface 0 (.int .i64 c)
theorem errW_none : errW none = .nilIface := rfl
theorem errW_some (c : Int) : errW (some c) = .iface 0 (.int .i64 c) := rfl

def ad64s (x y : Int) : Int := ((x.toNat + y.toNat) % 18446744073709551616 : Nat)
def ad64c (x y : Int) : Int := ((x.toNat + y.toNat) / 18446744073709551616 : Nat)
theorem run_ad64 (x y : Int) (w : World) :
    (callFunc 31 #[.int .u64 x, .int .u64 y, .int .u64 0]).run Try.prog w = .ok (.value (.tuple #[.int .u64 (ad64s x y), .int .u64 (ad64c x y)])) w := by
  rw [run_callFunc_extern Try.func31 (by kernel_rfl) (by kernel_rfl) (by kernel_rfl) (e := add64Entry) (by kernel_rfl)]
  rfl

theorem info2 : (Try.prog.info? 2).map (fun i => (i.zero, i.size, i.bytes)) = some (some (.int .i64 0), 1, 8) := by kernel_rfl
theorem info3 : (Try.prog.info? 3).map (fun i => (i.zero, i.size, i.bytes)) = some (some (.int .i64 0), 1, 8) := by kernel_rfl
theorem info29 : (Try.prog.info? 29).map (fun i => (i.zero, i.size, i.bytes)) = some (some (.int .i64 0), 1, 8) := by kernel_rfl
theorem info30 : (Try.prog.info? 30).map (fun i => (i.zero, i.size, i.bytes)) = some (some (.int .i64 0), 1, 8) := by kernel_rfl
-- the values' own types

end Go.Proofs.Ytfofcgflamidhaa.PAll
