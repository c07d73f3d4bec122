-- Laid by wip/myprint.py, a driver over the kit's print, for this claim: a lemma's text, not read by a person.
import Derived.Test.YtpglakfafanhoaaDoorShelf
import Derived.Lib.ItoaNum
import Derived.Lib.LaidTab
import Derived.Sort.Grow
import Derived.Test.YtpglakfafanhoaaDoorProg
import Derived.Below
import Derived.Deep.Draws
import Derived.Deep.AppendLies
import Derived.Maps.AppendAt
import Derived.OwnWalk
import Derived.Laws.BytesArg
import Derived.Laws.MakeOwn
import Derived.Laws.OwnMore
import Derived.Deep.OwnRows
import Derived.Tactics
import Derived.Lib.ConvBytes
import Derived.Laws.Slices
import Derived.WalkKit
import Derived.KernelRfl
import Derived.RowKit3
import Derived.Deep.LoopGhost
import Derived.Deep.QuietTactic
import Derived.BigQuiet
import Derived.WideLaws
import Derived.Deep.DeepCutAuto
import Derived.Deep.CutBlock
import Derived.Deep.RegionHeld3
import Derived.Laws.Rows
import Derived.Lib.AppendStr
import Derived.ArgAppend
import Derived.Laws.IdiomCopy
import Derived.OrdersHeld
import Derived.Laws.BitsLemmas
import Derived.RowKit
import Derived.Test.YtpglakfafanhoaaDoorWWords
import Derived.Test.YtpglakfafanhoaaDoorWLast
import Derived.Test.YtpglakfafanhoaaDoorWTab
import Derived.Test.YtpglakfafanhoaaDoorWFour
import Derived.Test.YtpglakfafanhoaaDoorWQPut
import Derived.Test.YtpglakfafanhoaaDoorWApart
import Derived.Test.YtpglakfafanhoaaDoorWArr
import Derived.Test.YtpglakfafanhoaaDoorWZeros
import Derived.Test.YtpglakfafanhoaaDoorWFoot
import Derived.Test.YtpglakfafanhoaaDoorWKept
import Derived.Test.YtpglakfafanhoaaDoorWShare
import Derived.Test.YtpglakfafanhoaaDoorWN
import Derived.Test.YtpglakfafanhoaaDoorWFootNe
import Derived.Test.YtpglakfafanhoaaDoorWAt
import Derived.Test.YtpglakfafanhoaaDoorWEqStruct
import Derived.Test.YtpglakfafanhoaaDoorWRepsOne
import Derived.Test.YtpglakfafanhoaaDoorWInv
import Derived.Test.YtpglakfafanhoaaDoorWInvWords
import Derived.Test.YtpglakfafanhoaaDoorWGuard
import Derived.Test.YtpglakfafanhoaaDoorWNEv
import Derived.Test.YtpglakfafanhoaaDoorWMore
namespace Go.Proofs.YtpglakfafanhoaaDoor.PA
open Go.RowKit Go.Proofs.YtpglakfafanhoaaDoorW.PrintWords Go.Proofs.YtpglakfafanhoaaDoorW.PrintLast Go.Proofs.YtpglakfafanhoaaDoorW.PrintMore
attribute [local go_sem] max2_int min2_int max_two min_two max_three min_three max_four min_four   -- for this text's walks alone
set_option linter.unusedVariables false
set_option linter.unusedSimpArgs false



def errW : Option Int → Value
  | none => .nilIface
  | some c => .iface 0 (.int .i64 c)
theorem errW_none : errW none = .nilIface := rfl
theorem errW_some (c : Int) : errW (some c) = .iface 0 (.int .i64 c) := rfl

/-- The library's table of powers of ten (block 0) stands as its initialiser lays it. -/
def PowAt (w : World) : Prop := ∃ o, w.heap[0]? = some o ∧ ∀ W : World, W.heap[0]? = some o → Lib.TabIs Tryd.prog W "internal/strconv.uint64pow10" .u64 Lib.pow10Tab
theorem PowAt_of {w W : World} (h : PowAt w) (e : W.heap[0]? = w.heap[0]?) : PowAt W := by
  obtain ⟨o, h1, h2⟩ := h
  exact ⟨o, e.trans h1, h2⟩
theorem PowAt_lt {w : World} (h : PowAt w) : 0 < w.heap.size := by
  obtain ⟨o, h1, _⟩ := h
  exact (Array.getElem?_eq_some_iff.1 h1).1
theorem PowAt_below {w W : World} (h : PowAt w) (hb : Below w.heap.size w W) : PowAt W := PowAt_of h (hb.block 0 (PowAt_lt h))
theorem PowAt_alloc {w : World} (h : PowAt w) (o : Obj) : PowAt (w.alloc o) := PowAt_below h (below_alloc (Below.refl _ _) o)
theorem PowAt_drewN {w : World} (h : PowAt w) (n : Nat) : PowAt (w.drewN n) := PowAt_of h rfl
theorem PowAt_drew {w : World} (h : PowAt w) : PowAt w.drew := PowAt_of h rfl
theorem PowAt_tab {w : World} (h : PowAt w) : Lib.TabIs Tryd.prog w "internal/strconv.uint64pow10" .u64 Lib.pow10Tab := by
  obtain ⟨o, h1, h2⟩ := h
  exact h2 w h1
theorem PowAt_mk {w : World} (h : Lib.TabIs Tryd.prog w "internal/strconv.uint64pow10" .u64 Lib.pow10Tab) : PowAt w := by
  have hg : Tryd.prog.globalNamed "internal/strconv.uint64pow10" = some 0 := by kernel_rfl
  have h' := h
  unfold Lib.TabIs World.var? at h'
  rw [hg, Option.bind_some] at h'
  cases ho : w.heap[0]? with
  | none => rw [ho] at h'; simp at h'
  | some o =>
    refine ⟨o, ho, fun W hW => ?_⟩
    unfold Lib.TabIs World.var?
    rw [hg, Option.bind_some, hW]
    rw [ho] at h'
    exact h'

theorem info2 : (Tryd.prog.info? 2).map (fun i => (i.zero, i.size, i.bytes)) = some (some (.int .i64 0), 1, 8) := by kernel_rfl
theorem info5 : (Tryd.prog.info? 5).map (fun i => (i.zero, i.size, i.bytes)) = some (some (.int .u8 0), 1, 1) := by kernel_rfl
-- the values' own types

end Go.Proofs.YtpglakfafanhoaaDoor.PA
