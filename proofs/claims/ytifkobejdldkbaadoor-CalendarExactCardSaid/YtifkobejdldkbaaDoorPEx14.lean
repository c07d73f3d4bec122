-- Laid by wip/myprint.py, a driver over the kit's print, for this claim: a lemma's text, not read by a person.
import Derived.Test.YtifkobejdldkbaaDoorShelf
import Derived.Lib.ItoaNum
import Derived.Lib.LaidTab
import Derived.Sort.Grow
import Derived.Test.YtifkobejdldkbaaDoorPEx0
namespace Go.Proofs.YtifkobejdldkbaaDoor.PE
open Go.RowKit Go.Proofs.YtifkobejdldkbaaDoorW.PrintWords Go.Proofs.YtifkobejdldkbaaDoorW.PrintLast Go.Proofs.YtifkobejdldkbaaDoorW.PrintMore
attribute [local go_sem] max2_int min2_int max_two min_two max_three min_three max_four min_four   -- for this text's walks alone
set_option linter.unusedVariables false
set_option linter.unusedSimpArgs false

/-! ### strconv_Itoa: function 65 -/
-- ALONE
/-- The library's table of powers of ten (block 1) stands as its initialiser lays it. -/
def PowAt (w : World) : Prop := ∃ o, w.heap[1]? = some o ∧ ∀ W : World, W.heap[1]? = some o → Lib.TabIs Tryd.prog W "internal/strconv.uint64pow10" .u64 Lib.pow10Tab
theorem PowAt_of {w W : World} (h : PowAt w) (e : W.heap[1]? = w.heap[1]?) : PowAt W := by
  obtain ⟨o, h1, h2⟩ := h
  exact ⟨o, e.trans h1, h2⟩
theorem PowAt_lt {w : World} (h : PowAt w) : 1 < w.heap.size := by
  obtain ⟨o, h1, _⟩ := h
  exact (Array.getElem?_eq_some_iff.1 h1).1
theorem PowAt_below {w W : World} (h : PowAt w) (hb : Below w.heap.size w W) : PowAt W := PowAt_of h (hb.block 1 (PowAt_lt h))
theorem PowAt_alloc {w : World} (h : PowAt w) (o : Obj) : PowAt (w.alloc o) := PowAt_below h (below_alloc (Below.refl _ _) o)
theorem PowAt_drewN {w : World} (h : PowAt w) (n : Nat) : PowAt (w.drewN n) := PowAt_of h rfl
theorem PowAt_drew {w : World} (h : PowAt w) : PowAt w.drew := PowAt_of h rfl
theorem PowAt_tab {w : World} (h : PowAt w) : Lib.TabIs Tryd.prog w "internal/strconv.uint64pow10" .u64 Lib.pow10Tab := by
  obtain ⟨o, h1, h2⟩ := h
  exact h2 w h1
theorem PowAt_mk {w : World} (h : Lib.TabIs Tryd.prog w "internal/strconv.uint64pow10" .u64 Lib.pow10Tab) : PowAt w := by
  have hg : Tryd.prog.globalNamed "internal/strconv.uint64pow10" = some 1 := by kernel_rfl
  have h' := h
  unfold Lib.TabIs World.var? at h'
  rw [hg, Option.bind_some] at h'
  cases ho : w.heap[1]? with
  | none => rw [ho] at h'; simp at h'
  | some o =>
    refine ⟨o, ho, fun W hW => ?_⟩
    unfold Lib.TabIs World.var?
    rw [hg, Option.bind_some, hW]
    rw [ho] at h'
    exact h'
def strconv_Itoa.f (a0 : Int) : Option (ByteArray) := if -9223372036854775808 ≤ a0 ∧ a0 ≤ 9223372036854775807 then some ⟨(Lib.itoa a0).toArray⟩ else none
theorem strconv_Itoa.calls (a0 : Int) (r : ByteArray) (w : World) (hrP : PowAt w) (h : strconv_Itoa.f a0 = some r) :
    Calls Tryd.prog 65 #[.int .i64 a0] w fun e w' => e = .returned (.string r) ∧ Below w.heap.size w w' := by
  unfold strconv_Itoa.f at h
  split at h
  · rename_i hb
    obtain rfl := Option.some.inj h
    refine (Tryd.strconv_Itoa a0 hb.1 hb.2 w (PowAt_tab hrP)).mono ?_
    rintro e w' ⟨rfl, k, os, rfl⟩
    refine ⟨rfl, ⟨rfl, rfl, rfl, ?_, fun i hi => ?_⟩⟩
    · simp [Go.Sort.grow]
    · simp [Go.Sort.grow, Array.getElem?_append, hi]
  · cases h

end Go.Proofs.YtifkobejdldkbaaDoor.PE
