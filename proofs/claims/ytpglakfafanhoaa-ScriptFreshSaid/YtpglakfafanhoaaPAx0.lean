-- Laid by wip/myprint.py, a driver over the kit's print, for this claim: a lemma's text, not read by a person.
import Derived.Test.YtpglakfafanhoaaProg
import Derived.Below
import Derived.Deep.Draws
import Derived.Deep.AppendLies
import Derived.Maps.AppendAt
import Derived.OwnWalk
import Derived.Laws.BytesArg
import Derived.Laws.MakeOwn
import Derived.Laws.OwnMore
import Derived.Deep.OwnRows
import Derived.Tactics
import Derived.Lib.ConvBytes
import Derived.Laws.Slices
import Derived.WalkKit
import Derived.KernelRfl
import Derived.RowKit3
import Derived.Deep.LoopGhost
import Derived.Deep.QuietTactic
import Derived.BigQuiet
import Derived.WideLaws
import Derived.Deep.DeepCutAuto
import Derived.Deep.CutBlock
import Derived.Deep.RegionHeld3
import Derived.Laws.Rows
import Derived.Lib.AppendStr
import Derived.ArgAppend
import Derived.Laws.IdiomCopy
import Derived.OrdersHeld
import Derived.Laws.BitsLemmas
import Derived.RowKit
import Derived.Test.YtpglakfafanhoaaWWords
import Derived.Test.YtpglakfafanhoaaWLast
import Derived.Test.YtpglakfafanhoaaWTab
import Derived.Test.YtpglakfafanhoaaWFour
import Derived.Test.YtpglakfafanhoaaWQPut
import Derived.Test.YtpglakfafanhoaaWApart
import Derived.Test.YtpglakfafanhoaaWArr
import Derived.Test.YtpglakfafanhoaaWZeros
import Derived.Test.YtpglakfafanhoaaWFoot
import Derived.Test.YtpglakfafanhoaaWKept
import Derived.Test.YtpglakfafanhoaaWShare
import Derived.Test.YtpglakfafanhoaaWN
import Derived.Test.YtpglakfafanhoaaWFootNe
import Derived.Test.YtpglakfafanhoaaWAt
import Derived.Test.YtpglakfafanhoaaWEqStruct
import Derived.Test.YtpglakfafanhoaaWRepsOne
import Derived.Test.YtpglakfafanhoaaWInv
import Derived.Test.YtpglakfafanhoaaWInvWords
import Derived.Test.YtpglakfafanhoaaWGuard
import Derived.Test.YtpglakfafanhoaaWNEv
import Derived.Test.YtpglakfafanhoaaWMore
namespace Go.Proofs.Ytpglakfafanhoaa.PA
open Go.RowKit Go.Proofs.YtpglakfafanhoaaW.PrintWords Go.Proofs.YtpglakfafanhoaaW.PrintLast Go.Proofs.YtpglakfafanhoaaW.PrintMore
attribute [local go_sem] max2_int min2_int max_two min_two max_three min_three max_four min_four   -- for this text's walks alone
set_option linter.unusedVariables false
set_option linter.unusedSimpArgs false



def errW : Option Int → Value
  | none => .nilIface
  | some c => .iface 0 (.int .i64 c)
theorem errW_none : errW none = .nilIface := rfl
theorem errW_some (c : Int) : errW (some c) = .iface 0 (.int .i64 c) := rfl

/-- The library's variable internal/bytealg.MaxLen (block 0) holds some number. -/
def MaxAt (w : World) : Prop := ∃ m, w.cell? ⟨0, 0, none⟩ = some (.int .i64 m)
theorem MaxAt_below {w W : World} (h : MaxAt w) (hb : Below w.heap.size w W) : MaxAt W := by
  obtain ⟨m, hm⟩ := h
  exact ⟨m, (hb.cell (World.block_lt_of_cell? w _ hm)).trans hm⟩
theorem MaxAt_alloc {w : World} (h : MaxAt w) (o : Obj) : MaxAt (w.alloc o) := MaxAt_below h (below_alloc (Below.refl _ _) o)
theorem MaxAt_drewN {w : World} (h : MaxAt w) (n : Nat) : MaxAt (w.drewN n) := MaxAt_below h (pw_below_drewN (Below.refl _ _) n)
theorem MaxAt_drew {w : World} (h : MaxAt w) : MaxAt w.drew := MaxAt_below h (below_drew (Below.refl _ _))

theorem info5 : (Try.prog.info? 5).map (fun i => (i.zero, i.size, i.bytes)) = some (some (.int .u8 0), 1, 1) := by kernel_rfl
theorem info22 : (Try.prog.info? 22).map (fun i => (i.zero, i.size, i.bytes)) = some (some (.slice none 0 0), 1, 24) := by kernel_rfl
-- the values' own types
def rd_L1 (xs : List (List Int)) (i : Int) : (List Int) := xs.getD i.toNat ([] : List Int)
theorem at_L1 {w : World} {A : Option Addr} {n : Nat} {xs : List (List Int)} (h : Kd.C (Kd.slice 5 (Kd.int .u8)) w A n xs) (i : Int) (h0 : 0 ≤ i) (h1 : i < n) : ∃ ad A0 c0, A = some ad ∧ w.cell? (ad.add i.toNat) = some (.slice A0 (rd_L1 xs i).length c0) ∧ (rd_L1 xs i).length ≤ c0 ∧ (Kd.int .u8).C w A0 (rd_L1 xs i).length (rd_L1 xs i) := by
  obtain ⟨ad, c, e, _, hK, hc0⟩ := Kd.C_get h ([] : List Int) i h0 h1
  have hc : ∀ j u, c[j]? = some u → w.cell? (ad.add (i.toNat * 1 + j)) = some u := hc0
  obtain ⟨A0, c0, rfl, l0, g0⟩ := hK
  exact ⟨ad, A0, c0, e, by have hq := hc 0 _ rfl; rwa [Nat.mul_one, Nat.add_zero] at hq, l0, g0⟩

end Go.Proofs.Ytpglakfafanhoaa.PA
