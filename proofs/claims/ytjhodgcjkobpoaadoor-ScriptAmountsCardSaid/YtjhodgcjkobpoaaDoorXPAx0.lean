-- Laid by wip/myprint.py, a driver over the kit's print, for this claim: a lemma's text, not read by a person.
import Derived.Test.YtjhodgcjkobpoaaDoorProg
import Derived.Below
import Derived.Deep.Draws
import Derived.Deep.AppendLies
import Derived.Maps.AppendAt
import Derived.OwnWalk
import Derived.Laws.BytesArg
import Derived.Laws.MakeOwn
import Derived.Laws.OwnMore
import Derived.Deep.OwnRows
import Derived.Tactics
import Derived.Lib.ConvBytes
import Derived.Laws.Slices
import Derived.WalkKit
import Derived.KernelRfl
import Derived.RowKit3
import Derived.Deep.LoopGhost
import Derived.Deep.QuietTactic
import Derived.BigQuiet
import Derived.WideLaws
import Derived.Deep.DeepCutAuto
import Derived.Deep.CutBlock
import Derived.Deep.RegionHeld3
import Derived.Laws.Rows
import Derived.Lib.AppendStr
import Derived.ArgAppend
import Derived.Laws.IdiomCopy
import Derived.OrdersHeld
import Derived.Laws.BitsLemmas
import Derived.RowKit
import Derived.Lib.ItoaNum
import Derived.Lib.LaidTab
import Derived.Test.YtjhodgcjkobpoaaDoorXW
namespace Go.Proofs.YtjhodgcjkobpoaaDoor.PA
open Go.RowKit Go.Proofs.YtjhodgcjkobpoaaDoorW.PrintWords Go.Proofs.YtjhodgcjkobpoaaDoorW.PrintLast Go.Proofs.YtjhodgcjkobpoaaDoorW.PrintMore
attribute [local go_sem] max2_int min2_int max_two min_two max_three min_three max_four min_four   -- for this text's walks alone
set_option linter.unusedVariables false
set_option linter.unusedSimpArgs false



def errW : Option Int → Value
  | none => .nilIface
  | some c => .iface 0 (.int .i64 c)
theorem errW_none : errW none = .nilIface := rfl
theorem errW_some (c : Int) : errW (some c) = .iface 0 (.int .i64 c) := rfl

/-- A variable that is an array of strings holds these. -/
def StrIs (P : Program) (w : World) (name : String) (L : List ByteArray) : Prop := w.var? P name = some (L.map Value.string).toArray
theorem StrIs.cell {P : Program} {W : World} {name : String} {L : List ByteArray} {g : Nat} (h : StrIs P W name L) (hg : P.globalNamed name = some g) (i : Nat) (s : ByteArray) (hi : L[i]? = some s) :
    W.cell? ⟨g, i, none⟩ = some (.string s) := by
  have := World.var?_cell hg h i
  simpa [hi] using this
def namesL : List ByteArray := [⟨#[]⟩, ⟨#[111, 112, 101, 110]⟩, ⟨#[112, 97, 121]⟩, ⟨#[114, 101, 116, 117, 114, 110]⟩, ⟨#[114, 101, 102, 117, 110, 100]⟩, ⟨#[119, 97, 105, 118, 101]⟩, ⟨#[112, 114, 111, 109, 105, 115, 101]⟩, ⟨#[114, 101, 115, 116, 114, 117, 99, 116, 117, 114, 101]⟩, ⟨#[100, 97, 121]⟩, ⟨#[116, 105, 99, 107]⟩, ⟨#[102, 97, 116, 101]⟩, ⟨#[99, 97, 108, 109]⟩, ⟨#[99, 114, 97, 115, 104]⟩, ⟨#[99, 111, 109, 112, 97, 99, 116]⟩, ⟨#[114, 101, 115, 116, 97, 114, 116]⟩, ⟨#[108, 111, 97, 110]⟩, ⟨#[112, 108, 97, 110]⟩, ⟨#[98, 111, 111, 107, 115]⟩, ⟨#[97, 103, 105, 110, 103]⟩, ⟨#[110, 111, 116, 105, 99, 101, 115]⟩, ⟨#[116, 105, 109, 101, 114, 115]⟩, ⟨#[116, 111, 100, 97, 121]⟩]
def typesL : List ByteArray := [⟨#[108, 101, 118, 101, 108]⟩, ⟨#[101, 113, 117, 97, 108]⟩, ⟨#[98, 97, 108, 108, 111, 111, 110]⟩]
/-- The tables stand as their initialisers lay them: the commands' words (block 0), the plans' words (block 2), the library's powers of ten (block 3). -/
def TabAt (w : World) : Prop := ∃ o0 o2 o3, w.heap[0]? = some o0 ∧ w.heap[2]? = some o2 ∧ w.heap[3]? = some o3 ∧
  (∀ W : World, W.heap[0]? = some o0 → StrIs Tryd.prog W "arrears/script.names" namesL) ∧
  (∀ W : World, W.heap[2]? = some o2 → StrIs Tryd.prog W "arrears/script.types" typesL) ∧
  (∀ W : World, W.heap[3]? = some o3 → Lib.TabIs Tryd.prog W "internal/strconv.uint64pow10" .u64 Lib.pow10Tab)
theorem TabAt_of {w W : World} (h : TabAt w) (e0 : W.heap[0]? = w.heap[0]?) (e2 : W.heap[2]? = w.heap[2]?) (e3 : W.heap[3]? = w.heap[3]?) : TabAt W := by
  obtain ⟨o0, o2, o3, h0, h2, h3, k⟩ := h
  exact ⟨o0, o2, o3, e0.trans h0, e2.trans h2, e3.trans h3, k⟩
theorem TabAt_lt {w : World} (h : TabAt w) : 3 < w.heap.size := by
  obtain ⟨o0, o2, o3, h0, h2, h3, k⟩ := h
  exact (Array.getElem?_eq_some_iff.1 h3).1
theorem TabAt_below {w W : World} (h : TabAt w) (hb : Below w.heap.size w W) : TabAt W :=
  have hl := TabAt_lt h
  TabAt_of h (hb.block 0 (by omega)) (hb.block 2 (by omega)) (hb.block 3 (by omega))
/-- .. and the library's variable MaxLen (block 4) holds some number, errors.errorType (block 1) stands as laid. -/
def PowAt (w : World) : Prop := TabAt w ∧ (∃ m, w.cell? ⟨4, 0, none⟩ = some (.int .i64 m)) ∧ w.cell? ⟨1, 0, none⟩ = some (.iface 95 (.agg #[.pointer (some ⟨9, 47, none⟩)]))
theorem PowAt_below {w W : World} (h : PowAt w) (hb : Below w.heap.size w W) : PowAt W := by
  obtain ⟨h1, ⟨m, h2⟩, h3⟩ := h
  exact ⟨TabAt_below h1 hb, ⟨m, (hb.cell (World.block_lt_of_cell? w _ h2)).trans h2⟩, (hb.cell (World.block_lt_of_cell? w _ h3)).trans h3⟩
theorem PowAt_alloc {w : World} (h : PowAt w) (o : Obj) : PowAt (w.alloc o) := PowAt_below h (below_alloc (Below.refl _ _) o)
theorem PowAt_drewN {w : World} (h : PowAt w) (n : Nat) : PowAt (w.drewN n) := h
theorem PowAt_drew {w : World} (h : PowAt w) : PowAt w.drew := h
theorem PowAt_tab {w : World} (h : PowAt w) : Lib.TabIs Tryd.prog w "internal/strconv.uint64pow10" .u64 Lib.pow10Tab := by
  obtain ⟨⟨o0, o2, o3, h0, h2, h3, k0, k2, k3⟩, _⟩ := h
  exact k3 w h3
theorem PowAt_name {w : World} (h : PowAt w) (i : Nat) (s : ByteArray) (hi : namesL[i]? = some s) : w.cell? ⟨0, i, none⟩ = some (.string s) := by
  obtain ⟨⟨o0, o2, o3, h0, h2, h3, k0, k2, k3⟩, _⟩ := h
  exact (k0 w h0).cell (by kernel_rfl) i s hi
theorem PowAt_type {w : World} (h : PowAt w) (i : Nat) (s : ByteArray) (hi : typesL[i]? = some s) : w.cell? ⟨2, i, none⟩ = some (.string s) := by
  obtain ⟨⟨o0, o2, o3, h0, h2, h3, k0, k2, k3⟩, _⟩ := h
  exact (k2 w h2).cell (by kernel_rfl) i s hi
theorem var_here {P : Program} {w : World} {name : String} {g : Nat} {cs : Array Value} (hg : P.globalNamed name = some g) (h : w.var? P name = some cs) :
    ∃ o, w.heap[g]? = some o ∧ ∀ W : World, W.heap[g]? = some o → W.var? P name = some cs := by
  have h' := h
  unfold World.var? at h'
  rw [hg, Option.bind_some] at h'
  cases ho : w.heap[g]? with
  | none => rw [ho] at h'; simp at h'
  | some o =>
    refine ⟨o, rfl, fun W hW => ?_⟩
    unfold World.var?
    rw [hg, Option.bind_some, hW]
    rw [ho] at h'
    exact h'
theorem PowAt_mk {w : World} (h0 : StrIs Tryd.prog w "arrears/script.names" namesL) (h2 : StrIs Tryd.prog w "arrears/script.types" typesL)
    (h3 : Lib.TabIs Tryd.prog w "internal/strconv.uint64pow10" .u64 Lib.pow10Tab) (hm : ∃ m, w.cell? ⟨4, 0, none⟩ = some (.int .i64 m)) (he : w.cell? ⟨1, 0, none⟩ = some (.iface 95 (.agg #[.pointer (some ⟨9, 47, none⟩)]))) : PowAt w := by
  obtain ⟨o0, e0, k0⟩ := var_here (g := 0) (by kernel_rfl) h0
  obtain ⟨o2, e2, k2⟩ := var_here (g := 2) (by kernel_rfl) h2
  obtain ⟨o3, e3, k3⟩ := var_here (g := 3) (by kernel_rfl) h3
  exact ⟨⟨o0, o2, o3, e0, e2, e3, k0, k2, k3⟩, hm, he⟩

theorem info5 : (Tryd.prog.info? 5).map (fun i => (i.zero, i.size, i.bytes)) = some (some (.int .u8 0), 1, 1) := by kernel_rfl
-- the values' own types

end Go.Proofs.YtjhodgcjkobpoaaDoor.PA
