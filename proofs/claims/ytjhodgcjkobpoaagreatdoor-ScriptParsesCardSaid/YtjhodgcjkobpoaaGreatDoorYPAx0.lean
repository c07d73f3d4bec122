-- Laid by wip/myprint.py, a driver over the kit's print, for this claim: a lemma's text, not read by a person.
import Derived.Test.YtjhodgcjkobpoaaGreatDoorProg
import Derived.Below
import Derived.Deep.Draws
import Derived.Deep.AppendLies
import Derived.Maps.AppendAt
import Derived.OwnWalk
import Derived.Laws.BytesArg
import Derived.Laws.MakeOwn
import Derived.Laws.OwnMore
import Derived.Deep.OwnRows
import Derived.Tactics
import Derived.Lib.ConvBytes
import Derived.Laws.Slices
import Derived.WalkKit
import Derived.KernelRfl
import Derived.RowKit3
import Derived.Deep.LoopGhost
import Derived.Deep.QuietTactic
import Derived.BigQuiet
import Derived.WideLaws
import Derived.Deep.DeepCutAuto
import Derived.Deep.CutBlock
import Derived.Deep.RegionHeld3
import Derived.Laws.Rows
import Derived.Lib.AppendStr
import Derived.ArgAppend
import Derived.Laws.IdiomCopy
import Derived.OrdersHeld
import Derived.Laws.BitsLemmas
import Derived.RowKit
import Derived.Lib.ItoaNum
import Derived.Lib.LaidTab
import Derived.Test.YtjhodgcjkobpoaaGreatDoorYW
namespace Go.Proofs.YtjhodgcjkobpoaaGreatDoor.PA
open Go.RowKit Go.Proofs.YtjhodgcjkobpoaaGreatDoorW.PrintWords Go.Proofs.YtjhodgcjkobpoaaGreatDoorW.PrintLast Go.Proofs.YtjhodgcjkobpoaaGreatDoorW.PrintMore
attribute [local go_sem] max2_int min2_int max_two min_two max_three min_three max_four min_four   -- for this text's walks alone
set_option linter.unusedVariables false
set_option linter.unusedSimpArgs false



def errW : Option Int → Value
  | none => .nilIface
  | some c => .iface 0 (.int .i64 c)
theorem errW_none : errW none = .nilIface := rfl
theorem errW_some (c : Int) : errW (some c) = .iface 0 (.int .i64 c) := rfl

/-- A variable that is an array of strings holds these. -/
def StrIs (P : Program) (w : World) (name : String) (L : List ByteArray) : Prop := w.var? P name = some (L.map Value.string).toArray
theorem StrIs.cell {P : Program} {W : World} {name : String} {L : List ByteArray} {g : Nat} (h : StrIs P W name L) (hg : P.globalNamed name = some g) (i : Nat) (s : ByteArray) (hi : L[i]? = some s) :
    W.cell? ⟨g, i, none⟩ = some (.string s) := by
  have := World.var?_cell hg h i
  simpa [hi] using this
def namesL : List ByteArray := [⟨#[]⟩, ⟨#[111, 112, 101, 110]⟩, ⟨#[112, 97, 121]⟩, ⟨#[114, 101, 116, 117, 114, 110]⟩, ⟨#[114, 101, 102, 117, 110, 100]⟩, ⟨#[119, 97, 105, 118, 101]⟩, ⟨#[112, 114, 111, 109, 105, 115, 101]⟩, ⟨#[114, 101, 115, 116, 114, 117, 99, 116, 117, 114, 101]⟩, ⟨#[100, 97, 121]⟩, ⟨#[116, 105, 99, 107]⟩, ⟨#[102, 97, 116, 101]⟩, ⟨#[99, 97, 108, 109]⟩, ⟨#[99, 114, 97, 115, 104]⟩, ⟨#[99, 111, 109, 112, 97, 99, 116]⟩, ⟨#[114, 101, 115, 116, 97, 114, 116]⟩, ⟨#[108, 111, 97, 110]⟩, ⟨#[112, 108, 97, 110]⟩, ⟨#[98, 111, 111, 107, 115]⟩, ⟨#[97, 103, 105, 110, 103]⟩, ⟨#[110, 111, 116, 105, 99, 101, 115]⟩, ⟨#[116, 105, 109, 101, 114, 115]⟩, ⟨#[116, 111, 100, 97, 121]⟩]
def typesL : List ByteArray := [⟨#[108, 101, 118, 101, 108]⟩, ⟨#[101, 113, 117, 97, 108]⟩, ⟨#[98, 97, 108, 108, 111, 111, 110]⟩]
/-- The tables stand as their initialisers lay them: the commands' words (block 0), the plans' words (block 2), the library's powers of ten (block 6). -/
def TabAt (w : World) : Prop := ∃ o0 o2 o3, w.heap[0]? = some o0 ∧ w.heap[2]? = some o2 ∧ w.heap[6]? = some o3 ∧
  (∀ W : World, W.heap[0]? = some o0 → StrIs Tryz.prog W "arrears/script.names" namesL) ∧
  (∀ W : World, W.heap[2]? = some o2 → StrIs Tryz.prog W "arrears/script.types" typesL) ∧
  (∀ W : World, W.heap[6]? = some o3 → Lib.TabIs Tryz.prog W "internal/strconv.uint64pow10" .u64 Lib.pow10Tab)
theorem TabAt_of {w W : World} (h : TabAt w) (e0 : W.heap[0]? = w.heap[0]?) (e2 : W.heap[2]? = w.heap[2]?) (e3 : W.heap[6]? = w.heap[6]?) : TabAt W := by
  obtain ⟨o0, o2, o3, h0, h2, h3, k⟩ := h
  exact ⟨o0, o2, o3, e0.trans h0, e2.trans h2, e3.trans h3, k⟩
theorem TabAt_lt {w : World} (h : TabAt w) : 6 < w.heap.size := by
  obtain ⟨o0, o2, o3, h0, h2, h3, k⟩ := h
  exact (Array.getElem?_eq_some_iff.1 h3).1
theorem TabAt_below {w W : World} (h : TabAt w) (hb : Below w.heap.size w W) : TabAt W :=
  have hl := TabAt_lt h
  TabAt_of h (hb.block 0 (by omega)) (hb.block 2 (by omega)) (hb.block 6 (by omega))
/-- .. and the library's variable MaxLen (block 3) holds some number, errors.errorType (block 1) stands as laid. -/
def PowAt (w : World) : Prop := TabAt w ∧ (∃ m, w.cell? ⟨3, 0, none⟩ = some (.int .i64 m)) ∧ w.cell? ⟨1, 0, none⟩ = some (.iface 98 (.agg #[.pointer (some ⟨9, 44, none⟩)]))
theorem PowAt_below {w W : World} (h : PowAt w) (hb : Below w.heap.size w W) : PowAt W := by
  obtain ⟨h1, ⟨m, h2⟩, h3⟩ := h
  exact ⟨TabAt_below h1 hb, ⟨m, (hb.cell (World.block_lt_of_cell? w _ h2)).trans h2⟩, (hb.cell (World.block_lt_of_cell? w _ h3)).trans h3⟩
theorem PowAt_alloc {w : World} (h : PowAt w) (o : Obj) : PowAt (w.alloc o) := PowAt_below h (below_alloc (Below.refl _ _) o)
theorem PowAt_drewN {w : World} (h : PowAt w) (n : Nat) : PowAt (w.drewN n) := h
theorem PowAt_drew {w : World} (h : PowAt w) : PowAt w.drew := h
theorem PowAt_tab {w : World} (h : PowAt w) : Lib.TabIs Tryz.prog w "internal/strconv.uint64pow10" .u64 Lib.pow10Tab := by
  obtain ⟨⟨o0, o2, o3, h0, h2, h3, k0, k2, k3⟩, _⟩ := h
  exact k3 w h3
theorem PowAt_name {w : World} (h : PowAt w) (i : Nat) (s : ByteArray) (hi : namesL[i]? = some s) : w.cell? ⟨0, i, none⟩ = some (.string s) := by
  obtain ⟨⟨o0, o2, o3, h0, h2, h3, k0, k2, k3⟩, _⟩ := h
  exact (k0 w h0).cell (by kernel_rfl) i s hi
theorem PowAt_type {w : World} (h : PowAt w) (i : Nat) (s : ByteArray) (hi : typesL[i]? = some s) : w.cell? ⟨2, i, none⟩ = some (.string s) := by
  obtain ⟨⟨o0, o2, o3, h0, h2, h3, k0, k2, k3⟩, _⟩ := h
  exact (k2 w h2).cell (by kernel_rfl) i s hi
theorem var_here {P : Program} {w : World} {name : String} {g : Nat} {cs : Array Value} (hg : P.globalNamed name = some g) (h : w.var? P name = some cs) :
    ∃ o, w.heap[g]? = some o ∧ ∀ W : World, W.heap[g]? = some o → W.var? P name = some cs := by
  have h' := h
  unfold World.var? at h'
  rw [hg, Option.bind_some] at h'
  cases ho : w.heap[g]? with
  | none => rw [ho] at h'; simp at h'
  | some o =>
    refine ⟨o, rfl, fun W hW => ?_⟩
    unfold World.var?
    rw [hg, Option.bind_some, hW]
    rw [ho] at h'
    exact h'
theorem PowAt_mk {w : World} (h0 : StrIs Tryz.prog w "arrears/script.names" namesL) (h2 : StrIs Tryz.prog w "arrears/script.types" typesL)
    (h3 : Lib.TabIs Tryz.prog w "internal/strconv.uint64pow10" .u64 Lib.pow10Tab) (hm : ∃ m, w.cell? ⟨3, 0, none⟩ = some (.int .i64 m)) (he : w.cell? ⟨1, 0, none⟩ = some (.iface 98 (.agg #[.pointer (some ⟨9, 44, none⟩)]))) : PowAt w := by
  obtain ⟨o0, e0, k0⟩ := var_here (g := 0) (by kernel_rfl) h0
  obtain ⟨o2, e2, k2⟩ := var_here (g := 2) (by kernel_rfl) h2
  obtain ⟨o3, e3, k3⟩ := var_here (g := 6) (by kernel_rfl) h3
  exact ⟨⟨o0, o2, o3, e0, e2, e3, k0, k2, k3⟩, hm, he⟩

/-- The library's variable internal/bytealg.MaxLen (block 0) holds some number. -/
def MaxAt (w : World) : Prop := ∃ m, w.cell? ⟨3, 0, none⟩ = some (.int .i64 m)
theorem MaxAt_below {w W : World} (h : MaxAt w) (hb : Below w.heap.size w W) : MaxAt W := by
  obtain ⟨m, hm⟩ := h
  exact ⟨m, (hb.cell (World.block_lt_of_cell? w _ hm)).trans hm⟩
theorem MaxAt_alloc {w : World} (h : MaxAt w) (o : Obj) : MaxAt (w.alloc o) := MaxAt_below h (below_alloc (Below.refl _ _) o)
theorem MaxAt_drewN {w : World} (h : MaxAt w) (n : Nat) : MaxAt (w.drewN n) := MaxAt_below h (pw_below_drewN (Below.refl _ _) n)
theorem MaxAt_drew {w : World} (h : MaxAt w) : MaxAt w.drew := MaxAt_below h (below_drew (Below.refl _ _))

theorem info5 : (Tryz.prog.info? 5).map (fun i => (i.zero, i.size, i.bytes)) = some (some (.int .u8 0), 1, 1) := by kernel_rfl
theorem info25 : (Tryz.prog.info? 25).map (fun i => (i.zero, i.size, i.bytes)) = some (some (.agg #[(.int .i64 0), (.int .i64 0), (.int .i64 0), (.int .i64 0), (.int .i64 0), (.int .i64 0), (.string ⟨#[]⟩)]), 7, 64) := by kernel_rfl
-- the values' own types
/-! #### struct type 25 -/
structure S25 where
  f0 : Int
  f1 : Int
  f2 : Int
  f3 : Int
  f4 : Int
  f5 : Int
  f6 : ByteArray
def z25 : S25 := ⟨(0 : Int), (0 : Int), (0 : Int), (0 : Int), (0 : Int), (0 : Int), (⟨#[]⟩ : ByteArray)⟩
def k25 : Kd S25 := Kd.iso (Kd.pair (Kd.int .i64) (Kd.pair (Kd.int .i64) (Kd.pair (Kd.int .i64) (Kd.pair (Kd.int .i64) (Kd.pair (Kd.int .i64) (Kd.pair (Kd.int .i64) Kd.string)))))) (fun x : S25 => (x.f0, x.f1, x.f2, x.f3, x.f4, x.f5, x.f6))
theorem k25_open {w : World} {x : S25} {cs : List Value} (h : k25.K w x cs) : cs = [.int .i64 x.f0, .int .i64 x.f1, .int .i64 x.f2, .int .i64 x.f3, .int .i64 x.f4, .int .i64 x.f5, .string x.f6] := by
  obtain ⟨_, _, rfl, rfl, ⟨_, _, rfl, rfl, ⟨_, _, rfl, rfl, ⟨_, _, rfl, rfl, ⟨_, _, rfl, rfl, ⟨_, _, rfl, rfl, rfl⟩⟩⟩⟩⟩⟩ := h
  exact rfl
theorem k25_openM {w : World} {base : Nat} {ok : Nat → Prop} {x : S25} {cs : List Value} (h : k25.M w base ok x cs) : cs = [.int .i64 x.f0, .int .i64 x.f1, .int .i64 x.f2, .int .i64 x.f3, .int .i64 x.f4, .int .i64 x.f5, .string x.f6] := by
  obtain ⟨_, _, rfl, rfl, ⟨_, _, rfl, rfl, ⟨_, _, rfl, rfl, ⟨_, _, rfl, rfl, ⟨_, _, rfl, rfl, ⟨_, _, rfl, rfl, rfl⟩⟩⟩⟩⟩⟩ := h
  exact rfl
theorem k25_mk (w : World) (x : S25)  : k25.K w x [.int .i64 x.f0, .int .i64 x.f1, .int .i64 x.f2, .int .i64 x.f3, .int .i64 x.f4, .int .i64 x.f5, .string x.f6] := ⟨[.int .i64 x.f0], [.int .i64 x.f1, .int .i64 x.f2, .int .i64 x.f3, .int .i64 x.f4, .int .i64 x.f5, .string x.f6], rfl, rfl, ⟨[.int .i64 x.f1], [.int .i64 x.f2, .int .i64 x.f3, .int .i64 x.f4, .int .i64 x.f5, .string x.f6], rfl, rfl, ⟨[.int .i64 x.f2], [.int .i64 x.f3, .int .i64 x.f4, .int .i64 x.f5, .string x.f6], rfl, rfl, ⟨[.int .i64 x.f3], [.int .i64 x.f4, .int .i64 x.f5, .string x.f6], rfl, rfl, ⟨[.int .i64 x.f4], [.int .i64 x.f5, .string x.f6], rfl, rfl, ⟨[.int .i64 x.f5], [.string x.f6], rfl, rfl, rfl⟩⟩⟩⟩⟩⟩
theorem k25_mkM (w : World) (base : Nat) (ok : Nat → Prop) (x : S25)  : k25.M w base ok x [.int .i64 x.f0, .int .i64 x.f1, .int .i64 x.f2, .int .i64 x.f3, .int .i64 x.f4, .int .i64 x.f5, .string x.f6] := ⟨[.int .i64 x.f0], [.int .i64 x.f1, .int .i64 x.f2, .int .i64 x.f3, .int .i64 x.f4, .int .i64 x.f5, .string x.f6], rfl, rfl, ⟨[.int .i64 x.f1], [.int .i64 x.f2, .int .i64 x.f3, .int .i64 x.f4, .int .i64 x.f5, .string x.f6], rfl, rfl, ⟨[.int .i64 x.f2], [.int .i64 x.f3, .int .i64 x.f4, .int .i64 x.f5, .string x.f6], rfl, rfl, ⟨[.int .i64 x.f3], [.int .i64 x.f4, .int .i64 x.f5, .string x.f6], rfl, rfl, ⟨[.int .i64 x.f4], [.int .i64 x.f5, .string x.f6], rfl, rfl, ⟨[.int .i64 x.f5], [.string x.f6], rfl, rfl, rfl⟩⟩⟩⟩⟩⟩
def rd_T25 (xs : List S25) (i : Int) : S25 := xs.getD i.toNat z25
theorem at_T25 {w : World} {A : Option Addr} {n : Nat} {xs : List S25} (h : Kd.C k25 w A n xs) (i : Int) (h0 : 0 ≤ i) (h1 : i < n) : ∃ ad , A = some ad ∧ w.cell? (ad.add (i.toNat * 7)) = some (.int .i64 (rd_T25 xs i).f0) ∧ w.cell? ⟨(ad.add (i.toNat * 7)).block, (ad.add (i.toNat * 7)).off + 1, none⟩ = some (.int .i64 (rd_T25 xs i).f1) ∧ w.cell? ⟨(ad.add (i.toNat * 7)).block, (ad.add (i.toNat * 7)).off + 2, none⟩ = some (.int .i64 (rd_T25 xs i).f2) ∧ w.cell? ⟨(ad.add (i.toNat * 7)).block, (ad.add (i.toNat * 7)).off + 3, none⟩ = some (.int .i64 (rd_T25 xs i).f3) ∧ w.cell? ⟨(ad.add (i.toNat * 7)).block, (ad.add (i.toNat * 7)).off + 4, none⟩ = some (.int .i64 (rd_T25 xs i).f4) ∧ w.cell? ⟨(ad.add (i.toNat * 7)).block, (ad.add (i.toNat * 7)).off + 5, none⟩ = some (.int .i64 (rd_T25 xs i).f5) ∧ w.cell? ⟨(ad.add (i.toNat * 7)).block, (ad.add (i.toNat * 7)).off + 6, none⟩ = some (.string (rd_T25 xs i).f6) := by
  obtain ⟨ad, c, e, _, hK, hc0⟩ := Kd.C_get h z25 i h0 h1
  have hc : ∀ j u, c[j]? = some u → w.cell? (ad.add (i.toNat * 7 + j)) = some u := hc0
  obtain rfl := k25_open hK
  exact ⟨ad, e, hc 0 _ rfl, by rw [← add_field _ _ 1 (by omega)]; exact hc 1 _ rfl, by rw [← add_field _ _ 2 (by omega)]; exact hc 2 _ rfl, by rw [← add_field _ _ 3 (by omega)]; exact hc 3 _ rfl, by rw [← add_field _ _ 4 (by omega)]; exact hc 4 _ rfl, by rw [← add_field _ _ 5 (by omega)]; exact hc 5 _ rfl, by rw [← add_field _ _ 6 (by omega)]; exact hc 6 _ rfl⟩

def rd_L4 (xs : List (List Int)) (i : Int) : (List Int) := xs.getD i.toNat ([] : List Int)
theorem at_L4 {w : World} {A : Option Addr} {n : Nat} {xs : List (List Int)} (h : Kd.C (Kd.slice 5 (Kd.int .u8)) w A n xs) (i : Int) (h0 : 0 ≤ i) (h1 : i < n) : ∃ ad A0 c0, A = some ad ∧ w.cell? (ad.add i.toNat) = some (.slice A0 (rd_L4 xs i).length c0) ∧ (rd_L4 xs i).length ≤ c0 ∧ (Kd.int .u8).C w A0 (rd_L4 xs i).length (rd_L4 xs i) := by
  obtain ⟨ad, c, e, _, hK, hc0⟩ := Kd.C_get h ([] : List Int) i h0 h1
  have hc : ∀ j u, c[j]? = some u → w.cell? (ad.add (i.toNat * 1 + j)) = some u := hc0
  obtain ⟨A0, c0, rfl, l0, g0⟩ := hK
  exact ⟨ad, A0, c0, e, by have hq := hc 0 _ rfl; rwa [Nat.mul_one, Nat.add_zero] at hq, l0, g0⟩

end Go.Proofs.YtjhodgcjkobpoaaGreatDoor.PA
