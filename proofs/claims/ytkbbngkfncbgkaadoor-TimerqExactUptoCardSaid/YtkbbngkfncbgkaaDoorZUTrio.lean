/- Three holders of one list in memory: a queue at int, a queue at string, the document's list; what one of them turns leaves the others. No condition. -/
import Derived.Test.YtkbbngkfncbgkaaDoorZURef
import Derived.Test.YtkbbngkfncbgkaaDoorZIQSort
import Derived.Test.YtkbbngkfncbgkaaDoorZTQSort
import Derived.Test.YtkbbngkfncbgkaaDoorShelf
namespace Go.Proofs.YtkbbngkfncbgkaaDoor.UTrio
open Go.RowKit Go.Proofs.YtkbbngkfncbgkaaDoor.IQHeap Go.Proofs.YtkbbngkfncbgkaaDoor.URel Go.Proofs.YtkbbngkfncbgkaaDoor.URef Go.Proofs.YtkbbngkfncbgkaaDoorW.PrintWords
open Go.Proofs.YtkbbngkfncbgkaaDoor.IQWords (Ky KyOk Tn QS Hd)
set_option linter.unusedVariables false
set_option linter.unusedSimpArgs false
abbrev TnT := @Go.Proofs.YtkbbngkfncbgkaaDoor.TQWords.Tn
/-- The library's table of powers of ten (block 0) stands as its initialiser lays it. -/
def PowAt (w : World) : Prop := ∃ o, w.heap[0]? = some o ∧ ∀ W : World, W.heap[0]? = some o → Lib.TabIs Tryd.prog W "internal/strconv.uint64pow10" .u64 Lib.pow10Tab
theorem PowAt_of {w W : World} (h : PowAt w) (e : W.heap[0]? = w.heap[0]?) : PowAt W := by
  obtain ⟨o, h1, h2⟩ := h
  exact ⟨o, e.trans h1, h2⟩
theorem PowAt_lt {w : World} (h : PowAt w) : 0 < w.heap.size := by
  obtain ⟨o, h1, _⟩ := h
  exact (Array.getElem?_eq_some_iff.1 h1).1
theorem PowAt_tab {w : World} (h : PowAt w) : Lib.TabIs Tryd.prog w "internal/strconv.uint64pow10" .u64 Lib.pow10Tab := by
  obtain ⟨o, h1, h2⟩ := h
  exact h2 w h1
theorem PowAt_mk {w : World} (h : Lib.TabIs Tryd.prog w "internal/strconv.uint64pow10" .u64 Lib.pow10Tab) : PowAt w := by
  have hg : Tryd.prog.globalNamed "internal/strconv.uint64pow10" = some 0 := by kernel_rfl
  have h' := h
  unfold Lib.TabIs World.var? at h'
  rw [hg, Option.bind_some] at h'
  cases ho : w.heap[0]? with
  | none => rw [ho] at h'; simp at h'
  | some o =>
    refine ⟨o, ho, fun W hW => ?_⟩
    unfold Lib.TabIs World.var?
    rw [hg, Option.bind_some, hW]
    rw [ho] at h'
    exact h'
theorem tnI {w W : World} {S : Nat → Prop} (h : TnT w W S) : Tn w W S := ⟨h.os, h.tape, h.output, h.size, h.block⟩
theorem tnT {w W : World} {S : Nat → Prop} (h : Tn w W S) : TnT w W S := ⟨h.os, h.tape, h.output, h.size, h.block⟩
/-- The string that stands for a number. -/
def wd (n : Int) : ByteArray := ⟨#[118]⟩ ++ ⟨(Lib.itoa n).toArray⟩
def Bl (q m : Nat) (v : Value) (k : Nat) : Prop := k = q ∨ k = m ∨ v.ownBlock = some k
theorem Bl.own {q m : Nat} {v v1 : Value} {s : Nat} (h : ∀ k, v1.ownBlock = some k → v.ownBlock = some k ∨ s ≤ k) {k : Nat} (hk : Bl q m v1 k) : Bl q m v k ∨ s ≤ k :=
  hk.elim (fun e => .inl (.inl e)) fun hk => hk.elim (fun e => .inl (.inr (.inl e))) fun hk => (h k hk).imp (fun e => .inr (.inr e)) id
/-- What a call may turn (F), and what may be turned behind it (F'). -/
structure Out (w W : World) (F F' : Nat → Prop) : Prop where
  tn : Tn w W F
  sub : ∀ k, F' k → F k ∨ w.heap.size ≤ k
theorem Out.refl (w : World) (F : Nat → Prop) : Out w w F F := ⟨Tn.refl _ _, fun _ h => .inl h⟩
theorem Out.trans {w W W2 : World} {F F1 F2 : Nat → Prop} (h : Out w W F F1) (k : Out W W2 F1 F2) : Out w W2 F F2 :=
  ⟨h.tn.then_ k.tn h.sub, fun i hi => (k.sub i hi).elim (h.sub i) fun h2 => .inr (Nat.le_trans h.tn.size h2)⟩
theorem Out.of_tn {w W : World} (h : Tn w W fun _ => False) (F : Nat → Prop) : Out w W F F := ⟨h.mono fun _ h => h.elim, fun _ h => .inl h⟩
theorem Out.alloc (w : World) (o : Obj) (F : Nat → Prop) : Out w (w.alloc o) F F := .of_tn (Tn.alloc w o _) F
theorem Out.drewN {w W : World} {F F' : Nat → Prop} (h : Out w W F F') (m : Nat) : Out w (W.drewN m) F F' := ⟨h.tn.drewN m, h.sub⟩
theorem Out.drew {w W : World} {F F' : Nat → Prop} (h : Out w W F F') : Out w W.drew F F' := ⟨h.tn.drew, h.sub⟩
/-- A block that no call turns. -/
structure Bx (w : World) (F : Nat → Prop) (b : Nat) (o : Obj) : Prop where
  at_ : w.heap[b]? = some o
  out : ¬ F b
theorem Bx.kept {w W : World} {F F' : Nat → Prop} {b : Nat} {o : Obj} (h : Bx w F b o) (k : Out w W F F') : Bx W F' b o :=
  ⟨k.tn.blk h.at_ h.out, fun hb => (k.sub b hb).elim h.out fun h2 => by have := (Array.getElem?_eq_some_iff.1 h.at_).1; omega⟩
/-- The memory of a trio: the blocks F are its own. -/
structure TM (B : Nat) (w : World) (F : Nat → Prop) (qi mi : Nat) (vi : Value) (L : List (Ky × Int)) (qt mt : Nat) (vt : Value) (M : List (Ky × ByteArray)) (u : Value) (X : List (Ky × Int)) : Prop where
  i : QS w qi vi mi L
  t : Go.Proofs.YtkbbngkfncbgkaaDoor.TQWords.QS w qt vt mt M
  r : RL B w u X
  fi : ∀ k, Bl qi mi vi k → F k
  ft : ∀ k, Bl qt mt vt k → F k
  fr : ∀ k, u.ownBlock = some k → F k
  fb : ∀ k, F k → B ≤ k ∧ k < w.heap.size
  ait : ∀ k, Bl qi mi vi k → ¬ Bl qt mt vt k
  air : ∀ k, u.ownBlock = some k → ¬ Bl qi mi vi k
  atr : ∀ k, u.ownBlock = some k → ¬ Bl qt mt vt k
  bz : B ≤ w.heap.size
  pw : PowAt w
  p0 : 0 < B
section
variable {B : Nat} {w W : World} {F : Nat → Prop} {qi mi : Nat} {vi : Value} {L : List (Ky × Int)} {qt mt : Nat} {vt : Value} {M : List (Ky × ByteArray)} {u : Value} {X : List (Ky × Int)}
theorem TM.frame {S : Nat → Prop} (h : TM B w F qi mi vi L qt mt vt M u X) (ht : Tn w W S) (hS : ∀ k, F k → ¬ S k) (h0 : ¬ S 0) : TM B W F qi mi vi L qt mt vt M u X :=
  ⟨h.i.kept ht (hS _ (h.fi _ (.inl rfl))) (hS _ (h.fi _ (.inr (.inl rfl)))) (fun k hk => hS _ (h.fi _ (.inr (.inr hk)))),
   h.t.kept (tnT ht) (hS _ (h.ft _ (.inl rfl))) (hS _ (h.ft _ (.inr (.inl rfl)))) (fun k hk => hS _ (h.ft _ (.inr (.inr hk)))),
   h.r.kept ht (fun k hk => hS k (h.fr k hk)), h.fi, h.ft, h.fr, fun k hk => ⟨(h.fb k hk).1, Nat.lt_of_lt_of_le (h.fb k hk).2 ht.size⟩, h.ait, h.air, h.atr, Nat.le_trans h.bz ht.size, PowAt_of h.pw (ht.block 0 (PowAt_lt h.pw) h0), h.p0⟩
theorem TM.still (h : TM B w F qi mi vi L qt mt vt M u X) (ht : Tn w W fun _ => False) : TM B W F qi mi vi L qt mt vt M u X := h.frame ht (fun _ _ h => h) (fun h => h)
theorem TM.f0 (h : TM B w F qi mi vi L qt mt vt M u X) : ¬ F 0 := fun h0 => by have := (h.fb 0 h0).1; have := h.p0; omega
theorem TM.new (h : TM B w F qi mi vi L qt mt vt M u X) {k : Nat} (hk : w.heap.size ≤ k) : ¬ F k := fun h0 => by have := (h.fb k h0).2; omega
/-- .. with what is new since. -/
def Fx (F : Nat → Prop) (w W : World) (k : Nat) : Prop := F k ∨ (w.heap.size ≤ k ∧ k < W.heap.size)
theorem Fx.out {S : Nat → Prop} (ht : Tn w W S) (hS : ∀ k, S k → F k) : Out w W F (Fx F w W) := ⟨ht.mono hS, fun k hk => hk.imp id fun h => h.1⟩
theorem TM.fbx (h : TM B w F qi mi vi L qt mt vt M u X) {S : Nat → Prop} (ht : Tn w W S) : ∀ k, Fx F w W k → B ≤ k ∧ k < W.heap.size := fun k hk => hk.elim (fun h1 => ⟨(h.fb k h1).1, Nat.lt_of_lt_of_le (h.fb k h1).2 ht.size⟩) fun h1 => ⟨Nat.le_trans h.bz h1.1, h1.2⟩
/-- The list turns. -/
theorem TM.ref {u1 : Value} {X1 : List (Ky × Int)} (h : TM B w F qi mi vi L qt mt vt M u X) (hr : RL B W u1 X1) (ht : Tn w W fun q => u.ownBlock = some q) (hu : ∀ q, u1.ownBlock = some q → u.ownBlock = some q ∨ w.heap.size ≤ q) : TM B W (Fx F w W) qi mi vi L qt mt vt M u1 X1 :=
  ⟨h.i.kept ht (fun e => h.air _ e (.inl rfl)) (fun e => h.air _ e (.inr (.inl rfl))) (fun k hk e => h.air _ e (.inr (.inr hk))),
   h.t.kept (tnT ht) (fun e => h.atr _ e (.inl rfl)) (fun e => h.atr _ e (.inr (.inl rfl))) (fun k hk e => h.atr _ e (.inr (.inr hk))),
   hr, fun k hk => .inl (h.fi k hk), fun k hk => .inl (h.ft k hk), fun k hk => (hu k hk).elim (fun e => .inl (h.fr k e)) (fun e => .inr ⟨e, hr.lt k hk⟩), h.fbx ht,
   h.ait, fun k hk hb => (hu k hk).elim (fun e => h.air k e hb) (fun e => by have := (h.fb k (h.fi k hb)).2; omega), fun k hk hb => (hu k hk).elim (fun e => h.atr k e hb) (fun e => by have := (h.fb k (h.ft k hb)).2; omega),
   Nat.le_trans h.bz ht.size, PowAt_of h.pw (ht.block 0 (PowAt_lt h.pw) (fun e => h.f0 (h.fr 0 e))), h.p0⟩
theorem qsI_lt {v : Value} {q m : Nat} {L : List (Ky × Int)} (h : QS w q v m L) : ∀ k, Bl q m v k → k < w.heap.size := fun k hk => by
  have hb := Go.Proofs.YtkbbngkfncbgkaaDoor.IQTake.qs_lts h
  rcases hk with e | e | e
  · omega
  · omega
  · exact hb.2.2 k e
theorem qsT_lt {v : Value} {q m : Nat} {L : List (Ky × ByteArray)} (h : Go.Proofs.YtkbbngkfncbgkaaDoor.TQWords.QS w q v m L) : ∀ k, Bl q m v k → k < w.heap.size := fun k hk => by
  have hb := Go.Proofs.YtkbbngkfncbgkaaDoor.TQTake.qs_lts h
  rcases hk with e | e | e
  · omega
  · omega
  · exact hb.2.2 k e
/-- The queue at int turns. -/
theorem TM.int {v1 : Value} {L1 : List (Ky × Int)} (h : TM B w F qi mi vi L qt mt vt M u X) (hq : QS W qi v1 mi L1) (ht : Tn w W (Bl qi mi vi)) (hv : ∀ q, v1.ownBlock = some q → vi.ownBlock = some q ∨ w.heap.size ≤ q) : TM B W (Fx F w W) qi mi v1 L1 qt mt vt M u X :=
  ⟨hq, h.t.kept (tnT ht) (fun e => h.ait _ e (.inl rfl)) (fun e => h.ait _ e (.inr (.inl rfl))) (fun k hk e => h.ait _ e (.inr (.inr hk))), h.r.kept ht (fun k hk => h.air k hk),
   fun k hk => (Bl.own hv hk).elim (fun e => .inl (h.fi k e)) (fun e => .inr ⟨e, qsI_lt hq k hk⟩), fun k hk => .inl (h.ft k hk), fun k hk => .inl (h.fr k hk), h.fbx ht,
   fun k hk hb => (Bl.own hv hk).elim (fun e => h.ait k e hb) (fun e => by have := (h.fb k (h.ft k hb)).2; omega), fun k hk hb => (Bl.own hv hb).elim (fun e => h.air k hk e) (fun e => by have := (h.fb k (h.fr k hk)).2; omega), h.atr,
   Nat.le_trans h.bz ht.size, PowAt_of h.pw (ht.block 0 (PowAt_lt h.pw) (fun e => h.f0 (h.fi 0 e))), h.p0⟩
/-- The queue at string turns. -/
theorem TM.txt {v1 : Value} {M1 : List (Ky × ByteArray)} (h : TM B w F qi mi vi L qt mt vt M u X) (hq : Go.Proofs.YtkbbngkfncbgkaaDoor.TQWords.QS W qt v1 mt M1) (ht : Tn w W (Bl qt mt vt)) (hv : ∀ q, v1.ownBlock = some q → vt.ownBlock = some q ∨ w.heap.size ≤ q) : TM B W (Fx F w W) qi mi vi L qt mt v1 M1 u X :=
  ⟨h.i.kept ht (fun e => h.ait _ (.inl rfl) e) (fun e => h.ait _ (.inr (.inl rfl)) e) (fun k hk e => h.ait _ (.inr (.inr hk)) e), hq, h.r.kept ht (fun k hk => h.atr k hk),
   fun k hk => .inl (h.fi k hk), fun k hk => (Bl.own hv hk).elim (fun e => .inl (h.ft k e)) (fun e => .inr ⟨e, qsT_lt hq k hk⟩), fun k hk => .inl (h.fr k hk), h.fbx ht,
   fun k hk hb => (Bl.own hv hb).elim (fun e => h.ait k hk e) (fun e => by have := (h.fb k (h.fi k hk)).2; omega), h.air, fun k hk hb => (Bl.own hv hb).elim (fun e => h.atr k hk e) (fun e => by have := (h.fb k (h.fr k hk)).2; omega),
   Nat.le_trans h.bz ht.size, PowAt_of h.pw (ht.block 0 (PowAt_lt h.pw) (fun e => h.f0 (h.ft 0 e))), h.p0⟩
end
/-- The three hold the same. -/
structure Same (L : List (Ky × Int)) (M : List (Ky × ByteArray)) (X : List (Ky × Int)) : Prop where
  i : Rel Go.Proofs.YtkbbngkfncbgkaaDoor.IQOrd.ltI Go.Proofs.YtkbbngkfncbgkaaDoor.IQWords.d0 L X
  t : Rel Go.Proofs.YtkbbngkfncbgkaaDoor.TQOrd.ltI Go.Proofs.YtkbbngkfncbgkaaDoor.TQWords.d0 M (X.map (tw wd))
  ok : Kok X
  vo : ∀ x ∈ X, -9223372036854775808 ≤ x.2 ∧ x.2 ≤ 9223372036854775807
end Go.Proofs.YtkbbngkfncbgkaaDoor.UTrio
