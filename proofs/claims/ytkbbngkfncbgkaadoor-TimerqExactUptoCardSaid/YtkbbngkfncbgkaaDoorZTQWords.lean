/- Words on a queue of timers in memory: its struct, its row of items, its map from keys to places. No condition. -/
import Derived.Test.YtkbbngkfncbgkaaDoorProg
import Derived.Test.YtkbbngkfncbgkaaDoorZIQHeap
import Derived.Test.YtkbbngkfncbgkaaDoorZIQWords
import Derived.WalkKit
import Derived.Below
import Derived.Maps.OwnSet
import Derived.Laws.OwnMore
import Derived.WalkSmall
import Derived.DeepKeys4
import Derived.OwnWalk
namespace Go.Proofs.YtkbbngkfncbgkaaDoor.TQWords
open Go.RowKit Go.Maps Go.Proofs.YtkbbngkfncbgkaaDoor.IQHeap
set_option linter.unusedVariables false
set_option linter.unusedSimpArgs false
/-- A fact laid aside: no step of a walk looks at it. -/
structure Hd (p : Prop) : Prop where mk :: (out : p)
/-! What a call turns: the blocks of S, and what is new. -/
structure Tn (w W : World) (S : Nat → Prop) : Prop where
  os : W.os = w.os
  tape : W.tape = w.tape
  output : W.output = w.output
  size : w.heap.size ≤ W.heap.size
  block : ∀ k, k < w.heap.size → ¬ S k → W.heap[k]? = w.heap[k]?
section
variable {w W W2 : World} {S S2 : Nat → Prop}
theorem Tn.refl (w : World) (S : Nat → Prop) : Tn w w S := ⟨rfl, rfl, rfl, Nat.le_refl _, fun _ _ _ => rfl⟩
theorem Tn.then_ (h : Tn w W S) (k : Tn W W2 S2) (hs : ∀ k, S2 k → S k ∨ w.heap.size ≤ k) : Tn w W2 S :=
  ⟨k.os.trans h.os, k.tape.trans h.tape, k.output.trans h.output, Nat.le_trans h.size k.size, fun i hi hn => (k.block i (Nat.lt_of_lt_of_le hi h.size) (fun h2 => (hs i h2).elim hn (fun h3 => by omega))).trans (h.block i hi hn)⟩
theorem Tn.mono (h : Tn w W S) (hs : ∀ k, S k → S2 k) : Tn w W S2 := ⟨h.os, h.tape, h.output, h.size, fun i hi hn => h.block i hi (fun hk => hn (hs i hk))⟩
theorem Tn.of_below (h : Below w.heap.size w W) (S : Nat → Prop) : Tn w W S := ⟨h.os, h.tape, h.output, h.size, fun i hi _ => h.block i hi⟩
theorem Tn.of_grown {row : Option Nat} (h : w.grownBy W row) : Tn w W (fun k => some k = row) := ⟨h.os, h.tape, h.output, h.size, fun i hi hn => h.block i hi hn⟩
theorem Tn.below {B : Nat} (h : Tn w W S) (hB : B ≤ w.heap.size) (hs : ∀ k, S k → B ≤ k) : Below B w W := ⟨h.os, h.tape, h.output, h.size, fun i hi => h.block i (by omega) (fun hk => by have := hs i hk; omega)⟩
theorem Tn.drewN (h : Tn w W S) (m : Nat) : Tn w (W.drewN m) S := ⟨h.os, h.tape, h.output, h.size, h.block⟩
theorem Tn.drew (h : Tn w W S) : Tn w W.drew S := ⟨h.os, h.tape, h.output, h.size, h.block⟩
theorem Tn.blk {g : Nat} {o : Obj} (h : Tn w W S) (hb : w.heap[g]? = some o) (hn : ¬ S g) : W.heap[g]? = some o := (h.block g (Array.getElem?_eq_some_iff.1 hb).1 hn).trans hb
theorem Tn.grown {b : Nat} (h : Tn w W (fun k => k = b)) : w.grownBy W (some b) := ⟨h.os, h.tape, h.output, h.size, fun i hi hn => h.block i hi (fun e => hn (by rw [e]))⟩
theorem Tn.map {P : Program} {k : TypeId} {R : Value → Option (DataW Unit × List MemPlace)} {b n : Nat} {D : DataW Unit} (h : Tn w W S) (hm : w.ownsMap P k R b n D) (hn : ¬ S b) : W.ownsMap P k R b n D := by
  obtain ⟨es, clock, hb, F, hs, hD⟩ := hm
  exact ⟨es, clock, h.blk hb hn, F, hs, hD⟩
theorem Tn.row {base : Nat} {e : TypeId} {size n : Nat} {v : Value} {xs : List Value} (h : Tn w W S) (ho : w.ownsRow base e size v n xs) (hn : ∀ k, v.ownBlock = some k → ¬ S k) : W.ownsRow base e size v n xs := by
  obtain ⟨h1, h2⟩ := ho
  refine ⟨h1, ?_⟩
  rcases h2 with h2 | ⟨g, cap, cur, rfl, hg, hh, h3⟩
  · exact .inl h2
  · exact .inr ⟨g, cap, cur, rfl, hg, h.blk hh (hn g rfl), h3⟩
end
/-! Keys and items. -/
abbrev Ky := Go.Proofs.YtkbbngkfncbgkaaDoor.IQWords.Ky
abbrev KyOk := Go.Proofs.YtkbbngkfncbgkaaDoor.IQWords.KyOk
abbrev It := Ky × ByteArray
def d0 : It := (⟨0, 0, 0⟩, ByteArray.empty)
def ek (k : Ky) : List Value := [.int .i64 k.d, .int .i64 k.l, .int .i64 k.k]
def ei (x : It) : List Value := [.int .i64 x.1.d, .int .i64 x.1.l, .int .i64 x.1.k, .string x.2]
def kv (k : Ky) : Value := .agg #[.int .i64 k.d, .int .i64 k.l, .int .i64 k.k]
def kl (k : Ky) : Lit := .string (keyBytes [.int .i64 k.d, .int .i64 k.l, .int .i64 k.k])
theorem laidOut : laidOutB Tryd.prog = true := by kernel_rfl
theorem rowK : (24 : TypeId) < Tryd.prog.types.size := of_decide_eq_true (by kernel_rfl)
theorem cellsK : Tryd.prog.cellsOf 24 = 3 := by kernel_rfl
theorem law : Keyed Tryd.prog 24 := Keyed.of_law (deep_law_laid laidOut (m := 2) (by omega) rowK (by kernel_rfl) (by rw [Tryd.underlying24]))
theorem zeroI (w : World) : (zeroValue 3).run Tryd.prog w = .ok (.int .i64 0) w := by kernel_rfl
theorem key_is {k : Ky} (h : KyOk k) : keyOf Tryd.prog 24 (kv k) = some (kl k) := by
  have h1 := h.d
  have h2 := h.l
  have h3 := h.k
  have e1 : Tryd.prog.keyType 24 = true := by kernel_rfl
  have e2 : (kv k).formed Tryd.prog 24 = true := by simp [Value.formed, kv, Tryd.underlying24, cellsK]
  have e3 : Tryd.prog.cellsOf 3 = 1 := by kernel_rfl
  have e4 : ∀ d, Tryd.prog.keyLits (d + 2) 24 (kv k).cells.toList = some [.int .i64 k.d, .int .i64 k.l, .int .i64 k.k] := by
    intro d
    simp [Program.keyLits, Tryd.underlying24, Tryd.underlying3, cellsK, e3, kv, Value.cells, h1, h2, h3, List.mapM_cons, List.mapM_nil]
  unfold keyOf
  rw [Tryd.underlying24]
  have e5 : Tryd.prog.types.size + 1 = (Tryd.prog.types.size - 1) + 2 := by
    have h : 24 < Tryd.prog.types.size := rowK
    omega
  simp only [e1, e2, Bool.and_self, if_true]
  rw [e5, e4]
  rfl
theorem kl_inj {k k' : Ky} (h : KyOk k) (h' : KyOk k') (e : kl k = kl k') : k = k' := by
  have h1 := key_is h
  have h2 := key_is h'
  rw [← e] at h2
  have h3 := law.inj h1 h2
  unfold kv at h3
  cases k
  cases k'
  simpa using h3
/-! The map: a key's place. -/
def PMf (w : World) (mb s : Nat) (f : Ky → Option Nat) : Prop :=
  ∃ D : DataW Unit, w.ownsMap Tryd.prog 24 (plainElem Tryd.prog 3) mb s D ∧ Maps.size D = s ∧ ∀ k, KyOk k → Maps.has D (kl k) = (f k).isSome ∧ D.atKey (kl k) (.lit (.int .i64 0)) = .lit (.int .i64 ((f k).getD 0 : Nat))
def upd (f : Ky → Option Nat) (k : Ky) (v : Option Nat) : Ky → Option Nat := fun k' => if k' = k then v else f k'
theorem tight {w : World} {P : Program} {k : TypeId} {R : Value → Option (DataW Unit × List MemPlace)} {b n : Nat} {D : DataW Unit} (h : w.ownsMap P k R b n D) : w.ownsMap P k R b (Maps.size D) D := by
  obtain ⟨es, clock, hb, F, hs, rfl⟩ := h
  refine ⟨es, clock, hb, F, ?_, rfl⟩
  rw [Maps.size_eq, length_sorted]
  simp
theorem PMf.lt {w : World} {mb s : Nat} {f : Ky → Option Nat} (h : PMf w mb s f) : ∃ es clock, w.heap[mb]? = some (.map es clock) := by
  obtain ⟨D, ⟨es, clock, hb, _⟩, _⟩ := h
  exact ⟨es, clock, hb⟩
theorem PMf.kept {w W : World} {S : Nat → Prop} {mb s : Nat} {f : Ky → Option Nat} (h : PMf w mb s f) (ht : Tn w W S) (hn : ¬ S mb) : PMf W mb s f := by
  obtain ⟨D, h1, h2⟩ := h
  exact ⟨D, ht.map h1 hn, h2⟩
theorem PMf.drew {w : World} {mb s : Nat} {f : Ky → Option Nat} (h : PMf w mb s f) : PMf w.drew mb s f := h
theorem PMf.made (w : World) : PMf (w.alloc (.map #[] 0)) w.heap.size 0 (fun _ => none) :=
  ⟨.map [], World.ownsMap_made _ _ _ _, rfl, fun k _ => ⟨rfl, rfl⟩⟩
theorem PMf.ext {w : World} {mb s : Nat} {f g : Ky → Option Nat} (h : PMf w mb s f) (e : ∀ k, KyOk k → f k = g k) : PMf w mb s g := by
  obtain ⟨D, h1, h2, h3⟩ := h
  exact ⟨D, h1, h2, fun k hk => by rw [← e k hk]; exact h3 k hk⟩
section
variable {P : Program} {ops : Array Oper} {rest : List Oper} {o : Oper} {a : Act} {Q : Exit → Act → World → Prop} {w : World} {mb s : Nat} {f : Ky → Option Nat} {k : Ky}
theorem PMf.look (h : PMf w mb s f) (hk : KyOk k) (hg : o.guard = none) (m x : Operand) (hop : o.op = Op.lookup 51 m x true)
    (hm : a.eval m = .map (some mb)) (hx : a.eval x = kv k)
    (hK : wpList Tryd.prog ops Q rest (a.put o.dst (.tuple #[.int .i64 ((f k).getD 0 : Nat), .bool (f k).isSome])) w) : wpList Tryd.prog ops Q (o :: rest) a w := by
  obtain ⟨D, h1, h2, h3⟩ := h
  obtain ⟨e1, e2⟩ := h3 k hk
  refine wpList_lookup_own_ok_int w hg m x 51 hop 24 3 .i64 law Tryd.underlying51 Tryd.underlying3 (zeroI _) mb s D hm h1 _ (kl k) hx (key_is hk) ?_
  intro c hc _
  rw [e2] at hc
  injection hc with hc
  injection hc with _ hc
  rw [e1, ← hc]
  exact hK
set_option maxRecDepth 100000 in
theorem PMf.run (h : PMf w mb s f) (hk : KyOk k) : (Instr.lookup 51 (.map (some mb)) (.agg #[.int .i64 k.d, .int .i64 k.l, .int .i64 k.k]) true).run Tryd.prog w = .ok (.tuple #[.int .i64 ((f k).getD 0 : Nat), .bool (f k).isSome]) w := by
  obtain ⟨D, h1, h2, h3⟩ := h
  obtain ⟨e1, e2⟩ := h3 k hk
  obtain ⟨v, ps, hr, hv⟩ := h1.look_ok law Tryd.underlying51 (zeroI _) (plainElem_int Tryd.underlying3 (by decide)) (key_is hk)
  obtain ⟨c, rfl, hc, _⟩ := plainElem_int_inv Tryd.underlying3 hv
  have hc1 := congrArg Prod.fst hc
  rw [e2] at hc1
  injection hc1 with hc1
  injection hc1 with _ hc1
  rw [← hc1, e1] at hr
  exact hr
theorem put_agree {D : DataW Unit} (hI : IsMap D) (hk : KyOk k) (i : Nat) (h3 : ∀ k, KyOk k → Maps.has D (kl k) = (f k).isSome ∧ D.atKey (kl k) (.lit (.int .i64 0)) = .lit (.int .i64 ((f k).getD 0 : Nat))) :
    ∀ k', KyOk k' → Maps.has (D.put (kl k) (.lit (.int .i64 i))) (kl k') = (upd f k (some i) k').isSome ∧ (D.put (kl k) (.lit (.int .i64 i))).atKey (kl k') (.lit (.int .i64 0)) = .lit (.int .i64 ((upd f k (some i) k').getD 0 : Nat)) := by
  intro k' hk'
  unfold upd
  by_cases e : k' = k
  · subst e
    rw [if_pos rfl]
    exact ⟨has_put_same hI (law.key (key_is hk')) _, atKey_put_same hI (law.key (key_is hk')) _ _⟩
  · rw [if_neg e]
    have hne : kl k' ≠ kl k := fun h => e (kl_inj hk' hk h)
    rw [has_put_other hne, atKey_put_other hne]
    exact h3 k' hk'
theorem PMf.store (h : PMf w mb s f) (hk : KyOk k) (i : Nat) (hi : (Lit.int .i64 (i : Int)).wf = true) (hs : s < 9000000000000000000) (hg : o.guard = none) (m x v : Operand) (hop : o.op = Op.mapUpdate 51 m x v)
    (hm : a.eval m = .map (some mb)) (hx : a.eval x = kv k) (hv : a.eval v = .int .i64 i)
    (hK : ∀ w', PMf w' mb (if (f k).isSome = true then s else s + 1) (upd f k (some i)) → Tn w w' (fun q => q = mb) → wpList Tryd.prog ops Q rest (a.put o.dst undef) w') : wpList Tryd.prog ops Q (o :: rest) a w := by
  obtain ⟨D, h1, h2, h3⟩ := h
  have hT := h1.tidy law
  refine wpList_mapUpdate_in w hg m x v 51 hop 24 3 law Tryd.underlying51 _ mb s D hm h1 (by unfold maxLen; omega) _ _ (kl k) hx hv (key_is hk) _ [] (plainElem_int Tryd.underlying3 hi) ?_
  intro w' h4 h5
  refine hK w' ⟨_, ?_, ?_, put_agree hT.isMap hk i h3⟩ ?_
  · have h6 := tight h4
    rw [size_put hT, (h3 k hk).1, h2] at h6
    exact h6
  · rw [size_put hT, (h3 k hk).1, h2]
  · have h7 := h5.grown
    exact ⟨h7.os, h7.tape, h7.output, h7.size, fun q hq hn => h7.block q hq (fun e => hn (by injection e))⟩
theorem PMf.drop (h : PMf w mb s f) (hk : KyOk k) (hg : o.guard = none) (m x : Operand) (hop : o.op = Op.call { callee := Callee.builtin Builtin.delete, args := #[m, x], argTypes := #[51, 24] })
    (hm : a.eval m = .map (some mb)) (hx : a.eval x = kv k)
    (hK : ∀ w', PMf w' mb (if (f k).isSome = true then s - 1 else s) (upd f k none) → Tn w w' (fun q => q = mb) → wpList Tryd.prog ops Q rest (a.put o.dst (.tuple #[])) w') : wpList Tryd.prog ops Q (o :: rest) a w := by
  obtain ⟨D, h1, h2, h3⟩ := h
  have hT := h1.tidy law
  refine wpList_delete_own w hg m x 51 24 hop 3 law Tryd.underlying51 _ mb s D hm h1 _ (kl k) hx (key_is hk) ?_
  intro w' h4 h5
  have h8 : Maps.size (D.del (kl k)) = if (f k).isSome = true then s - 1 else s := by
    have h9 := size_del (k := kl k) hT
    rw [(h3 k hk).1, h2] at h9
    split
    · rename_i e; rw [if_pos e] at h9; omega
    · rename_i e; rw [if_neg e] at h9; omega
  refine hK w' ⟨D.del (kl k), ?_, h8, ?_⟩ ?_
  · have h6 := tight h4
    rw [h8] at h6
    exact h6
  · intro k' hk'
    unfold upd
    by_cases e : k' = k
    · subst e
      rw [if_pos rfl]
      exact ⟨has_del_same, atKey_del_same _⟩
    · rw [if_neg e]
      have hne : kl k' ≠ kl k := fun h => e (kl_inj hk' hk h)
      rw [has_del_other hne, atKey_del_other hne]
      exact h3 k' hk'
  · have h7 := h5.grown
    exact ⟨h7.os, h7.tape, h7.output, h7.size, fun q hq hn => h7.block q hq (fun e => hn (by injection e))⟩
end
/-! The row of items. -/
def IR (w : World) (v : Value) (L : List It) : Prop := w.ownsRow 0 71 4 v L.length (L.flatMap ei)
theorem flat_length : ∀ L : List It, (L.flatMap ei).length = L.length * 4
  | [] => rfl
  | x :: r => by
    rw [List.flatMap_cons, List.length_append, flat_length r]
    simp [ei]
    omega
theorem flat_get : ∀ (L : List It) (i c : Nat), i < L.length → c < 4 → (L.flatMap ei)[i * 4 + c]? = (ei (at_ d0 L i))[c]?
  | x :: r, 0, c, _, hc => by
    rw [List.flatMap_cons, List.getElem?_append_left (by simp [ei]; omega), Nat.zero_mul, Nat.zero_add]
    rfl
  | x :: r, i + 1, c, hi, hc => by
    rw [List.flatMap_cons, List.getElem?_append_right (by simp [ei]; omega), show (i + 1) * 4 + c - (ei x).length = i * 4 + c by simp [ei]; omega, flat_get r i c (by simpa using hi) hc]
    rfl
theorem flat_set : ∀ (L : List It) (i : Nat) (x : It), i < L.length → ((((L.flatMap ei).set (i * 4) (.int .i64 x.1.d)).set (i * 4 + 1) (.int .i64 x.1.l)).set (i * 4 + 2) (.int .i64 x.1.k)).set (i * 4 + 3) (.string x.2) = (L.set i x).flatMap ei
  | y :: r, 0, x, _ => by simp [ei, List.flatMap_cons]
  | y :: r, i + 1, x, hi => by
    rw [List.set_cons_succ, List.flatMap_cons, List.flatMap_cons, ← flat_set r i x (by simpa using hi)]
    have e : ∀ c, (i + 1) * 4 + c = (i * 4 + c) + 4 := fun c => by omega
    rw [show (i + 1) * 4 = i * 4 + 4 by omega]
    simp [ei, Nat.add_right_comm]
section
variable {w : World} {b cap : Nat} {L : List It} {v : Value}
theorem IR.form (h : IR w v L) (hl : 0 < L.length) : ∃ b cap, v = .slice (some ⟨b, 0, none⟩) L.length cap := by
  rcases h.2 with ⟨_, h0⟩ | ⟨g, cap, cur, rfl, _⟩
  · omega
  · exact ⟨g, cap, rfl⟩
theorem IR.forms (h : IR w v L) : ∃ A cap, v = .slice A L.length cap := by
  rcases h.2 with ⟨rfl, h0⟩ | ⟨g, cap, cur, rfl, _⟩
  · exact ⟨none, 0, by rw [h0]⟩
  · exact ⟨_, cap, rfl⟩
theorem IR.cell (h : IR w (.slice (some ⟨b, 0, none⟩) L.length cap) L) {i : Nat} (hi : i < L.length) (c : Nat) (hc : c < 4) : w.cell? ⟨b, i * 4 + c, none⟩ = (ei (at_ d0 L i))[c]? := by
  rw [World.ownsRow.cellAt h (i * 4 + c) (by omega)]
  exact flat_get L i c hi hc
theorem IR.frozen (h : IR w (.slice (some ⟨b, 0, none⟩) L.length cap) L) (j : Nat) : w.frozen? ⟨b, j, none⟩ = false := World.ownsRow.frozenAt h j
def put4 (w : World) (b i : Nat) (x : It) : World := (((w.setCell ⟨b, i * 4, none⟩ (.int .i64 x.1.d)).setCell ⟨b, i * 4 + 1, none⟩ (.int .i64 x.1.l)).setCell ⟨b, i * 4 + 2, none⟩ (.int .i64 x.1.k)).setCell ⟨b, i * 4 + 3, none⟩ (.string x.2)
theorem IR.put (h : IR w (.slice (some ⟨b, 0, none⟩) L.length cap) L) {i : Nat} (hi : i < L.length) (x : It) : IR (put4 w b i x) (.slice (some ⟨b, 0, none⟩) L.length cap) (L.set i x) ∧ Tn w (put4 w b i x) (fun k => k = b) := by
  obtain ⟨h1, g1⟩ := World.ownsRow.stored h (i * 4) (.int .i64 x.1.d)
  obtain ⟨h2, g2⟩ := World.ownsRow.stored h1 (i * 4 + 1) (.int .i64 x.1.l)
  obtain ⟨h3, g3⟩ := World.ownsRow.stored h2 (i * 4 + 2) (.int .i64 x.1.k)
  obtain ⟨h4, g4⟩ := World.ownsRow.stored h3 (i * 4 + 3) (.string x.2)
  rw [flat_set L i x hi] at h4
  refine ⟨?_, ?_⟩
  · unfold IR
    rw [List.length_set]
    exact h4
  · have t : ∀ {w W : World}, w.grownBy W (some b) → Tn w W (fun k => k = b) := fun hg => ⟨hg.os, hg.tape, hg.output, hg.size, fun i hi hn => hg.block i hi (fun e => hn (by injection e))⟩
    exact (((t g1).then_ (t g2) (fun _ h => .inl h)).then_ (t g3) (fun _ h => .inl h)).then_ (t g4) (fun _ h => .inl h)
theorem IR.drew (h : IR w v L) : IR w.drew v L := World.ownsRow.drew h
theorem IR.drewN (h : IR w v L) (m : Nat) : IR (w.drewN m) v L := h
theorem IR.lt (h : IR w v L) : ∀ k, v.ownBlock = some k → k < w.heap.size := fun k hk => (World.ownsRow.lt h k hk).2
theorem IR.kept {W : World} {S : Nat → Prop} (h : IR w v L) (ht : Tn w W S) (hn : ∀ k, v.ownBlock = some k → ¬ S k) : IR W v L := ht.row h hn
theorem IR.typed (h : IR w v L) : ∀ k, v.ownBlock = some k → ∃ cur, w.heap[k]? = some (.cells cur 71 (0, 0)) := fun k hk => by
  rcases h.2 with ⟨rfl, _⟩ | ⟨g, cap, cur, rfl, _, hh, _⟩
  · cases hk
  · cases hk
    exact ⟨cur, hh⟩
theorem IR.cut (h : IR w (.slice (some ⟨b, 0, none⟩) L.length cap) L) (hl : 0 < L.length) : IR w (.slice (some ⟨b, 0, none⟩) (L.length - 1) cap) L.dropLast := by
  obtain ⟨n, hn⟩ : ∃ n, L.length = n + 1 := ⟨L.length - 1, by omega⟩
  have hne : L ≠ [] := fun e => by rw [e] at hl; exact absurd hl (by decide)
  have e := List.dropLast_concat_getLast hne
  unfold IR at h ⊢
  have hd : L.dropLast.length = n := by simp [hn]
  rw [← e, List.flatMap_append, e, hn] at h
  rw [hd, hn, Nat.add_sub_cancel]
  exact ownsRow_pop (by rw [flat_length, hd]) h
end
/-! The queue. -/
def Placed (L : List It) (f : Ky → Option Nat) : Prop := (∀ i, i < L.length → f (at_ d0 L i).1 = some i) ∧ ∀ k, (∀ i, i < L.length → (at_ d0 L i).1 ≠ k) → f k = none
structure QS (w : World) (qb : Nat) (v : Value) (mb : Nat) (L : List It) : Prop where
  st : w.heap[qb]? = some (.cells #[v, .map (some mb)] 57 (0, 0))
  row : IR w v L
  pm : ∃ f, PMf w mb L.length f ∧ Placed L f
  ok : ∀ x ∈ L, KyOk x.1
theorem Tn.alloc (w : World) (o : Obj) (S : Nat → Prop) : Tn w (w.alloc o) S := by
  have h := World.grownBy_alloc w o none
  exact ⟨h.os, h.tape, h.output, h.size, fun i hi _ => h.block i hi (by simp)⟩
theorem QS.alloc {w : World} {qb mb : Nat} {v : Value} {L : List It} (h : QS w qb v mb L) (o : Obj) : QS (w.alloc o) qb v mb L := by
  have ht := Tn.alloc w o (fun _ => False)
  obtain ⟨f, hp, hf⟩ := h.pm
  exact ⟨ht.blk h.st (fun h => h), h.row.kept ht (fun _ _ h => h), ⟨f, hp.kept ht (fun h => h), hf⟩, h.ok⟩
theorem at_mem {L : List It} {i : Nat} (h : i < L.length) : at_ d0 L i ∈ L := by rw [at_eq d0 L h]; exact List.getElem_mem h
theorem QS.okAt {w : World} {qb mb : Nat} {v : Value} {L : List It} (h : QS w qb v mb L) {i : Nat} (hi : i < L.length) : KyOk (at_ d0 L i).1 := h.ok _ (at_mem hi)
theorem QS.c0 {w : World} {qb mb : Nat} {v : Value} {L : List It} (h : QS w qb v mb L) : w.cell? ⟨qb, 0, none⟩ = some v := cell_of_row w qb 0 _ _ (0, 0) h.st
theorem QS.c1 {w : World} {qb mb : Nat} {v : Value} {L : List It} (h : QS w qb v mb L) : w.cell? ⟨qb, 1, none⟩ = some (.map (some mb)) := cell_of_row w qb 1 _ _ (0, 0) h.st
theorem QS.n1 {w : World} {qb mb : Nat} {v : Value} {L : List It} (h : QS w qb v mb L) : qb ≠ mb := fun e => by
  obtain ⟨f, hp, _⟩ := h.pm
  obtain ⟨es, c, hb⟩ := hp.lt
  have h1 := h.st
  rw [e, hb] at h1
  cases h1
theorem QS.n2 {w : World} {qb mb : Nat} {v : Value} {L : List It} (h : QS w qb v mb L) : v.ownBlock ≠ some qb := fun e => by
  obtain ⟨cur, h2⟩ := h.row.typed qb e
  have h1 := h.st
  rw [h2] at h1
  injection h1 with h1
  injection h1 with _ h1
  exact absurd h1 (by decide)
theorem QS.n3 {w : World} {qb mb : Nat} {v : Value} {L : List It} (h : QS w qb v mb L) : v.ownBlock ≠ some mb := fun e => by
  obtain ⟨f, hp, _⟩ := h.pm
  obtain ⟨es, c, hb⟩ := hp.lt
  obtain ⟨cur, h2⟩ := h.row.typed mb e
  rw [h2] at hb
  cases hb
theorem QS.kept {w W : World} {S : Nat → Prop} {qb mb : Nat} {v : Value} {L : List It} (h : QS w qb v mb L) (ht : Tn w W S) (h1 : ¬ S qb) (h2 : ¬ S mb) (h3 : ∀ k, v.ownBlock = some k → ¬ S k) : QS W qb v mb L := by
  obtain ⟨f, hp, hf⟩ := h.pm
  exact ⟨ht.blk h.st h1, h.row.kept ht h3, ⟨f, hp.kept ht h2, hf⟩, h.ok⟩
theorem QS.drew {w : World} {qb mb : Nat} {v : Value} {L : List It} (h : QS w qb v mb L) : QS w.drew qb v mb L := ⟨h.st, h.row, h.pm, h.ok⟩
theorem QS.drewN {w : World} {qb mb : Nat} {v : Value} {L : List It} (h : QS w qb v mb L) (m : Nat) : QS (w.drewN m) qb v mb L := ⟨h.st, h.row, h.pm, h.ok⟩
/-! Places behind a swap, an append, a drop. -/
theorem Placed.inj {L : List It} {f : Ky → Option Nat} (h : Placed L f) {i j : Nat} (hi : i < L.length) (hj : j < L.length) (e : (at_ d0 L i).1 = (at_ d0 L j).1) : i = j := by
  have h1 := h.1 i hi
  rw [e, h.1 j hj] at h1
  injection h1 with h1
  exact h1.symm
theorem Placed.swap {L : List It} {f : Ky → Option Nat} (h : Placed L f) {i j : Nat} (hi : i < L.length) (hj : j < L.length) : Placed (sw d0 L i j) (upd (upd f (at_ d0 L j).1 (some i)) (at_ d0 L i).1 (some j)) := by
  refine ⟨fun q hq => ?_, fun k hk => ?_⟩
  · rw [sw_length] at hq
    rw [at_sw d0 L q hi hj]
    unfold upd
    by_cases e1 : q = j
    · subst e1
      rw [if_pos rfl, if_pos rfl]
    · rw [if_neg e1]
      by_cases e2 : q = i
      · subst e2
        rw [if_pos rfl, if_neg (fun e => e1 (h.inj hi hj e.symm)), if_pos rfl]
      · rw [if_neg e2, if_neg (fun e => e2 (h.inj hq hi e)), if_neg (fun e => e1 (h.inj hq hj e))]
        exact h.1 q hq
  · have h1 : ∀ q, q < L.length → (at_ d0 L q).1 ≠ k := fun q hq e => by
      by_cases e1 : q = i
      · refine hk j (by rw [sw_length]; exact hj) ?_
        rw [at_sw d0 L j hi hj, if_pos rfl, ← e1]
        exact e
      · by_cases e2 : q = j
        · refine hk i (by rw [sw_length]; exact hi) ?_
          rw [at_sw d0 L i hi hj]
          by_cases e3 : i = j
          · exact absurd (e2.trans e3.symm) e1
          · rw [if_neg e3, if_pos rfl, ← e2]
            exact e
        · refine hk q (by rw [sw_length]; exact hq) ?_
          rw [at_sw d0 L q hi hj, if_neg e2, if_neg e1]
          exact e
    unfold upd
    rw [if_neg (fun e => h1 i hi e.symm), if_neg (fun e => h1 j hj e.symm)]
    exact h.2 k h1
theorem Placed.push {L : List It} {f : Ky → Option Nat} (h : Placed L f) (x : It) (hx : ∀ i, i < L.length → (at_ d0 L i).1 ≠ x.1) : Placed (L ++ [x]) (upd f x.1 (some L.length)) := by
  refine ⟨fun q hq => ?_, fun k hk => ?_⟩
  · rw [List.length_append] at hq
    rw [at_append]
    unfold upd
    by_cases e : q = L.length
    · rw [if_pos e, if_pos rfl, e]
    · have hq2 : q < L.length := by simp at hq; omega
      rw [if_neg e, if_neg (hx q hq2)]
      exact h.1 q hq2
  · have h1 := hk L.length (by simp)
    rw [at_append, if_pos rfl] at h1
    unfold upd
    rw [if_neg (fun e => h1 e.symm)]
    refine h.2 k (fun q hq => ?_)
    have h2 := hk q (by rw [List.length_append]; omega)
    rw [at_append, if_neg (by omega)] at h2
    exact h2
theorem Placed.pop {L : List It} {f : Ky → Option Nat} (h : Placed L f) (hl : 0 < L.length) : Placed L.dropLast (upd f (at_ d0 L (L.length - 1)).1 none) := by
  refine ⟨fun q hq => ?_, fun k hk => ?_⟩
  · rw [List.length_dropLast] at hq
    rw [at_dropLast _ _ hq]
    unfold upd
    rw [if_neg (fun e => by have := h.inj (i := q) (j := L.length - 1) (by omega) (by omega) e; omega)]
    exact h.1 q (by omega)
  · unfold upd
    by_cases e : k = (at_ d0 L (L.length - 1)).1
    · rw [if_pos e]
    · rw [if_neg e]
      refine h.2 k (fun q hq e2 => ?_)
      by_cases e3 : q = L.length - 1
      · rw [e3] at e2
        exact e e2.symm
      · refine hk q (by rw [List.length_dropLast]; omega) ?_
        rw [at_dropLast _ _ (by omega)]
        exact e2
theorem Placed.find {L : List It} {f : Ky → Option Nat} (h : Placed L f) (k : Ky) : (f k = none ∧ ∀ i, i < L.length → (at_ d0 L i).1 ≠ k) ∨ ∃ i, i < L.length ∧ (at_ d0 L i).1 = k ∧ f k = some i := by
  by_cases e : ∃ i, i < L.length ∧ (at_ d0 L i).1 = k
  · obtain ⟨i, hi, e⟩ := e
    exact .inr ⟨i, hi, e, by rw [← e]; exact h.1 i hi⟩
  · have e1 : ∀ i, i < L.length → (at_ d0 L i).1 ≠ k := fun i hi e2 => e ⟨i, hi, e2⟩
    exact .inl ⟨h.2 k e1, e1⟩
end Go.Proofs.YtkbbngkfncbgkaaDoor.TQWords
