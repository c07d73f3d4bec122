/- A queue that lies wholly from a block number on: its Put and Cancel, whatever is in it. Conditions: the key's numbers are ints, the row is not beyond all memory. -/
import Derived.Test.YtkbbngkfncbgkaaIQMoveC
namespace Go.Proofs.Ytkbbngkfncbgkaa.IQBase
open Go.RowKit Go.Maps Go.Proofs.Ytkbbngkfncbgkaa.IQHeap Go.Proofs.Ytkbbngkfncbgkaa.IQWords Go.Proofs.Ytkbbngkfncbgkaa.IQSwap Go.Proofs.Ytkbbngkfncbgkaa.IQOrd Go.Proofs.Ytkbbngkfncbgkaa.IQUp Go.Proofs.Ytkbbngkfncbgkaa.IQGet Go.Proofs.Ytkbbngkfncbgkaa.IQPush Go.Proofs.Ytkbbngkfncbgkaa.IQPut Go.Proofs.Ytkbbngkfncbgkaa.IQTake Go.Proofs.Ytkbbngkfncbgkaa.IQPop Go.Proofs.Ytkbbngkfncbgkaa.IQFill Go.Proofs.Ytkbbngkfncbgkaa.IQCanc Go.Proofs.Ytkbbngkfncbgkaa.IQTwo Go.Proofs.Ytkbbngkfncbgkaa.IQMoveC
set_option linter.unusedVariables false
set_option linter.unusedSimpArgs false
/-- A queue whose blocks are all from B on. -/
structure QB (B : Nat) (w : World) (qb : Nat) (v : Value) (mb : Nat) (L : List It) : Prop where
  q : QS w qb v mb L
  hp : HP ltI d0 L
  b1 : B ≤ qb
  b2 : B ≤ mb
  b3 : ∀ k, v.ownBlock = some k → B ≤ k
  bz : B ≤ w.heap.size
theorem QB.bl {B : Nat} {w : World} {qb mb : Nat} {v : Value} {L : List It} (h : QB B w qb v mb L) : ∀ k, Bl qb mb v k → B ≤ k := fun k hk => hk.elim (fun e => by rw [e]; exact h.b1) (fun hk => hk.elim (fun e => by rw [e]; exact h.b2) (h.b3 k))
theorem QB.kept {B : Nat} {w W : World} {qb mb : Nat} {v : Value} {L : List It} (h : QB B w qb v mb L) (ht : Tn w W (fun _ => False)) : QB B W qb v mb L :=
  ⟨h.q.kept ht (fun h => h) (fun h => h) (fun _ _ h => h), h.hp, h.b1, h.b2, h.b3, Nat.le_trans h.bz ht.size⟩
/-- What Put leaves. -/
def PutR (L : List It) (k : Ky) (n : Int) (L1 : List It) : Prop := ((∃ i, i < L.length ∧ (at_ d0 L i).1 = k) ∧ L1 = L) ∨ ((∀ i, i < L.length → (at_ d0 L i).1 ≠ k) ∧ L1 = pushF ltI d0 L (k, n))
/-- What Cancel leaves. -/
def CanR (L : List It) (k : Ky) (L1 : List It) : Prop := (∃ i, i < L.length ∧ (at_ d0 L i).1 = k ∧ L1 = takeF ltI d0 L i) ∨ ((∀ i, i < L.length → (at_ d0 L i).1 ≠ k) ∧ L1 = L)
theorem tn_bel {B : Nat} {w W : World} (ht : Tn w W (fun _ => False)) (hB : B ≤ w.heap.size) : Below B w W := ht.below hB (fun _ h => h.elim)
section
variable (B qb mb : Nat) (v : Value) (L : List It) (k : Ky) (w : World) (hk : KyOk k) (hQ : QB B w qb v mb L) (hl : L.length + 1 < 3000000000000)
include hk hQ hl
theorem qb_put (n : Int) : Calls Try.prog 14 #[.pointer (some ⟨qb, 0, none⟩), .agg #[.int .i64 k.d, .int .i64 k.l, .int .i64 k.k], .int .i64 n] w fun e w' => ∃ (x : Int) (v1 : Value) (L1 : List It), e = .returned (.int .i64 x) ∧ QB B w' qb v1 mb L1 ∧ Below B w w' ∧ PutR L k n L1 :=
  (put_calls qb mb v L k n w hk hl hQ.q).mono fun e w' h => by
    rcases h with ⟨h1, h2, h3⟩ | ⟨h1, h2, v1, h3, h4, h5⟩
    · exact ⟨110, v, L, h1, hQ.kept h3, tn_bel h3 hQ.bz, .inl ⟨h2, rfl⟩⟩
    · exact ⟨0, v1, _, h1, ⟨h3, pushF_HP wo hQ.hp _, hQ.b1, hQ.b2, fun q hq => (h5 q hq).elim (hQ.b3 q) (Nat.le_trans hQ.bz), Nat.le_trans hQ.bz h4.size⟩, h4.below hQ.bz hQ.bl, .inr ⟨h2, rfl⟩⟩
theorem qb_put_no (n : Int) (hno : ∀ i, i < L.length → (at_ d0 L i).1 ≠ k) : Calls Try.prog 14 #[.pointer (some ⟨qb, 0, none⟩), .agg #[.int .i64 k.d, .int .i64 k.l, .int .i64 k.k], .int .i64 n] w fun e w' => e = .returned (.int .i64 0) ∧ ∃ v1, QB B w' qb v1 mb (pushF ltI d0 L (k, n)) ∧ Below B w w' :=
  (put_no qb mb v L k w hk hQ.q n hl hno).mono fun e w' ⟨h1, v1, h3, h4, h5⟩ =>
    ⟨h1, v1, ⟨h3, pushF_HP wo hQ.hp _, hQ.b1, hQ.b2, fun q hq => (h5 q hq).elim (hQ.b3 q) (Nat.le_trans hQ.bz), Nat.le_trans hQ.bz h4.size⟩, h4.below hQ.bz hQ.bl⟩
theorem qb_cancel : Calls Try.prog 15 #[.pointer (some ⟨qb, 0, none⟩), .agg #[.int .i64 k.d, .int .i64 k.l, .int .i64 k.k]] w fun e w' => ∃ (t : Bool) (v1 : Value) (L1 : List It), e = .returned (.bool t) ∧ QB B w' qb v1 mb L1 ∧ Below B w w' ∧ CanR L k L1 :=
  (cancel_calls qb mb v L k w hk (by omega) hQ.q).mono fun e w' h => by
    rcases h with ⟨h1, h2, h3⟩ | ⟨h1, i, hi, h2, v1, h3, h4, h5⟩
    · exact ⟨false, v, L, h1, hQ.kept h3, tn_bel h3 hQ.bz, .inr ⟨h2, rfl⟩⟩
    · exact ⟨true, v1, _, h1, ⟨h3, takeF_HP wo hQ.hp hi, hQ.b1, hQ.b2, fun q hq => hQ.b3 q (by rw [← h5]; exact hq), Nat.le_trans hQ.bz h4.size⟩, h4.below hQ.bz hQ.bl, .inl ⟨i, hi, h2, rfl⟩⟩
theorem qb_cancel_yes (i : Nat) (hi : i < L.length) (he : (at_ d0 L i).1 = k) : Calls Try.prog 15 #[.pointer (some ⟨qb, 0, none⟩), .agg #[.int .i64 k.d, .int .i64 k.l, .int .i64 k.k]] w fun e w' => e = .returned (.bool true) ∧ ∃ v1, QB B w' qb v1 mb (takeF ltI d0 L i) ∧ Below B w w' :=
  (canc_yes qb mb v L k w hk hQ.q (by omega) i hi he).mono fun e w' ⟨h1, v1, h3, h4, h5⟩ =>
    ⟨h1, v1, ⟨h3, takeF_HP wo hQ.hp hi, hQ.b1, hQ.b2, fun q hq => hQ.b3 q (by rw [← h5]; exact hq), Nat.le_trans hQ.bz h4.size⟩, h4.below hQ.bz hQ.bl⟩
end
/-! The lists of Orderless. -/
theorem push_mem {L : List It} {x y : It} : y ∈ pushF ltI d0 L x ↔ y = x ∨ y ∈ L := by
  rw [(pushF_perm (lt := ltI) (d := d0) L x).mem_iff, List.mem_cons]
theorem push_len {L : List It} {x : It} : (pushF ltI d0 L x).length = L.length + 1 := by
  rw [(pushF_perm (lt := ltI) (d := d0) L x).length_eq, List.length_cons]
theorem mem_at {L : List It} {y : It} (h : y ∈ L) : ∃ i, i < L.length ∧ at_ d0 L i = y := by
  obtain ⟨i, hi, e⟩ := List.mem_iff_getElem.1 h
  exact ⟨i, hi, by rw [at_eq d0 L hi]; exact e⟩
/-- What is left of a row with distinct keys: what has another key. -/
theorem take_mem {L : List It} (hn : (L.map (·.1)).Nodup) {i : Nat} (hi : i < L.length) {y : It} : y ∈ takeF ltI d0 L i ↔ y ∈ L ∧ y.1 ≠ (at_ d0 L i).1 := by
  have h1 := takeF_perm (lt := ltI) (d := d0) hi
  have h2 := (h1.map (·.1)).nodup_iff.2 hn
  rw [List.map_cons, List.nodup_cons] at h2
  constructor
  · intro h
    exact ⟨h1.mem_iff.1 (List.mem_cons_of_mem _ h), fun e => h2.1 (by rw [← e]; exact List.mem_map.2 ⟨y, h, rfl⟩)⟩
  · rintro ⟨h, hne⟩
    rcases List.mem_cons.1 (h1.mem_iff.2 h) with e | e
    · exact absurd (by rw [e]) hne
    · exact e
/-- The first loop at i: what stands in the queue is of the keys from i on; of those keys none lacks, but what a strange key may have taken away. -/
structure IA (ks ss : List Ky) (i : Nat) (L : List It) : Prop where
  len : L.length + i ≤ ks.length
  sub : ∀ x ∈ L, ∃ j : Nat, i ≤ j ∧ j < ks.length ∧ x = (ka ks j, (j : Int))
  all : ∀ j : Nat, i ≤ j → j < ks.length → (ka ks j, (j : Int)) ∈ L ∨ ∃ m, m < ss.length ∧ m < ks.length ∧ ka ss m = ka ks j
theorem IA.start (ks ss : List Ky) : IA ks ss ks.length [] := ⟨by simp, fun x hx => (by cases hx), fun j h1 h2 => by omega⟩
theorem ka_nodup {ks : List Ky} (hn : ks.Nodup) {i j : Nat} (hi : i < ks.length) (hj : j < ks.length) (e : ka ks i = ka ks j) : i = j := by
  unfold ka at e
  rw [List.getD_eq_getElem?_getD, List.getD_eq_getElem?_getD, List.getElem?_eq_getElem hi, List.getElem?_eq_getElem hj] at e
  exact (List.getElem_inj hn).1 e
/-- A strange key put and cancelled. -/
theorem IA.strange {ks ss : List Ky} {i m : Nat} {L L1 L2 : List It} (h : IA ks ss i L) (hm : m < ss.length) (hmk : m < ks.length) (n : Int) (hn : (L.map (·.1)).Nodup) (hn1 : (L1.map (·.1)).Nodup) (h1 : PutR L (ka ss m) n L1) (h2 : CanR L1 (ka ss m) L2) : IA ks ss i L2 := by
  have key : ∀ y, y ∈ L2 ↔ y ∈ L ∧ y.1 ≠ ka ss m := by
    intro y
    rcases h1 with ⟨⟨p, hp, he⟩, rfl⟩ | ⟨hno, rfl⟩
    · rcases h2 with ⟨q, hq, hqe, rfl⟩ | ⟨hno2, _⟩
      · rw [take_mem hn1 hq, hqe]
      · exact absurd he (hno2 p hp)
    · have hy : ∀ y ∈ L, y.1 ≠ ka ss m := fun y hy e => by
        obtain ⟨p, hp, e2⟩ := mem_at hy
        exact hno p hp (by rw [e2]; exact e)
      rcases h2 with ⟨q, hq, hqe, rfl⟩ | ⟨hno2, _⟩
      · rw [take_mem hn1 hq, hqe, push_mem]
        constructor
        · rintro ⟨rfl | h, hne⟩
          · exact absurd rfl hne
          · exact ⟨h, hne⟩
        · rintro ⟨h, hne⟩
          exact ⟨.inr h, hne⟩
      · obtain ⟨p, hp, e2⟩ := mem_at (push_mem.2 (.inl rfl) : (ka ss m, n) ∈ pushF ltI d0 L (ka ss m, n))
        exact absurd (by rw [e2]) (hno2 p hp)
  have len : L2.length ≤ L.length := by
    rcases h1 with ⟨⟨p, hp, he⟩, rfl⟩ | ⟨hno, rfl⟩
    · rcases h2 with ⟨q, hq, hqe, rfl⟩ | ⟨_, rfl⟩
      · have := take_lenI hq; omega
      · omega
    · rcases h2 with ⟨q, hq, hqe, rfl⟩ | ⟨hno2, _⟩
      · have := take_lenI hq; rw [push_len] at this; omega
      · obtain ⟨p, hp, e2⟩ := mem_at (push_mem.2 (.inl rfl) : (ka ss m, n) ∈ pushF ltI d0 L (ka ss m, n))
        exact absurd (by rw [e2]) (hno2 p hp)
  refine ⟨by have := h.len; omega, fun x hx => h.sub x ((key x).1 hx).1, fun j hj hjl => ?_⟩
  rcases h.all j hj hjl with h3 | h3
  · by_cases e : ka ks j = ka ss m
    · exact .inr ⟨m, hm, hmk, e.symm⟩
    · exact .inl ((key _).2 ⟨h3, e⟩)
  · exact .inr h3
/-- The next key down is not there. -/
theorem IA.fresh {ks ss : List Ky} {i : Nat} {L : List It} (h : IA ks ss (i + 1) L) (hn : ks.Nodup) (hi : i < ks.length) : ∀ p, p < L.length → (at_ d0 L p).1 ≠ ka ks i := by
  intro p hp e
  obtain ⟨j, h1, h2, h3⟩ := h.sub _ (at_mem hp)
  rw [h3] at e
  have := ka_nodup hn h2 hi e
  omega
/-- The next key down, put, cancelled and put again. -/
theorem IA.next {ks ss : List Ky} {i q : Nat} {L : List It} {n : Int} (h : IA ks ss (i + 1) L) (hi : i < ks.length) (hno : ∀ p, p < L.length → (at_ d0 L p).1 ≠ ka ks i) (hn1 : ((pushF ltI d0 L (ka ks i, n)).map (·.1)).Nodup) (hq : q < (pushF ltI d0 L (ka ks i, n)).length) (hqe : (at_ d0 (pushF ltI d0 L (ka ks i, n)) q).1 = ka ks i) :
    (∀ p, p < (takeF ltI d0 (pushF ltI d0 L (ka ks i, n)) q).length → (at_ d0 (takeF ltI d0 (pushF ltI d0 L (ka ks i, n)) q) p).1 ≠ ka ks i) ∧ IA ks ss i (pushF ltI d0 (takeF ltI d0 (pushF ltI d0 L (ka ks i, n)) q) (ka ks i, (i : Int))) := by
  have key : ∀ y, y ∈ takeF ltI d0 (pushF ltI d0 L (ka ks i, n)) q ↔ y ∈ L := by
    intro y
    rw [take_mem hn1 hq, hqe, push_mem]
    constructor
    · rintro ⟨rfl | h, hne⟩
      · exact absurd rfl hne
      · exact h
    · intro h
      obtain ⟨p, hp, e⟩ := mem_at h
      exact ⟨.inr h, by rw [← e]; exact hno p hp⟩
  have hl := take_lenI hq
  rw [push_len] at hl
  refine ⟨fun p hp e => ?_, ?_, ?_, ?_⟩
  · obtain ⟨r, hr, e2⟩ := mem_at ((key _).1 (at_mem hp))
    exact hno r hr (by rw [e2]; exact e)
  · rw [push_len]
    have := h.len
    omega
  · intro x hx
    rcases push_mem.1 hx with rfl | hx
    · exact ⟨i, Nat.le_refl _, hi, rfl⟩
    · obtain ⟨j, h1, h2⟩ := h.sub x ((key x).1 hx)
      exact ⟨j, by omega, h2⟩
  · intro j hj hjl
    by_cases e : j = i
    · subst e
      exact .inl (push_mem.2 (.inl rfl))
    · rcases h.all j (by omega) hjl with h3 | h3
      · exact .inl (push_mem.2 (.inr ((key _).2 h3)))
      · exact .inr h3
/-- The second loop at i, its inner loop at t: the strange keys from i on may still lack, and the one at i behind t. -/
structure IC (ks ss : List Ky) (i t : Nat) (L : List It) : Prop where
  len : L.length ≤ ks.length + i * ks.length + t
  sub : ∀ x ∈ L, ∃ j : Nat, j < ks.length ∧ x = (ka ks j, (j : Int))
  all : ∀ j : Nat, j < ks.length → (ka ks j, (j : Int)) ∈ L ∨ (∃ m, i < m ∧ m < ss.length ∧ m < ks.length ∧ ka ss m = ka ks j) ∨ (t ≤ j ∧ ka ss i = ka ks j)
/-- The second loop at i. -/
structure IB (ks ss : List Ky) (i : Nat) (L : List It) : Prop where
  len : L.length ≤ ks.length + i * ks.length
  sub : ∀ x ∈ L, ∃ j : Nat, j < ks.length ∧ x = (ka ks j, (j : Int))
  all : ∀ j : Nat, j < ks.length → (ka ks j, (j : Int)) ∈ L ∨ ∃ m, i ≤ m ∧ m < ss.length ∧ m < ks.length ∧ ka ss m = ka ks j
theorem IA.turn {ks ss : List Ky} {L : List It} (h : IA ks ss 0 L) : IB ks ss 0 L := ⟨by have := h.len; omega, fun x hx => by obtain ⟨j, _, h1⟩ := h.sub x hx; exact ⟨j, h1⟩, fun j hj => (h.all j (Nat.zero_le _) hj).imp id (fun ⟨m, h1⟩ => ⟨m, Nat.zero_le _, h1⟩)⟩
theorem IB.there {ks ss : List Ky} {i p : Nat} {L : List It} (h : IB ks ss i L) (hn : ks.Nodup) (hp : p < L.length) (he : (at_ d0 L p).1 = ka ss i) : IB ks ss (i + 1) L := by
  refine ⟨by have := h.len; have : i * ks.length ≤ (i + 1) * ks.length := Nat.mul_le_mul_right _ (by omega); omega, h.sub, fun j hj => ?_⟩
  rcases h.all j hj with h1 | ⟨m, h1, h2, h3, h4⟩
  · exact .inl h1
  · by_cases e : m = i
    · subst e
      obtain ⟨j', h5, h6⟩ := h.sub _ (at_mem hp)
      rw [h6] at he
      have : j' = j := ka_nodup hn h5 hj (he.trans h4)
      subst this
      exact .inl (by rw [← h6]; exact at_mem hp)
    · exact .inr ⟨m, by omega, h2, h3, h4⟩
theorem IB.into {ks ss : List Ky} {i : Nat} {L : List It} (h : IB ks ss i L) : IC ks ss i 0 L := ⟨by have := h.len; omega, h.sub, fun j hj => (h.all j hj).imp id (fun ⟨m, h1, h2, h3, h4⟩ => by
  by_cases e : m = i
  · subst e
    exact .inr ⟨Nat.zero_le _, h4⟩
  · exact .inl ⟨m, by omega, h2, h3, h4⟩)⟩
theorem IC.skip {ks ss : List Ky} {i t : Nat} {L : List It} (h : IC ks ss i t L) (hne : ka ks t ≠ ka ss i) : IC ks ss i (t + 1) L := ⟨by have := h.len; omega, h.sub, fun j hj => (h.all j hj).imp id (fun h1 => h1.imp id (fun ⟨h2, h3⟩ => ⟨by
  by_cases e : t = j
  · subst e
    exact absurd h3.symm hne
  · omega, h3⟩))⟩
theorem IC.lay {ks ss : List Ky} {i t : Nat} {L : List It} (h : IC ks ss i t L) (ht : t < ks.length) : IC ks ss i (t + 1) (pushF ltI d0 L (ka ks t, (t : Int))) := ⟨by rw [push_len]; have := h.len; omega, fun x hx => by
  rcases push_mem.1 hx with rfl | hx
  · exact ⟨t, ht, rfl⟩
  · exact h.sub x hx, fun j hj => by
  by_cases e : j = t
  · subst e
    exact .inl (push_mem.2 (.inl rfl))
  · rcases h.all j hj with h1 | h1 | ⟨h1, h2⟩
    · exact .inl (push_mem.2 (.inr h1))
    · exact .inr (.inl h1)
    · exact .inr (.inr ⟨by omega, h2⟩)⟩
theorem IC.out_ {ks ss : List Ky} {i : Nat} {L : List It} (h : IC ks ss i ks.length L) : IB ks ss (i + 1) L := ⟨by have := h.len; rw [Nat.add_mul, Nat.one_mul]; omega, h.sub, fun j hj => (h.all j hj).imp id (fun h1 => h1.elim (fun ⟨m, h2, h3⟩ => ⟨m, by omega, h3⟩) (fun ⟨h2, _⟩ => by omega))⟩
/-- At the end: the keys, each with the number of its place. -/
theorem fst_all {ks : List Ky} (hn : ks.Nodup) : ∀ n, n ≤ ks.length → ∀ x, x ∈ fst ks n ↔ ∃ j : Nat, j < n ∧ x = (ka ks j, (j : Int))
  | 0, _, x => by simp [fst]
  | n + 1, hl, x => by
    have ih := fst_all hn n (by omega)
    have hno : ¬ ((fst ks n).any (fun x => decide (x.1 = ka ks n)) = true) := by
      intro h
      obtain ⟨j, hj, e⟩ := (Go.Proofs.Ytkbbngkfncbgkaa.IQUnl.fst_any ks (ka ks n) n).1 h
      have := ka_nodup hn (by omega) (by omega) e
      omega
    unfold fst
    rw [if_neg hno, List.mem_cons, ih]
    constructor
    · rintro (rfl | ⟨j, h1, h2⟩)
      · exact ⟨n, by omega, rfl⟩
      · exact ⟨j, by omega, h2⟩
    · rintro ⟨j, h1, h2⟩
      by_cases e : j = n
      · subst e
        exact .inl h2
      · exact .inr ⟨j, by omega, h2⟩
theorem nodup_of_map {L : List It} (h : (L.map (·.1)).Nodup) : L.Nodup := by
  rw [List.nodup_iff_pairwise_ne, List.pairwise_map] at h
  rw [List.nodup_iff_pairwise_ne]
  exact h.imp (fun h e => h (by rw [e]))
theorem IB.done {ks ss : List Ky} {i : Nat} {L M : List It} (h : IB ks ss i L) (hi : ss.length ≤ i ∨ ks.length ≤ i) (hn : ks.Nodup) (hM : M.Perm (fst ks ks.length)) (hLn : (L.map (·.1)).Nodup) : M.Perm L := by
  refine hM.trans ?_
  refine (List.perm_ext_iff_of_nodup (nodup_of_map (Go.Proofs.Ytkbbngkfncbgkaa.IQUnl.fst_nodup ks _)) (nodup_of_map hLn)).2 fun x => ?_
  rw [fst_all hn _ (Nat.le_refl _)]
  constructor
  · rintro ⟨j, h1, rfl⟩
    rcases h.all j h1 with h2 | ⟨m, h2, h3, h4, _⟩
    · exact h2
    · omega
  · exact fun hx => h.sub x hx
theorem fst_len {ks : List Ky} (hn : ks.Nodup) : ∀ n, n ≤ ks.length → (fst ks n).length = n
  | 0, _ => rfl
  | n + 1, hl => by
    have ih := fst_len hn n (by omega)
    have hno : ¬ ((fst ks n).any (fun x => decide (x.1 = ka ks n)) = true) := by
      intro h
      obtain ⟨j, hj, e⟩ := (Go.Proofs.Ytkbbngkfncbgkaa.IQUnl.fst_any ks (ka ks n) n).1 h
      have := ka_nodup hn (by omega) (by omega) e
      omega
    unfold fst
    rw [if_neg hno, List.length_cons, ih]
theorem unl_nodup (ks : List Ky) (n : Nat) : (Go.Proofs.Ytkbbngkfncbgkaa.IQUnl.unl ks n).Nodup := (Go.Proofs.Ytkbbngkfncbgkaa.IQUnl.unl_perm ks n).nodup_iff.1 (Go.Proofs.Ytkbbngkfncbgkaa.IQUnl.fst_nodup ks n)
theorem PutR.len {L L1 : List It} {k : Ky} {n : Int} (h : PutR L k n L1) : L1.length ≤ L.length + 1 := by
  rcases h with ⟨_, rfl⟩ | ⟨_, rfl⟩
  · omega
  · rw [push_len]
    omega
theorem keepB {B : Nat} {w W : World} {ad : Addr} {i : Nat} {a b c : Value} (hb : Below B w W) (hlt : ad.block < B) (h0 : w.cell? (ad.add (i * 3)) = some a) (h1 : w.cell? ⟨(ad.add (i * 3)).block, (ad.add (i * 3)).off + 1, none⟩ = some b) (h2 : w.cell? ⟨(ad.add (i * 3)).block, (ad.add (i * 3)).off + 2, none⟩ = some c) :
    True ∧ True ∧ W.cell? (ad.add (i * 3)) = some a ∧ W.cell? ⟨(ad.add (i * 3)).block, (ad.add (i * 3)).off + 1, none⟩ = some b ∧ W.cell? ⟨(ad.add (i * 3)).block, (ad.add (i * 3)).off + 2, none⟩ = some c :=
  have hm : ∀ (x : Addr) u, x.block = ad.block → w.cell? x = some u → W.cell? x = some u := fun x u hx hu => (World.cell?_of_block (hb.block x.block (by rw [hx]; exact hlt))).trans hu
  ⟨trivial, trivial, hm _ _ (add_block _ _) h0, hm ⟨_, _, none⟩ _ (add_block _ _) h1, hm ⟨_, _, none⟩ _ (add_block _ _) h2⟩
theorem KR.block {w : World} {A : Option Addr} {ks : List Ky} (h : KR w A ks) {ad : Addr} (e : A = some ad) (h0 : 0 < ks.length) : ad.block < w.heap.size := by
  obtain ⟨ad', e', h1, _⟩ := h 0 h0
  rw [e] at e'
  injection e' with e'
  subst e'
  have h2 := World.block_lt_of_cell? w _ h1
  rw [add_block] at h2
  exact h2
end Go.Proofs.Ytkbbngkfncbgkaa.IQBase
