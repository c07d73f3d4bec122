/- What the walks of two queues ask of Move, Cancel and of the rows' lists. Conditions: the key's numbers are ints, the row is not beyond all memory. -/
import Derived.Test.YtkbbngkfncbgkaaIQMove
import Derived.Test.YtkbbngkfncbgkaaIQTwo
namespace Go.Proofs.Ytkbbngkfncbgkaa.IQMoveC
open Go.RowKit Go.Maps Go.Proofs.Ytkbbngkfncbgkaa.IQHeap Go.Proofs.Ytkbbngkfncbgkaa.IQWords Go.Proofs.Ytkbbngkfncbgkaa.IQSwap Go.Proofs.Ytkbbngkfncbgkaa.IQOrd Go.Proofs.Ytkbbngkfncbgkaa.IQUp Go.Proofs.Ytkbbngkfncbgkaa.IQGet Go.Proofs.Ytkbbngkfncbgkaa.IQPush Go.Proofs.Ytkbbngkfncbgkaa.IQPut Go.Proofs.Ytkbbngkfncbgkaa.IQTake Go.Proofs.Ytkbbngkfncbgkaa.IQPop Go.Proofs.Ytkbbngkfncbgkaa.IQFill Go.Proofs.Ytkbbngkfncbgkaa.IQUnl Go.Proofs.Ytkbbngkfncbgkaa.IQSortsP Go.Proofs.Ytkbbngkfncbgkaa.IQCanc Go.Proofs.Ytkbbngkfncbgkaa.IQMove Go.Proofs.Ytkbbngkfncbgkaa.IQTwo
set_option linter.unusedVariables false
set_option linter.unusedSimpArgs false
section
variable (qb mb : Nat) (v : Value) (L : List It) (k : Ky) (w : World) (hk : KyOk k) (hQ : QS w qb v mb L)
include hk hQ
theorem move_same (day : Int) (hday : day = k.d) (hl : L.length + 1 < 3000000000000) (i : Nat) (hi : i < L.length) (he : (at_ d0 L i).1 = k) :
    Calls Try.prog 18 #[.pointer (some ⟨qb, 0, none⟩), .agg #[.int .i64 k.d, .int .i64 k.l, .int .i64 k.k], .int .i64 day] w fun e w' => e = .returned (.int .i64 0) ∧ Tn w w' (fun _ => False) := by
  subst hday
  exact (move_calls qb mb v L k k.d w hk hk.d hl hQ).mono fun e w' h => by
    rcases h with ⟨_, h, _⟩ | ⟨h, _, _, ht⟩ | ⟨_, h, _⟩ | ⟨_, h, _⟩
    · exact absurd he (h i hi)
    · exact ⟨h, ht⟩
    · exact absurd rfl h
    · exact absurd rfl h
theorem move_held (day : Int) (hd : (Lit.int .i64 day).wf = true) (hl : L.length + 1 < 3000000000000) (hne : day ≠ k.d) (i : Nat) (hi : i < L.length) (he : (at_ d0 L i).1 = k) (j : Nat) (hj : j < L.length) (hje : (at_ d0 L j).1 = ⟨day, k.l, k.k⟩) :
    Calls Try.prog 18 #[.pointer (some ⟨qb, 0, none⟩), .agg #[.int .i64 k.d, .int .i64 k.l, .int .i64 k.k], .int .i64 day] w fun e w' => e = .returned (.int .i64 110) ∧ Tn w w' (fun _ => False) :=
  (move_calls qb mb v L k day w hk hd hl hQ).mono fun e w' h => by
    rcases h with ⟨_, h, _⟩ | ⟨_, h, _⟩ | ⟨h, _, _, _, ht⟩ | ⟨_, _, h, _⟩
    · exact absurd he (h i hi)
    · exact absurd (congrArg Ky.d h) hne
    · exact ⟨h, ht⟩
    · exact absurd hje (h j hj)
theorem move_free (day : Int) (hd : (Lit.int .i64 day).wf = true) (hl : L.length + 1 < 3000000000000) (i : Nat) (hi : i < L.length) (he : (at_ d0 L i).1 = k) (hno : ∀ j, j < L.length → (at_ d0 L j).1 ≠ ⟨day, k.l, k.k⟩) :
    Calls Try.prog 18 #[.pointer (some ⟨qb, 0, none⟩), .agg #[.int .i64 k.d, .int .i64 k.l, .int .i64 k.k], .int .i64 day] w fun e w' => e = .returned (.int .i64 0) ∧ ∃ v1, QS w' qb v1 mb (pushF ltI d0 (takeF ltI d0 L i) (⟨day, k.l, k.k⟩, (at_ d0 L i).2)) ∧ Tn w w' (Bl qb mb v) ∧ ∀ q, v1.ownBlock = some q → v.ownBlock = some q ∨ w.heap.size ≤ q :=
  (move_calls qb mb v L k day w hk hd hl hQ).mono fun e w' h => by
    rcases h with ⟨_, h, _⟩ | ⟨_, h, _⟩ | ⟨_, _, _, ⟨j, hj, h⟩, _⟩ | ⟨h, _, _, i2, hi2, he2, h2⟩
    · exact absurd he (h i hi)
    · exact absurd (he.trans h.symm) (hno i hi)
    · exact absurd h (hno j hj)
    · obtain ⟨f, _, hf⟩ := hQ.pm
      have := hf.inj hi hi2 (he.trans he2.symm)
      subst this
      exact ⟨h, h2⟩
theorem put_to (n : Int) (hl : L.length + 1 < 3000000000000) (hno : ∀ j, j < L.length → (at_ d0 L j).1 ≠ k) (X : List It) (hX : pushF ltI d0 L (k, n) = X) : Calls Try.prog 14 #[.pointer (some ⟨qb, 0, none⟩), .agg #[.int .i64 k.d, .int .i64 k.l, .int .i64 k.k], .int .i64 n] w fun e w' =>
    e = .returned (.int .i64 0) ∧ ∃ v1, QS w' qb v1 mb X ∧ Tn w w' (Bl qb mb v) ∧ ∀ q, v1.ownBlock = some q → v.ownBlock = some q ∨ w.heap.size ≤ q := by
  subst hX
  exact put_no qb mb v L k w hk hQ n hl hno
theorem get_val (hl : L.length < 5000000000000) {j : Nat} (hj : j < L.length) (he : (at_ d0 L j).1 = k) (nv : Int) (hv : (at_ d0 L j).2 = nv) : Calls Try.prog 12 #[.pointer (some ⟨qb, 0, none⟩), .agg #[.int .i64 k.d, .int .i64 k.l, .int .i64 k.k]] w fun e w' => e = .returned (.tuple #[.int .i64 nv, .bool true]) ∧ Tn w w' (fun _ => False) := by
  subst hv
  exact get_yes qb mb v L k w hk hQ hl hj he
theorem move_to (day : Int) (k2 : Ky) (hk2 : (⟨day, k.l, k.k⟩ : Ky) = k2) (nv : Int) (hd : (Lit.int .i64 day).wf = true) (hl : L.length + 1 < 3000000000000) (i : Nat) (hi : i < L.length) (he : (at_ d0 L i).1 = k) (hv : (at_ d0 L i).2 = nv) (hno : ∀ j, j < L.length → (at_ d0 L j).1 ≠ k2) (X : List It) (hX : pushF ltI d0 (takeF ltI d0 L i) (k2, nv) = X) :
    Calls Try.prog 18 #[.pointer (some ⟨qb, 0, none⟩), .agg #[.int .i64 k.d, .int .i64 k.l, .int .i64 k.k], .int .i64 day] w fun e w' => e = .returned (.int .i64 0) ∧ ∃ v1, QS w' qb v1 mb X ∧ Tn w w' (Bl qb mb v) ∧ ∀ q, v1.ownBlock = some q → v.ownBlock = some q ∨ w.heap.size ≤ q := by
  subst hX hv hk2
  exact (move_calls qb mb v L k day w hk hd hl hQ).mono fun e w' h => by
    rcases h with ⟨_, h, _⟩ | ⟨_, h, _⟩ | ⟨_, _, _, ⟨j, hj, h⟩, _⟩ | ⟨h, _, _, i2, hi2, he2, h2⟩
    · exact absurd he (h i hi)
    · exact absurd (he.trans h.symm) (hno i hi)
    · exact absurd h (hno j hj)
    · obtain ⟨f, _, hf⟩ := hQ.pm
      have := hf.inj hi hi2 (he.trans he2.symm)
      subst this
      exact ⟨h, h2⟩
theorem canc_yes (hl : L.length < 3000000000000) (i : Nat) (hi : i < L.length) (he : (at_ d0 L i).1 = k) :
    Calls Try.prog 15 #[.pointer (some ⟨qb, 0, none⟩), .agg #[.int .i64 k.d, .int .i64 k.l, .int .i64 k.k]] w fun e w' => e = .returned (.bool true) ∧ ∃ v1, QS w' qb v1 mb (takeF ltI d0 L i) ∧ Tn w w' (Bl qb mb v) ∧ v1.ownBlock = v.ownBlock :=
  (cancel_calls qb mb v L k w hk hl hQ).mono fun e w' h => by
    rcases h with ⟨_, h, _⟩ | ⟨h, i2, hi2, he2, h2⟩
    · exact absurd he (h i hi)
    · obtain ⟨f, _, hf⟩ := hQ.pm
      have := hf.inj hi hi2 (he.trans he2.symm)
      subst this
      exact ⟨h, h2⟩
theorem canc_to (hl : L.length < 3000000000000) (i : Nat) (hi : i < L.length) (he : (at_ d0 L i).1 = k) (X : List It) (hX : takeF ltI d0 L i = X) :
    Calls Try.prog 15 #[.pointer (some ⟨qb, 0, none⟩), .agg #[.int .i64 k.d, .int .i64 k.l, .int .i64 k.k]] w fun e w' => e = .returned (.bool true) ∧ ∃ v1, QS w' qb v1 mb X ∧ Tn w w' (Bl qb mb v) ∧ v1.ownBlock = v.ownBlock := by
  subst hX
  exact canc_yes qb mb v L k w hk hQ hl i hi he
end
/-- A queue that is new behind another shares no block with it. -/
theorem ap_new {w : World} {qb mb qc mc : Nat} {v u : Value} {L : List It} (hQ : QS w qb v mb L) (hq : w.heap.size ≤ qc) (hm : w.heap.size ≤ mc) (hv : ∀ k, u.ownBlock = some k → w.heap.size ≤ k) : Ap qb mb v qc mc u := fun k h1 h2 => by
  have hb := qs_lts hQ
  have l1 : k < w.heap.size := h1.elim (fun h => by rw [h]; exact hb.1) (fun h => h.elim (fun h => by rw [h]; exact hb.2.1) (fun h => hb.2.2 k h))
  have l2 : w.heap.size ≤ k := h2.elim (fun h => by rw [h]; exact hq) (fun h => h.elim (fun h => by rw [h]; exact hm) (fun h => hv k h))
  omega
theorem ap_grow {w : World} {qb mb qc mc : Nat} {v v1 u : Value} {M : List It} (h : Ap qb mb v qc mc u) (hQ : QS w qc u mc M) (hv : ∀ q, v1.ownBlock = some q → v.ownBlock = some q ∨ w.heap.size ≤ q) : Ap qb mb v1 qc mc u := fun k h1 h2 => by
  rcases h1 with h1 | h1 | h1
  · exact h k (.inl h1) h2
  · exact h k (.inr (.inl h1)) h2
  · rcases hv k h1 with h3 | h3
    · exact h k (.inr (.inr h3)) h2
    · have hb := qs_lts hQ
      have l2 : k < w.heap.size := h2.elim (fun h => by rw [h]; exact hb.1) (fun h => h.elim (fun h => by rw [h]; exact hb.2.1) (fun h => hb.2.2 k h))
      omega
theorem bl_lt {w : World} {qb mb : Nat} {v : Value} {L : List It} (hQ : QS w qb v mb L) : ∀ {k : Nat}, w.heap.size ≤ k → ¬ Bl qb mb v k := fun hk h => by
  have hb := qs_lts hQ
  rcases h with h | h | h
  · omega
  · omega
  · have := hb.2.2 _ h; omega
theorem p_lo {B qb mb : Nat} {v : Value} (h : B ≤ qb ∧ B ≤ mb ∧ ∀ k, v.ownBlock = some k → B ≤ k) {q : Nat} (hq : Bl qb mb v q) : B ≤ q :=
  hq.elim (fun e => by rw [e]; exact h.1) (fun hq => hq.elim (fun e => by rw [e]; exact h.2.1) (h.2.2 q))
theorem bl_own {qb mb : Nat} {v v1 : Value} (e : v1.ownBlock = v.ownBlock) {q : Nat} (hq : Bl qb mb v1 q) : Bl qb mb v q := hq.imp id (fun h => h.imp id (fun h => by rw [← e]; exact h))
theorem bl_not {qb mb : Nat} {v v1 : Value} (e : v1.ownBlock = v.ownBlock) {q : Nat} (hn : ¬ Bl qb mb v q) : ¬ Bl qb mb v1 q := fun h => hn (bl_own e h)
/-- The same key in the other queue, with the same value. -/
theorem twin {L M : List It} (hp : L.Perm M) {i : Nat} (hi : i < L.length) : ∃ j, j < M.length ∧ at_ d0 M j = at_ d0 L i := by
  obtain ⟨j, hj, e⟩ := List.mem_iff_getElem.1 (hp.mem_iff.1 (at_mem hi))
  exact ⟨j, hj, by rw [at_eq d0 M hj]; exact e⟩
theorem take_perm {L M : List It} (hp : L.Perm M) {i j : Nat} (hi : i < L.length) (hj : j < M.length) (e : at_ d0 M j = at_ d0 L i) : (takeF ltI d0 L i).Perm (takeF ltI d0 M j) := by
  have h1 := takeF_perm (lt := ltI) (d := d0) hi
  have h2 := takeF_perm (lt := ltI) (d := d0) hj
  rw [e] at h2
  exact (List.perm_cons _).1 ((h1.trans hp).trans h2.symm)
theorem take_lenI {L : List It} {i : Nat} (hi : i < L.length) : (takeF ltI d0 L i).length + 1 = L.length := by
  have := (takeF_perm (lt := ltI) (d := d0) hi).length_eq
  simpa using this
/-- What stands in a row from which one key was taken is another key of the row. -/
theorem take_not {L : List It} {i : Nat} (hi : i < L.length) (hn : (L.map (·.1)).Nodup) : ∀ j, j < (takeF ltI d0 L i).length → (at_ d0 (takeF ltI d0 L i) j).1 ≠ (at_ d0 L i).1 := by
  intro j hj e
  have h1 := (takeF_perm (lt := ltI) (d := d0) hi).map (·.1)
  have h2 := h1.nodup_iff.2 hn
  rw [List.map_cons, List.nodup_cons] at h2
  exact h2.1 (by rw [← e]; exact List.mem_map.2 ⟨_, at_mem hj, rfl⟩)
theorem take_sub {L : List It} {i : Nat} (hi : i < L.length) {k : Ky} (h : ∀ j, j < L.length → (at_ d0 L j).1 ≠ k) : ∀ j, j < (takeF ltI d0 L i).length → (at_ d0 (takeF ltI d0 L i) j).1 ≠ k := by
  intro j hj e
  have h1 := (takeF_perm (lt := ltI) (d := d0) hi).mem_iff.1 (List.mem_cons_of_mem _ (at_mem hj))
  obtain ⟨q, hq, e2⟩ := List.mem_iff_getElem.1 h1
  exact h q hq (by rw [at_eq d0 L hq, e2]; exact e)
theorem push_not {L : List It} {x : It} {k : Ky} (hx : x.1 ≠ k) (h : ∀ j, j < L.length → (at_ d0 L j).1 ≠ k) : ∀ j, j < (pushF ltI d0 L x).length → (at_ d0 (pushF ltI d0 L x) j).1 ≠ k := by
  intro j hj e
  have h1 := (pushF_perm (lt := ltI) (d := d0) L x).mem_iff.1 (at_mem hj)
  rcases List.mem_cons.1 h1 with h1 | h1
  · rw [h1] at e
    exact hx e
  · obtain ⟨q, hq, e2⟩ := List.mem_iff_getElem.1 h1
    exact h q hq (by rw [at_eq d0 L hq, e2]; exact e)
theorem push_same {L M : List It} (hp : L.Perm M) (x : It) : (pushF ltI d0 L x).Perm (pushF ltI d0 M x) :=
  ((pushF_perm L x).trans (hp.cons x)).trans (pushF_perm M x).symm
end Go.Proofs.Ytkbbngkfncbgkaa.IQMoveC
