/- TimerqSorts, plain: what holds of a queue's items while the due ones are popped. No condition. -/
import Derived.Test.YtkbbngkfncbgkaaIQUnl
namespace Go.Proofs.Ytkbbngkfncbgkaa.IQSortsP
open Go.RowKit Go.Proofs.Ytkbbngkfncbgkaa.IQHeap Go.Proofs.Ytkbbngkfncbgkaa.IQWords Go.Proofs.Ytkbbngkfncbgkaa.IQOrd Go.Proofs.Ytkbbngkfncbgkaa.IQFill Go.Proofs.Ytkbbngkfncbgkaa.IQUnl
set_option linter.unusedVariables false
set_option linter.unusedSimpArgs false
def cnt (day : Int) (L : List It) : Nat := L.countP (fun x => decide (x.1.d ≤ day))
structure PI (ks : List Ky) (day : Int) (t due : Nat) (L : List It) (last : Ky) : Prop where
  hp : HP ltI d0 L
  nd : (L.map (·.1)).Nodup
  sub : ∀ x ∈ L, x ∈ fst ks ks.length
  cov : ∀ x ∈ fst ks ks.length, x ∈ L ∨ x.1.d ≤ day
  len : L.length + t = (fst ks ks.length).length
  cn : cnt day L + t = due
  lt : 0 < t → ∀ x ∈ L, ltK last x.1 = true
theorem d_le {a b : Ky} (h : ltK b a = false) : a.d ≤ b.d := by
  rw [ltK_not] at h
  omega
theorem pop_step {ks : List Ky} {day : Int} {t due : Nat} {L : List It} {last : Ky} (h : PI ks day t due L last) (ht : t < due) :
    0 < L.length ∧ (at_ d0 L 0).1.d ≤ day ∧ (0 < t → ltK last (at_ d0 L 0).1 = true) ∧ (∃ j : Nat, j < ks.length ∧ at_ d0 L 0 = (ka ks j, (j : Int)) ∧ ∀ i, i < j → ka ks i ≠ ka ks j) ∧ PI ks day (t + 1) due (takeF ltI d0 L 0) (at_ d0 L 0).1 := by
  have h1 : 0 < cnt day L := by have := h.cn; omega
  unfold cnt at h1
  rw [List.countP_pos_iff] at h1
  obtain ⟨x, hx, hxd⟩ := h1
  have hl : 0 < L.length := List.length_pos_of_mem hx
  have hxd2 : x.1.d ≤ day := by simpa using hxd
  have hmin : ∀ y ∈ L, ltK y.1 (at_ d0 L 0).1 = false := by
    intro y hy
    obtain ⟨j, hj, e⟩ := List.getElem_of_mem hy
    have h2 := h.hp.min wo j j (Nat.le_refl _) hj
    rw [at_eq d0 L hj, e] at h2
    exact h2
  have hd0 : (at_ d0 L 0).1.d ≤ day := Int.le_trans (d_le (hmin x hx)) hxd2
  have hmem := at_mem hl
  have hpm := takeF_perm (lt := ltI) (d := d0) hl
  have hnd : (at_ d0 L 0 :: takeF ltI d0 L 0).map (·.1) |>.Nodup := (hpm.map _).nodup_iff.2 h.nd
  rw [List.map_cons, List.nodup_cons] at hnd
  refine ⟨hl, hd0, fun h0 => h.lt h0 _ hmem, fst_val ks _ _ (h.sub _ hmem), ⟨takeF_HP wo h.hp hl, hnd.2, fun y hy => h.sub y (hpm.mem_iff.1 (List.mem_cons_of_mem _ hy)), fun y hy => ?_, ?_, ?_, fun _ y hy => ?_⟩⟩
  · rcases h.cov y hy with h2 | h2
    · rcases List.mem_cons.1 (hpm.mem_iff.2 h2) with rfl | h3
      · exact .inr hd0
      · exact .inl h3
    · exact .inr h2
  · have h2 := hpm.length_eq
    rw [List.length_cons] at h2
    have := h.len
    omega
  · have h2 := hpm.countP_eq (fun x => decide (x.1.d ≤ day))
    rw [List.countP_cons_of_pos (by simpa using hd0)] at h2
    have := h.cn
    unfold cnt at *
    omega
  · have h2 := hmin y (hpm.mem_iff.1 (List.mem_cons_of_mem _ hy))
    cases h3 : ltK (at_ d0 L 0).1 y.1
    · have e := ltK_total h3 h2
      exact absurd (List.mem_map.2 ⟨y, hy, e.symm⟩) hnd.1
    · rfl
theorem pop_end {ks : List Ky} {day : Int} {due : Nat} {L : List It} {last : Ky} (h : PI ks day due due L last) : ∀ x ∈ L, day < x.1.d := by
  have h1 : cnt day L = 0 := by have := h.cn; omega
  unfold cnt at h1
  rw [List.countP_eq_zero] at h1
  intro x hx
  have := h1 x hx
  simp at this
  omega
def dc (day : Int) (al : List Ky) : Nat → Nat
  | 0 => 0
  | n + 1 => if (ka al n).d ≤ day then dc day al n + 1 else dc day al n
theorem dc_le (day : Int) (al : List Ky) : ∀ n, dc day al n ≤ n
  | 0 => Nat.le_refl _
  | n + 1 => by
    have := dc_le day al n
    unfold dc
    split <;> omega
theorem dc_is (day : Int) (al : List Ky) : ∀ n, n ≤ al.length → dc day al n = (al.take n).countP (fun k => decide (k.d ≤ day))
  | 0, _ => by simp [dc]
  | n + 1, hn => by
    have ih := dc_is day al n (by omega)
    have e : al.take (n + 1) = al.take n ++ [ka al n] := by
      rw [List.take_succ_eq_append_getElem (by omega)]
      congr 1
      unfold ka
      rw [List.getD_eq_getElem?_getD, List.getElem?_eq_getElem (by omega)]
      rfl
    unfold dc
    rw [e, List.countP_append, ← ih]
    by_cases h : (ka al n).d ≤ day
    · simp [h]
    · simp [h]
theorem due_is (ks : List Ky) (day : Int) : dc day (unl ks ks.length) (unl ks ks.length).length = cnt day (fst ks ks.length) := by
  rw [dc_is _ _ _ (Nat.le_refl _), List.take_length, ← (unl_perm ks ks.length).countP_eq, List.countP_map]
  rfl
theorem unl_len (ks : List Ky) : (unl ks ks.length).length = (fst ks ks.length).length := by
  rw [← (unl_perm ks ks.length).length_eq, List.length_map]
theorem pi_start {ks : List Ky} {day : Int} {L : List It} (hp : HP ltI d0 L) (h : L.Perm (fst ks ks.length)) (last : Ky) : PI ks day 0 (cnt day (fst ks ks.length)) L last :=
  ⟨hp, (h.map _).nodup_iff.2 (fst_nodup ks _), fun x hx => h.mem_iff.1 hx, fun x hx => .inl (h.mem_iff.2 hx), h.length_eq, h.countP_eq _, fun h => absurd h (Nat.lt_irrefl _)⟩
/-- At the end: the key of each item stands in the queue just if it is not due. -/
theorem get_end {ks : List Ky} {day : Int} {due : Nat} {L : List It} {last : Ky} (h : PI ks day due due L last) {i : Nat} (hi : i < (unl ks ks.length).length) :
    (day < (ka (unl ks ks.length) i).d ∧ ∃ j, j < L.length ∧ (at_ d0 L j).1 = ka (unl ks ks.length) i) ∨ ((ka (unl ks ks.length) i).d ≤ day ∧ ∀ j, j < L.length → (at_ d0 L j).1 ≠ ka (unl ks ks.length) i) := by
  have hm := (unl_perm ks ks.length).mem_iff.2 (ka_mem hi)
  obtain ⟨x, hx, e⟩ := List.mem_map.1 hm
  rw [← e]
  by_cases hd : x.1.d ≤ day
  · refine .inr ⟨hd, fun j hj e2 => ?_⟩
    have := pop_end h _ (at_mem hj)
    rw [e2] at this
    omega
  · rcases h.cov x hx with h1 | h1
    · obtain ⟨j, hj, e2⟩ := List.getElem_of_mem h1
      exact .inl ⟨by omega, j, hj, by rw [at_eq d0 L hj, e2]⟩
    · exact absurd h1 hd
theorem unl_ok {ks : List Ky} (h : ∀ k ∈ ks, KyOk k) : ∀ n, n ≤ ks.length → ∀ k ∈ unl ks n, KyOk k
  | 0, _, k, hk => by cases hk
  | n + 1, hn, k, hk => by
    unfold unl at hk
    split at hk
    · exact unl_ok h n (by omega) k hk
    · rcases List.mem_append.1 hk with hk | hk
      · exact unl_ok h n (by omega) k hk
      · rw [List.mem_singleton.1 hk]
        exact h _ (ka_mem (by omega))
end Go.Proofs.Ytkbbngkfncbgkaa.IQSortsP
