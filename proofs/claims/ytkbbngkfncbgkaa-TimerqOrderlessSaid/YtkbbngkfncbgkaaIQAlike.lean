/- arrearslaw11.alike: of two queues that hold the same items it says true, and nothing turns. Conditions: the same items, no more than a million. -/
import Derived.Test.YtkbbngkfncbgkaaIQSort
import Derived.Test.YtkbbngkfncbgkaaWLast
import Derived.Test.YtkbbngkfncbgkaaWMore
namespace Go.Proofs.Ytkbbngkfncbgkaa.IQAlike
open Go.RowKit Go.Maps Go.Proofs.Ytkbbngkfncbgkaa.IQHeap Go.Proofs.Ytkbbngkfncbgkaa.IQWords Go.Proofs.Ytkbbngkfncbgkaa.IQSwap Go.Proofs.Ytkbbngkfncbgkaa.IQOrd Go.Proofs.Ytkbbngkfncbgkaa.IQUp Go.Proofs.Ytkbbngkfncbgkaa.IQGet Go.Proofs.Ytkbbngkfncbgkaa.IQPush Go.Proofs.Ytkbbngkfncbgkaa.IQTake Go.Proofs.Ytkbbngkfncbgkaa.IQCanc Go.Proofs.Ytkbbngkfncbgkaa.IQFill Go.Proofs.Ytkbbngkfncbgkaa.IQList Go.Proofs.Ytkbbngkfncbgkaa.IQTwo Go.Proofs.Ytkbbngkfncbgkaa.IQSort Go.Proofs.YtkbbngkfncbgkaaW.PrintWords Go.Proofs.YtkbbngkfncbgkaaW.PrintLast Go.Proofs.YtkbbngkfncbgkaaW.PrintMore
set_option linter.unusedVariables false
set_option linter.unusedSimpArgs false
theorem tn_drew {W W5 : World} (h : Below W.drew.heap.size W.drew W5) : Tn W W5 (fun _ => False) := ⟨h.os, h.tape, h.output, h.size, fun i hi _ => h.block i hi⟩
theorem keepc {W w3 : World} {a : Addr} {u : Value} (hb : Below W.heap.size W w3) (h : W.cell? a = some u) : w3.cell? a = some u :=
  (World.cell?_of_block (hb.block a.block (World.block_lt_of_cell? W a h))).trans h
/-- A queue's keys in their order. -/
def kS (L : List It) : List Ky := (L.map (·.1)).mergeSort fun x y => !(ltK y x)
theorem le_tr (a b c : Ky) (h1 : (!(ltK b a)) = true) (h2 : (!(ltK c b)) = true) : (!(ltK c a)) = true := by
  simp only [Bool.not_eq_true', ltK_not] at *
  omega
theorem le_tot (a b : Ky) : ((!(ltK b a)) || (!(ltK a b))) = true := by
  rw [Bool.or_eq_true, Bool.not_eq_true', Bool.not_eq_true', ltK_not, ltK_not]
  omega
theorem le_anti {a b : Ky} (h1 : (!(ltK b a)) = true) (h2 : (!(ltK a b)) = true) : a = b := by
  rw [Bool.not_eq_true'] at h1 h2
  exact ltK_total h2 h1
theorem kS_perm (L : List It) : (kS L).Perm (L.map (·.1)) := List.mergeSort_perm _ _
theorem kS_sorted (L : List It) : (kS L).Pairwise (fun a b => (!(ltK b a)) = true) := List.pairwise_mergeSort le_tr le_tot _
theorem kS_eq {L M : List It} (h : L.Perm M) : kS M = kS L :=
  List.Perm.eq_of_pairwise (fun _ _ _ _ h1 h2 => le_anti h1 h2) (kS_sorted M) (kS_sorted L) (((kS_perm M).trans (h.map _).symm).trans (kS_perm L).symm)
theorem kS_len (L : List It) : (kS L).length = L.length := by rw [(kS_perm L).length_eq, List.length_map]
theorem kS_head {L : List It} (h : HP ltI d0 L) (h0 : 0 < L.length) : ka (kS L) 0 = (at_ d0 L 0).1 := by
  have hl : 0 < (kS L).length := by rw [kS_len]; exact h0
  have hm := (kS_perm L).mem_iff.2 (List.mem_map.2 ⟨_, at_mem h0, rfl⟩)
  have hs := kS_sorted L
  obtain ⟨z, r, e⟩ : ∃ z r, kS L = z :: r := by
    cases hk : kS L with
    | nil => rw [hk] at hl; exact absurd hl (by decide)
    | cons z r => exact ⟨z, r, rfl⟩
  have hz : z ∈ kS L := by rw [e]; exact List.mem_cons_self
  obtain ⟨x, hx, ex⟩ := List.mem_map.1 ((kS_perm L).mem_iff.1 hz)
  rw [e] at hm hs
  have h1 : (!(ltK (at_ d0 L 0).1 z)) = true := by
    rcases List.mem_cons.1 hm with h2 | h2
    · rw [h2]
      exact (by have := le_tot z z; simpa using this)
    · exact (List.pairwise_cons.1 hs).1 _ h2
  have h2 : (!(ltK z (at_ d0 L 0).1)) = true := by
    obtain ⟨j, hj, e2⟩ := List.getElem_of_mem hx
    have h3 := h.min wo j j (Nat.le_refl _) hj
    rw [at_eq d0 L hj, e2] at h3
    rw [Bool.not_eq_true', ← ex]
    exact h3
  rw [e]
  show z = _
  exact le_anti h1 h2
theorem kS_item {L M : List It} (hp : L.Perm M) {i : Nat} (hi : i < L.length) : ∃ x : It, x.1 = ka (kS L) i ∧ (∃ j, j < L.length ∧ at_ d0 L j = x) ∧ ∃ j, j < M.length ∧ at_ d0 M j = x := by
  have hm := (kS_perm L).mem_iff.1 (ka_mem (ks := kS L) (i := i) (by rw [kS_len]; exact hi))
  obtain ⟨x, hx, ex⟩ := List.mem_map.1 hm
  obtain ⟨j, hj, e⟩ := List.getElem_of_mem hx
  obtain ⟨j2, hj2, e2⟩ := List.getElem_of_mem (hp.mem_iff.1 hx)
  exact ⟨x, ex, ⟨j, hj, by rw [at_eq d0 L hj, e]⟩, j2, hj2, by rw [at_eq d0 M hj2, e2]⟩
theorem list_ok (qb mb : Nat) (v : Value) (L : List It) (n : Nat) (hn : L.length = n) (ks : List Ky) (hk : kS L = ks) (w : World) (hl : L.length < 3000000000000) (hQ : QS w qb v mb L) :
    Calls Try.prog 21 #[.pointer (some ⟨qb, 0, none⟩)] w fun e w' => ∃ (A : Option Addr) (cap : Nat), e = .returned (.slice A n cap) ∧ KR w' A ks ∧ Tn w w' (fun _ => False) := by
  subst hn hk
  exact (list_calls sortOk qb mb v L w hl hQ).mono fun e w' ⟨A, cap, h1, h2, _, h4⟩ => ⟨A, cap, h1, h2, h4⟩
theorem len_ok (qb mb : Nat) (v : Value) (L : List It) (n : Nat) (hn : L.length = n) (w : World) (hQ : QS w qb v mb L) :
    Calls Try.prog 7 #[.pointer (some ⟨qb, 0, none⟩)] w fun e w' => e = .returned (.int .i64 n) ∧ w' = w := by
  subst hn
  exact len_calls qb mb v L w hQ
set_option maxHeartbeats 8000000 in
set_option maxRecDepth 1000000 in
theorem alike_calls (qb mb qb2 mb2 : Nat) (v v2 : Value) (L M : List It) (w : World) (hQ : QS w qb v mb L) (hQ2 : QS w qb2 v2 mb2 M) (hp : L.Perm M) (hl : HP ltI d0 L) (hm : HP ltI d0 M) (hn : L.length ≤ 1000000) :
    Calls Try.prog 16 #[.pointer (some ⟨qb, 0, none⟩), .pointer (some ⟨qb2, 0, none⟩)] w fun e w' => e = .returned (.bool true) ∧ Tn w w' (fun _ => False) := by
  obtain ⟨n, hnn⟩ : ∃ n, L.length = n := ⟨_, rfl⟩
  obtain ⟨ks, hks⟩ : ∃ ks, kS L = ks := ⟨_, rfl⟩
  have hMn : M.length = n := by rw [← hp.length_eq]; exact hnn
  have hMk : kS M = ks := by rw [kS_eq hp]; exact hks
  have HQ := Hd.mk hQ
  have HQ2 := Hd.mk hQ2
  have HP_ := Hd.mk hp
  have HX := Hd.mk hl
  have HY := Hd.mk hm
  have HKL : Hd (ks.length = n) := ⟨by rw [← hks, kS_len]; exact hnn⟩
  have h3 : L.length < 3000000000000 := by omega
  have h3m : M.length < 3000000000000 := by omega
  have h5 : L.length < 5000000000000 := by omega
  have h5m : M.length < 5000000000000 := by omega
  have HNN := Hd.mk hnn
  have HKS := Hd.mk hks
  have HMN := Hd.mk hMn
  have HMK := Hd.mk hMk
  clear hQ hQ2 hp hl hm hnn hks hMn hMk
  go_enter Try.func16, Try.ntmps16
  go_upto_region 5 with (first
    | (go_at_call 21; with_reducible refine (list_ok qb mb v L n HNN.out ks HKS.out _ h3 HQ.out).mono ?_; rintro e W1 ⟨A1, c1, rfl, hk1, hT1⟩; have HK1 := Hd.mk hk1; have HT1 := Hd.mk hT1; clear hk1 hT1)
    | (go_at_call 21; with_reducible refine (list_ok qb2 mb2 v2 M n HMN.out ks HMK.out _ h3m (HQ2.out.kept HT1.out (fun h => h) (fun h => h) (fun _ _ h => h))).mono ?_; rintro e W2 ⟨A2, c2, rfl, hk2, hT2⟩; have HK2 := Hd.mk hk2; have HK12 := Hd.mk (HK1.out.kept hT2 (fun _ _ h => h)); have HT2 := Hd.mk (HT1.out.then_ hT2 (fun _ h => .inl h)); have HQ_ := Hd.mk (HQ.out.kept HT2.out (fun h => h) (fun h => h) (fun _ _ h => h)); have HQ2_ := Hd.mk (HQ2.out.kept HT2.out (fun h => h) (fun h => h) (fun _ _ h => h)); clear hk2 hT2)
    | (go_at_call 7; with_reducible refine (len_ok qb mb v L n HNN.out _ HQ_.out).mono ?_; rintro e W2 ⟨rfl, rfl⟩)
    | (go_at_call 7; with_reducible refine (len_ok qb2 mb2 v2 M n HMN.out _ HQ2_.out).mono ?_; rintro e W2 ⟨rfl, rfl⟩))
  clear HK1 HT1 HQ HQ2
  go_wp2
  go_loopg [7] (n + 1) (fun g s7 wr => ∃ i : Nat, s7 = .int .i64 i ∧ i ≤ n ∧ n + 1 ≤ g + i ∧ Hd (Tn W2 wr (fun _ => False)))
  case atStart => exact ⟨0, rfl, Nat.zero_le _, by omega, ⟨Tn.refl _ _⟩⟩
  case round =>
    obtain ⟨i, rfl, hi, hg, HT⟩ := hrel
    have hn1 := HNN.out
    have HQ3 := Hd.mk (HQ_.out.kept HT.out (fun h => h) (fun h => h) (fun _ _ h => h))
    have HQ23 := Hd.mk (HQ2_.out.kept HT.out (fun h => h) (fun h => h) (fun _ _ h => h))
    have hk1 := HK12.out.kept HT.out (fun _ _ h => h)
    have hk2 := HK2.out.kept HT.out (fun _ _ h => h)
    by_cases c1 : i < n
    · have c1' : (i : Int) < (n : Int) := by omega
      obtain ⟨x, hx, ⟨j, hj, hje⟩, j2, hj2, hje2⟩ := kS_item HP_.out (i := i) (by omega)
      rw [HKS.out] at hx
      obtain ⟨k, hk⟩ : ∃ k, ka ks i = k := ⟨_, rfl⟩
      rw [hk] at hx
      obtain ⟨ad1, e1, a0, a1, a2⟩ := hk1 i (by rw [HKL.out]; exact c1)
      obtain ⟨ad2, e2, c0, c1_, c2_⟩ := hk2 i (by rw [HKL.out]; exact c1)
      subst e1 e2
      rw [hk] at a0 a1 a2 c0 c1_ c2_
      have HKO : Hd (KyOk k) := ⟨by rw [← hx, ← hje]; exact HQ3.out.okAt hj⟩
      have GP := Hd.mk (fun W (h : QS W qb v mb L) => get_yes qb mb v L k W HKO.out h h5 hj (by rw [hje]; exact hx))
      have GQ := Hd.mk (fun W (h : QS W qb2 v2 mb2 M) => get_yes qb2 mb2 v2 M k W HKO.out h h5m hj2 (by rw [hje2]; exact hx))
      rw [hje] at GP
      rw [hje2] at GQ
      obtain ⟨y, hy⟩ : ∃ y, x.2 = y := ⟨_, rfl⟩
      rw [hy] at GP GQ
      have hyy : (y != y) = false := by simp
      clear hje hje2 hx hk1 hk2 hk
      go_upto_region 10 with (first
        | (go_at_call 12; with_reducible refine (GP.out _ HQ3.out).mono ?_; rintro e W4 ⟨rfl, hT4⟩; obtain ⟨_, _, a0, a1, a2⟩ := keep3 hT4 a0 a1 a2; obtain ⟨_, _, c0, c1_, c2_⟩ := keep3 hT4 c0 c1_ c2_; have HT4 := Hd.mk hT4; have HQ24 := Hd.mk (HQ23.out.kept hT4 (fun h => h) (fun h => h) (fun _ _ h => h)); clear hT4)
        | (go_at_call 12; with_reducible refine (GQ.out _ HQ24.out).mono ?_; rintro e W5 ⟨rfl, hT5⟩; obtain ⟨_, _, a0, a1, a2⟩ := keep3 hT5 a0 a1 a2; obtain ⟨_, _, c0, c1_, c2_⟩ := keep3 hT5 c0 c1_ c2_; have HT5 := Hd.mk hT5; clear hT5))
      have im : (i : Int) < (n : Int) := by omega
      refine start_ (n := 23) (S := fun w' => w'.cell? (ad1.add (i * 3)) = some (.int .i64 k.d) ∧ w'.cell? ⟨(ad1.add (i * 3)).block, (ad1.add (i * 3)).off + 1, none⟩ = some (.int .i64 k.l) ∧ w'.cell? ⟨(ad1.add (i * 3)).block, (ad1.add (i * 3)).off + 2, none⟩ = some (.int .i64 k.k) ∧ w'.cell? (ad2.add (i * 3)) = some (.int .i64 k.d) ∧ w'.cell? ⟨(ad2.add (i * 3)).block, (ad2.add (i * 3)).off + 1, none⟩ = some (.int .i64 k.l) ∧ w'.cell? ⟨(ad2.add (i * 3)).block, (ad2.add (i * 3)).off + 2, none⟩ = some (.int .i64 k.k)) (ds := []) #[false, false, false, false, false, false, false, false, false, false, false, false, false, false, false, false, false, false, false, false, false, false, false] (by kernel_rfl) rfl rfl ⟨a0, a1, a2, c0, c1_, c2_⟩ (fun hHeld => ?_)
      refine pure_ (i := 0) (N := some 63) (v := ?_) (a' := ?_) #[true, false, false, false, false, false, false, false, false, false, false, false, false, false, false, false, false, false, false, false, false, false, false] rfl rfl (by kernel_rfl) (fun _ _ _ h => h) (Or.inl ⟨by rfl, ?_⟩) ?_ ?_
      rotate_left
      · intro w'
        go_simp
        with_reducible rfl
      rotate_left
      · simp only [Act.put, List.setIfInBounds_toArray, List.set_cons_zero, List.set_cons_succ, i64_w, i32_w]
        rfl
      refine pure_ (i := 1) (N := some 64) (v := ?_) (a' := ?_) #[true, true, false, false, false, false, false, false, false, false, false, false, false, false, false, false, false, false, false, false, false, false, false] rfl rfl (by kernel_rfl) (fun _ _ _ h => h) (Or.inl ⟨by rfl, ?_⟩) ?_ ?_
      rotate_left
      · intro w'
        go_simp
        with_reducible rfl
      rotate_left
      · simp only [Act.put, List.setIfInBounds_toArray, List.set_cons_zero, List.set_cons_succ, i64_w, i32_w]
        rfl
      refine pure_ (i := 2) (N := some 65) (v := ?_) (a' := ?_) #[true, true, true, false, false, false, false, false, false, false, false, false, false, false, false, false, false, false, false, false, false, false, false] rfl rfl (by kernel_rfl) (fun _ _ _ h => h) (Or.inl ⟨by rfl, ?_⟩) ?_ ?_
      rotate_left
      · intro w'
        go_simp
        with_reducible rfl
      rotate_left
      · simp only [Act.put, List.setIfInBounds_toArray, List.set_cons_zero, List.set_cons_succ, i64_w, i32_w]
        rfl
      refine pure_ (i := 4) (N := some 67) (v := ?_) (a' := ?_) #[true, true, true, false, true, false, false, false, false, false, false, false, false, false, false, false, false, false, false, false, false, false, false] rfl rfl (by kernel_rfl) (fun _ _ _ h => h) (Or.inl ⟨by rfl, ?_⟩) ?_ ?_
      rotate_left
      · intro w'
        go_simp
        with_reducible rfl
      rotate_left
      · simp only [Act.put, List.setIfInBounds_toArray, List.set_cons_zero, List.set_cons_succ, i64_w, i32_w]
        rfl
      refine pure_ (i := 5) (N := some 68) (v := ?_) (a' := ?_) #[true, true, true, false, true, true, false, false, false, false, false, false, false, false, false, false, false, false, false, false, false, false, false] rfl rfl (by kernel_rfl) (fun _ _ _ h => h) (Or.inl ⟨by rfl, ?_⟩) ?_ ?_
      rotate_left
      · intro w'
        go_simp
        with_reducible rfl
      rotate_left
      · simp only [Act.put, List.setIfInBounds_toArray, List.set_cons_zero, List.set_cons_succ, i64_w, i32_w]
        rfl
      refine pure_ (i := 6) (N := some 69) (v := ?_) (a' := ?_) #[true, true, true, false, true, true, true, false, false, false, false, false, false, false, false, false, false, false, false, false, false, false, false] rfl rfl (by kernel_rfl) (fun _ _ _ h => h) (Or.inl ⟨by rfl, ?_⟩) ?_ ?_
      rotate_left
      · intro w'
        go_simp
        with_reducible rfl
      rotate_left
      · simp only [Act.put, List.setIfInBounds_toArray, List.set_cons_zero, List.set_cons_succ, i64_w, i32_w]
        rfl
      refine take_ (i := 3) (N := some 66) (v := ?_) (a' := ?_) #[true, true, true, true, true, true, true, false, false, false, false, false, false, false, false, false, false, false, false, false, false, false, false] rfl rfl (by kernel_rfl) (fun _ _ _ h => h) (Or.inl ⟨by rfl, ?_⟩) hHeld ?_ ?_
      rotate_left
      · rintro w' ⟨s0, s1, s2, s3, s4, s5⟩
        go_simp
        with_reducible rfl
      rotate_left
      · simp only [Act.put, List.setIfInBounds_toArray, List.set_cons_zero, List.set_cons_succ, i64_w, i32_w]
        rfl
      refine take_ (i := 7) (N := some 70) (v := ?_) (a' := ?_) #[true, true, true, true, true, true, true, true, false, false, false, false, false, false, false, false, false, false, false, false, false, false, false] rfl rfl (by kernel_rfl) (fun _ _ _ h => h) (Or.inl ⟨by rfl, ?_⟩) hHeld ?_ ?_
      rotate_left
      · rintro w' ⟨s0, s1, s2, s3, s4, s5⟩
        go_simp
        with_reducible rfl
      rotate_left
      · simp only [Act.put, List.setIfInBounds_toArray, List.set_cons_zero, List.set_cons_succ, i64_w, i32_w]
        rfl
      refine one_ (i := 8) (N := some 71) #[true, true, true, true, true, true, true, true, true, false, false, false, false, false, false, false, false, false, false, false, false, false, false] rfl rfl (by kernel_rfl) (by decide) (fun K hK => ?_)
      refine goes_ Try.func11 (by kernel_rfl) rfl #[.agg #[.int .i64 k.d, .int .i64 k.l, .int .i64 k.k], .agg #[.int .i64 k.d, .int .i64 k.l, .int .i64 k.k]] (by rfl) rfl rfl (by simp only [List.map_toArray, List.map_cons, List.map_nil]; rfl) ?_
      with_reducible refine (same_k k k true (by simp) _).mono ?_
      rintro e W8 ⟨rfl, hb8⟩
      refine ⟨_, rfl, ?_⟩
      have ra0 := keepc hb8 a0
      have ra1 := keepc hb8 a1
      have ra2 := keepc hb8 a2
      have rc0 := keepc hb8 c0
      have rc1_ := keepc hb8 c1_
      have rc2_ := keepc hb8 c2_
      refine hK.out _ _ ⟨ra0, ra1, ra2, rc0, rc1_, rc2_⟩ (fun hHeld => ?_)
      clear hK K
      refine norm_ (a' := ?_) ?_ ?_
      rotate_left
      · show Act.put _ (some 71) _ = _
        simp only [Act.put, List.setIfInBounds_toArray, List.set_cons_zero, List.set_cons_succ, i64_w, i32_w]
        rfl
      refine pure_ (i := 9) (N := some 72) (v := ?_) (a' := ?_) #[true, true, true, true, true, true, true, true, true, true, false, false, false, false, false, false, false, false, false, false, false, false, false] rfl rfl (by kernel_rfl) (fun _ _ _ h => h) (Or.inl ⟨by rfl, ?_⟩) ?_ ?_
      rotate_left
      · intro w'
        go_simp
        with_reducible rfl
      rotate_left
      · simp only [Act.put, List.setIfInBounds_toArray, List.set_cons_zero, List.set_cons_succ, i64_w, i32_w]
        rfl
      refine pure_ (i := 10) (N := some 73) (v := ?_) (a' := ?_) #[true, true, true, true, true, true, true, true, true, true, true, false, false, false, false, false, false, false, false, false, false, false, false] rfl rfl (by kernel_rfl) (fun _ _ _ h => h) (Or.inl ⟨by rfl, ?_⟩) ?_ ?_
      rotate_left
      · intro w'
        go_simp
        with_reducible rfl
      rotate_left
      · simp only [Act.put, List.setIfInBounds_toArray, List.set_cons_zero, List.set_cons_succ, i64_w, i32_w]
        rfl
      refine pure_ (i := 11) (N := some 74) (v := ?_) (a' := ?_) #[true, true, true, true, true, true, true, true, true, true, true, true, false, false, false, false, false, false, false, false, false, false, false] rfl rfl (by kernel_rfl) (fun _ _ _ h => h) (Or.inl ⟨by rfl, ?_⟩) ?_ ?_
      rotate_left
      · intro w'
        go_simp
        with_reducible rfl
      rotate_left
      · simp only [Act.put, List.setIfInBounds_toArray, List.set_cons_zero, List.set_cons_succ, i64_w, i32_w]
        rfl
      refine pure_ (i := 12) (N := some 75) (v := ?_) (a' := ?_) #[true, true, true, true, true, true, true, true, true, true, true, true, true, false, false, false, false, false, false, false, false, false, false] rfl rfl (by kernel_rfl) (fun _ _ _ h => h) (Or.inl ⟨by rfl, ?_⟩) ?_ ?_
      rotate_left
      · intro w'
        go_simp
        with_reducible rfl
      rotate_left
      · simp only [Act.put, List.setIfInBounds_toArray, List.set_cons_zero, List.set_cons_succ, i64_w, i32_w]
        rfl
      refine pure_ (i := 13) (N := some 76) (v := ?_) (a' := ?_) #[true, true, true, true, true, true, true, true, true, true, true, true, true, true, false, false, false, false, false, false, false, false, false] rfl rfl (by kernel_rfl) (fun _ _ _ h => h) (Or.inl ⟨by rfl, ?_⟩) ?_ ?_
      rotate_left
      · intro w'
        go_simp
        with_reducible rfl
      rotate_left
      · simp only [Act.put, List.setIfInBounds_toArray, List.set_cons_zero, List.set_cons_succ, i64_w, i32_w]
        rfl
      refine pure_ (i := 14) (N := some 77) (v := ?_) (a' := ?_) #[true, true, true, true, true, true, true, true, true, true, true, true, true, true, true, false, false, false, false, false, false, false, false] rfl rfl (by kernel_rfl) (fun _ _ _ h => h) (Or.inl ⟨by rfl, ?_⟩) ?_ ?_
      rotate_left
      · intro w'
        go_simp
        with_reducible rfl
      rotate_left
      · simp only [Act.put, List.setIfInBounds_toArray, List.set_cons_zero, List.set_cons_succ, i64_w, i32_w]
        rfl
      refine pure_ (i := 15) (N := some 78) (v := ?_) (a' := ?_) #[true, true, true, true, true, true, true, true, true, true, true, true, true, true, true, true, false, false, false, false, false, false, false] rfl rfl (by kernel_rfl) (fun _ _ _ h => h) (Or.inl ⟨by rfl, ?_⟩) ?_ ?_
      rotate_left
      · intro w'
        go_simp
        with_reducible rfl
      rotate_left
      · simp only [Act.put, List.setIfInBounds_toArray, List.set_cons_zero, List.set_cons_succ, i64_w, i32_w]
        rfl
      refine pure_ (i := 16) (N := some 79) (v := ?_) (a' := ?_) #[true, true, true, true, true, true, true, true, true, true, true, true, true, true, true, true, true, false, false, false, false, false, false] rfl rfl (by kernel_rfl) (fun _ _ _ h => h) (Or.inl ⟨by rfl, ?_⟩) ?_ ?_
      rotate_left
      · intro w'
        go_simp
        with_reducible rfl
      rotate_left
      · simp only [Act.put, List.setIfInBounds_toArray, List.set_cons_zero, List.set_cons_succ, i64_w, i32_w]
        rfl
      refine pure_ (i := 17) (N := some 80) (v := ?_) (a' := ?_) #[true, true, true, true, true, true, true, true, true, true, true, true, true, true, true, true, true, true, false, false, false, false, false] rfl rfl (by kernel_rfl) (fun _ _ _ h => h) (Or.inl ⟨by rfl, ?_⟩) ?_ ?_
      rotate_left
      · intro w'
        go_simp
        with_reducible rfl
      rotate_left
      · simp only [Act.put, List.setIfInBounds_toArray, List.set_cons_zero, List.set_cons_succ, i64_w, i32_w]
        rfl
      refine pure_ (i := 18) (N := some 81) (v := ?_) (a' := ?_) #[true, true, true, true, true, true, true, true, true, true, true, true, true, true, true, true, true, true, true, false, false, false, false] rfl rfl (by kernel_rfl) (fun _ _ _ h => h) (Or.inl ⟨by rfl, ?_⟩) ?_ ?_
      rotate_left
      · intro w'
        go_simp
        with_reducible rfl
      rotate_left
      · simp only [Act.put, List.setIfInBounds_toArray, List.set_cons_zero, List.set_cons_succ, i64_w, i32_w]
        rfl
      refine pure_ (i := 19) (N := some 82) (v := ?_) (a' := ?_) #[true, true, true, true, true, true, true, true, true, true, true, true, true, true, true, true, true, true, true, true, false, false, false] rfl rfl (by kernel_rfl) (fun _ _ _ h => h) (Or.inl ⟨by rfl, ?_⟩) ?_ ?_
      rotate_left
      · intro w'
        go_simp
        with_reducible rfl
      rotate_left
      · simp only [Act.put, List.setIfInBounds_toArray, List.set_cons_zero, List.set_cons_succ, i64_w, i32_w]
        rfl
      refine pure_ (i := 20) (N := some 83) (v := ?_) (a' := ?_) #[true, true, true, true, true, true, true, true, true, true, true, true, true, true, true, true, true, true, true, true, true, false, false] rfl rfl (by kernel_rfl) (fun _ _ _ h => h) (Or.inl ⟨by rfl, ?_⟩) ?_ ?_
      rotate_left
      · intro w'
        go_simp
        with_reducible rfl
      rotate_left
      · simp only [Act.put, List.setIfInBounds_toArray, List.set_cons_zero, List.set_cons_succ, i64_w, i32_w]
        rfl
      refine pure_ (i := 21) (N := some 84) (v := ?_) (a' := ?_) #[true, true, true, true, true, true, true, true, true, true, true, true, true, true, true, true, true, true, true, true, true, true, false] rfl rfl (by kernel_rfl) (fun _ _ _ h => h) (Or.inl ⟨by rfl, ?_⟩) ?_ ?_
      rotate_left
      · intro w'
        go_simp
        with_reducible rfl
      rotate_left
      · simp only [Act.put, List.setIfInBounds_toArray, List.set_cons_zero, List.set_cons_succ, i64_w, i32_w]
        rfl
      refine pure_ (i := 22) (N := some 85) (v := ?_) (a' := ?_) #[true, true, true, true, true, true, true, true, true, true, true, true, true, true, true, true, true, true, true, true, true, true, true] rfl rfl (by kernel_rfl) (fun _ _ _ h => h) (Or.inl ⟨by rfl, ?_⟩) ?_ ?_
      rotate_left
      · intro w'
        go_simp
        with_reducible rfl
      rotate_left
      · simp only [Act.put, List.setIfInBounds_toArray, List.set_cons_zero, List.set_cons_succ, i64_w, i32_w]
        rfl
      refine done_ (by kernel_rfl) ?_
      go_wp2
      go_roundg (n - i)
      case measure => omega
      case rel => exact ⟨i + 1, by go_num, by omega, by omega, ⟨((HT.out.then_ HT4.out (fun _ h => h.elim)).then_ HT5.out (fun _ h => h.elim)).then_ (tn_drew hb8) (fun _ h => h.elim)⟩⟩
    · have c1' : decide ((i : Int) < (n : Int)) = false := decide_eq_false (by omega)
      have HT3 := Hd.mk (HT2.out.then_ HT.out (fun _ h => h.elim))
      obtain ⟨k, hk⟩ : ∃ k, (at_ d0 L 0).1 = k := ⟨_, rfl⟩
      obtain ⟨b, hb⟩ : ∃ b, decide (0 < L.length) = b := ⟨_, rfl⟩
      have hkm : (at_ d0 M 0).1 = k := by
        by_cases h0 : 0 < L.length
        · rw [← same_head HP_.out HX.out HY.out (qs_nodup HQ3.out) h0]
          exact hk
        · have e1 : L = [] := List.eq_nil_of_length_eq_zero (by omega)
          have e2 : M = [] := List.eq_nil_of_length_eq_zero (by have := HMN.out; omega)
          rw [e2, ← hk, e1]
      have hbm : decide (0 < M.length) = b := by rw [HMN.out, ← hn1]; exact hb
      have NP := Hd.mk (fun W (h : QS W qb v mb L) => next_aux qb mb v L W h b k hb hk)
      have NQ := Hd.mk (fun W (h : QS W qb2 v2 mb2 M) => next_aux qb2 mb2 v2 M W h b k hbm hkm)
      have HKK := Hd.mk hk
      have HK13 := Hd.mk hk1
      clear hk hb hkm hbm hk1 hk2
      go_upto_region 13 with (first | (go_at_call 22; with_reducible refine (NP.out _ HQ3.out).mono ?_; rintro e W4 ⟨rfl, hT4⟩; have HT4 := Hd.mk hT4; clear hT4))
      have HB4 : Hd ((W4.alloc (.cells #[.int .i64 k.d, .int .i64 k.l, .int .i64 k.k] 26)).heap[W4.heap.size]? = some (.cells #[.int .i64 k.d, .int .i64 k.l, .int .i64 k.k] 26 (0, 0))) := ⟨heap_alloc_new W4 _⟩
      have HT5 : Hd (Tn wr (W4.alloc (.cells #[.int .i64 k.d, .int .i64 k.l, .int .i64 k.k] 26)) (fun _ => False)) := ⟨HT4.out.then_ (Tn.alloc W4 _ (fun _ => False)) (fun _ h => h.elim)⟩
      obtain ⟨kb, hkb⟩ : ∃ kb, W4.heap.size = kb := ⟨_, rfl⟩
      rw [hkb] at HB4 ⊢
      generalize hW5 : W4.alloc (.cells #[.int .i64 k.d, .int .i64 k.l, .int .i64 k.k] 26) = W5 at HB4 HT5 ⊢
      clear hW5 HT4 hkb
      have HQ25 := Hd.mk (HQ23.out.kept HT5.out (fun h => h) (fun h => h) (fun _ _ h => h))
      go_upto_region 14 with (first | (go_at_call 22; with_reducible refine (NQ.out _ HQ25.out).mono ?_; rintro e W6 ⟨rfl, hT6⟩; have HT6 := Hd.mk hT6; clear hT6))
      have HB6 : Hd ((W6.alloc (.cells #[.int .i64 k.d, .int .i64 k.l, .int .i64 k.k] 26)).heap[W6.heap.size]? = some (.cells #[.int .i64 k.d, .int .i64 k.l, .int .i64 k.k] 26 (0, 0))) := ⟨heap_alloc_new W6 _⟩
      have HT7 : Hd (Tn W5 (W6.alloc (.cells #[.int .i64 k.d, .int .i64 k.l, .int .i64 k.k] 26)) (fun _ => False)) := ⟨HT6.out.then_ (Tn.alloc W6 _ (fun _ => False)) (fun _ h => h.elim)⟩
      obtain ⟨kb2, hkb2⟩ : ∃ kb, W6.heap.size = kb := ⟨_, rfl⟩
      rw [hkb2] at HB6 ⊢
      generalize hW7 : W6.alloc (.cells #[.int .i64 k.d, .int .i64 k.l, .int .i64 k.k] 26) = W7 at HB6 HT7 ⊢
      clear hW7 HT6 hkb2
      have HB7 : Hd (W7.heap[kb]? = _) := ⟨HT7.out.blk HB4.out (fun h => h)⟩
      have HT8 := Hd.mk (HT5.out.then_ HT7.out (fun _ h => h.elim))
      have e0 : W7.cell? ⟨kb, 0, none⟩ = some (.int .i64 k.d) := cell_of_row W7 kb 0 _ _ (0, 0) HB7.out
      have e1 : W7.cell? ⟨kb, 1, none⟩ = some (.int .i64 k.l) := cell_of_row W7 kb 1 _ _ (0, 0) HB7.out
      have e2 : W7.cell? ⟨kb, 2, none⟩ = some (.int .i64 k.k) := cell_of_row W7 kb 2 _ _ (0, 0) HB7.out
      have f0 : W7.cell? ⟨kb2, 0, none⟩ = some (.int .i64 k.d) := cell_of_row W7 kb2 0 _ _ (0, 0) HB6.out
      have f1 : W7.cell? ⟨kb2, 1, none⟩ = some (.int .i64 k.l) := cell_of_row W7 kb2 1 _ _ (0, 0) HB6.out
      have f2 : W7.cell? ⟨kb2, 2, none⟩ = some (.int .i64 k.k) := cell_of_row W7 kb2 2 _ _ (0, 0) HB6.out
      have hbb : (b == b) = true := beq_self_eq_true b
      by_cases n0 : n = 0
      · have hz : ((n : Int) == 0) = true := by rw [n0]; rfl
        have HZ := Hd.mk n0
        clear n0
        refine start_ (n := 21) (S := fun w' => w'.cell? ⟨kb, 0, none⟩ = some (.int .i64 k.d) ∧ w'.cell? ⟨kb, 1, none⟩ = some (.int .i64 k.l) ∧ w'.cell? ⟨kb, 2, none⟩ = some (.int .i64 k.k) ∧ w'.cell? ⟨kb2, 0, none⟩ = some (.int .i64 k.d) ∧ w'.cell? ⟨kb2, 1, none⟩ = some (.int .i64 k.l) ∧ w'.cell? ⟨kb2, 2, none⟩ = some (.int .i64 k.k)) (ds := []) #[false, false, false, false, false, false, false, false, false, false, false, false, false, false, false, false, false, false, false, false, false] (by kernel_rfl) rfl rfl ⟨e0, e1, e2, f0, f1, f2⟩ (fun hHeld => ?_)
        refine pure_ (i := 0) (N := some 96) (v := ?_) (a' := ?_) #[true, false, false, false, false, false, false, false, false, false, false, false, false, false, false, false, false, false, false, false, false] rfl rfl (by kernel_rfl) (fun _ _ _ h => h) (Or.inl ⟨by rfl, ?_⟩) ?_ ?_
        rotate_left
        · intro w'
          go_simp
          with_reducible rfl
        rotate_left
        · simp only [Act.put, List.setIfInBounds_toArray, List.set_cons_zero, List.set_cons_succ, i64_w, i32_w]
          rfl
        refine pure_ (i := 1) (N := some 97) (v := ?_) (a' := ?_) #[true, true, false, false, false, false, false, false, false, false, false, false, false, false, false, false, false, false, false, false, false] rfl rfl (by kernel_rfl) (fun _ _ _ h => h) (Or.inl ⟨by rfl, ?_⟩) ?_ ?_
        rotate_left
        · intro w'
          go_simp
          with_reducible rfl
        rotate_left
        · simp only [Act.put, List.setIfInBounds_toArray, List.set_cons_zero, List.set_cons_succ, i64_w, i32_w]
          rfl
        refine pure_ (i := 2) (N := some 98) (v := ?_) (a' := ?_) #[true, true, true, false, false, false, false, false, false, false, false, false, false, false, false, false, false, false, false, false, false] rfl rfl (by kernel_rfl) (fun _ _ _ h => h) (Or.inl ⟨by rfl, ?_⟩) ?_ ?_
        rotate_left
        · intro w'
          go_simp
          with_reducible rfl
        rotate_left
        · simp only [Act.put, List.setIfInBounds_toArray, List.set_cons_zero, List.set_cons_succ, i64_w, i32_w]
          rfl
        refine pure_ (i := 3) (N := some 99) (v := ?_) (a' := ?_) #[true, true, true, true, false, false, false, false, false, false, false, false, false, false, false, false, false, false, false, false, false] rfl rfl (by kernel_rfl) (fun _ _ _ h => h) (Or.inl ⟨by rfl, ?_⟩) ?_ ?_
        rotate_left
        · intro w'
          go_simp
          with_reducible rfl
        rotate_left
        · simp only [Act.put, List.setIfInBounds_toArray, List.set_cons_zero, List.set_cons_succ, i64_w, i32_w]
          rfl
        refine take_ (i := 4) (N := some 100) (v := ?_) (a' := ?_) #[true, true, true, true, true, false, false, false, false, false, false, false, false, false, false, false, false, false, false, false, false] rfl rfl (by kernel_rfl) (fun _ _ _ h => h) (Or.inl ⟨by rfl, ?_⟩) hHeld ?_ ?_
        rotate_left
        · rintro w' ⟨s0, s1, s2, s3, s4, s5⟩
          go_simp
          with_reducible rfl
        rotate_left
        · simp only [Act.put, List.setIfInBounds_toArray, List.set_cons_zero, List.set_cons_succ, i64_w, i32_w]
          rfl
        refine take_ (i := 5) (N := some 101) (v := ?_) (a' := ?_) #[true, true, true, true, true, true, false, false, false, false, false, false, false, false, false, false, false, false, false, false, false] rfl rfl (by kernel_rfl) (fun _ _ _ h => h) (Or.inl ⟨by rfl, ?_⟩) hHeld ?_ ?_
        rotate_left
        · rintro w' ⟨s0, s1, s2, s3, s4, s5⟩
          go_simp
          with_reducible rfl
        rotate_left
        · simp only [Act.put, List.setIfInBounds_toArray, List.set_cons_zero, List.set_cons_succ, i64_w, i32_w]
          rfl
        refine one_ (i := 6) (N := some 102) #[true, true, true, true, true, true, true, false, false, false, false, false, false, false, false, false, false, false, false, false, false] rfl rfl (by kernel_rfl) (by decide) (fun K hK => ?_)
        refine goes_ Try.func11 (by kernel_rfl) rfl #[.agg #[.int .i64 k.d, .int .i64 k.l, .int .i64 k.k], .agg #[.int .i64 k.d, .int .i64 k.l, .int .i64 k.k]] (by rfl) rfl rfl (by simp only [List.map_toArray, List.map_cons, List.map_nil]; rfl) ?_
        with_reducible refine (same_k k k true (by simp) _).mono ?_
        rintro e W8 ⟨rfl, hb8⟩
        refine ⟨_, rfl, ?_⟩
        have re0 := keepc hb8 e0
        have re1 := keepc hb8 e1
        have re2 := keepc hb8 e2
        have rf0 := keepc hb8 f0
        have rf1 := keepc hb8 f1
        have rf2 := keepc hb8 f2
        refine hK.out _ _ ⟨re0, re1, re2, rf0, rf1, rf2⟩ (fun hHeld => ?_)
        clear hK K
        refine norm_ (a' := ?_) ?_ ?_
        rotate_left
        · show Act.put _ (some 102) _ = _
          simp only [Act.put, List.setIfInBounds_toArray, List.set_cons_zero, List.set_cons_succ, i64_w, i32_w]
          rfl
        refine pure_ (i := 7) (N := some 103) (v := ?_) (a' := ?_) #[true, true, true, true, true, true, true, true, false, false, false, false, false, false, false, false, false, false, false, false, false] rfl rfl (by kernel_rfl) (fun _ _ _ h => h) (Or.inl ⟨by rfl, ?_⟩) ?_ ?_
        rotate_left
        · intro w'
          go_simp
          with_reducible rfl
        rotate_left
        · simp only [Act.put, List.setIfInBounds_toArray, List.set_cons_zero, List.set_cons_succ, i64_w, i32_w]
          rfl
        refine pure_ (i := 8) (N := some 104) (v := ?_) (a' := ?_) #[true, true, true, true, true, true, true, true, true, false, false, false, false, false, false, false, false, false, false, false, false] rfl rfl (by kernel_rfl) (fun _ _ _ h => h) (Or.inl ⟨by rfl, ?_⟩) ?_ ?_
        rotate_left
        · intro w'
          go_simp
          with_reducible rfl
        rotate_left
        · simp only [Act.put, List.setIfInBounds_toArray, List.set_cons_zero, List.set_cons_succ, i64_w, i32_w]
          rfl
        refine pure_ (i := 9) (N := some 105) (v := ?_) (a' := ?_) #[true, true, true, true, true, true, true, true, true, true, false, false, false, false, false, false, false, false, false, false, false] rfl rfl (by kernel_rfl) (fun _ _ _ h => h) (Or.inl ⟨by rfl, ?_⟩) ?_ ?_
        rotate_left
        · intro w'
          go_simp
          with_reducible rfl
        rotate_left
        · simp only [Act.put, List.setIfInBounds_toArray, List.set_cons_zero, List.set_cons_succ, i64_w, i32_w]
          rfl
        refine pure_ (i := 10) (N := some 106) (v := ?_) (a' := ?_) #[true, true, true, true, true, true, true, true, true, true, true, false, false, false, false, false, false, false, false, false, false] rfl rfl (by kernel_rfl) (fun _ _ _ h => h) (Or.inl ⟨by rfl, ?_⟩) ?_ ?_
        rotate_left
        · intro w'
          go_simp
          with_reducible rfl
        rotate_left
        · simp only [Act.put, List.setIfInBounds_toArray, List.set_cons_zero, List.set_cons_succ, i64_w, i32_w]
          rfl
        refine pure_ (i := 11) (N := some 107) (v := ?_) (a' := ?_) #[true, true, true, true, true, true, true, true, true, true, true, true, false, false, false, false, false, false, false, false, false] rfl rfl (by kernel_rfl) (fun _ _ _ h => h) (Or.inl ⟨by rfl, ?_⟩) ?_ ?_
        rotate_left
        · intro w'
          go_simp
          with_reducible rfl
        rotate_left
        · simp only [Act.put, List.setIfInBounds_toArray, List.set_cons_zero, List.set_cons_succ, i64_w, i32_w]
          rfl
        refine pure_ (i := 12) (N := some 108) (v := ?_) (a' := ?_) #[true, true, true, true, true, true, true, true, true, true, true, true, true, false, false, false, false, false, false, false, false] rfl rfl (by kernel_rfl) (fun _ _ _ h => h) (Or.inl ⟨by rfl, ?_⟩) ?_ ?_
        rotate_left
        · intro w'
          go_simp
          with_reducible rfl
        rotate_left
        · simp only [Act.put, List.setIfInBounds_toArray, List.set_cons_zero, List.set_cons_succ, i64_w, i32_w]
          rfl
        refine pure_ (i := 13) (N := some 109) (v := undef) (a' := ?_) #[true, true, true, true, true, true, true, true, true, true, true, true, true, true, false, false, false, false, false, false, false] rfl rfl (by kernel_rfl) (fun _ _ _ h => h) (Or.inr ⟨by rfl, rfl⟩) ?_ ?_
        rotate_left
        · simp only [Act.put, List.setIfInBounds_toArray, List.set_cons_zero, List.set_cons_succ, i64_w, i32_w]
          rfl
        refine pure_ (i := 14) (N := some 110) (v := undef) (a' := ?_) #[true, true, true, true, true, true, true, true, true, true, true, true, true, true, true, false, false, false, false, false, false] rfl rfl (by kernel_rfl) (fun _ _ _ h => h) (Or.inr ⟨by rfl, rfl⟩) ?_ ?_
        rotate_left
        · simp only [Act.put, List.setIfInBounds_toArray, List.set_cons_zero, List.set_cons_succ, i64_w, i32_w]
          rfl
        refine pure_ (i := 15) (N := some 111) (v := undef) (a' := ?_) #[true, true, true, true, true, true, true, true, true, true, true, true, true, true, true, true, false, false, false, false, false] rfl rfl (by kernel_rfl) (fun _ _ _ h => h) (Or.inr ⟨by rfl, rfl⟩) ?_ ?_
        rotate_left
        · simp only [Act.put, List.setIfInBounds_toArray, List.set_cons_zero, List.set_cons_succ, i64_w, i32_w]
          rfl
        refine pure_ (i := 16) (N := some 112) (v := undef) (a' := ?_) #[true, true, true, true, true, true, true, true, true, true, true, true, true, true, true, true, true, false, false, false, false] rfl rfl (by kernel_rfl) (fun _ _ _ h => h) (Or.inr ⟨by rfl, rfl⟩) ?_ ?_
        rotate_left
        · simp only [Act.put, List.setIfInBounds_toArray, List.set_cons_zero, List.set_cons_succ, i64_w, i32_w]
          rfl
        refine pure_ (i := 17) (N := some 113) (v := undef) (a' := ?_) #[true, true, true, true, true, true, true, true, true, true, true, true, true, true, true, true, true, true, false, false, false] rfl rfl (by kernel_rfl) (fun _ _ _ h => h) (Or.inr ⟨by rfl, rfl⟩) ?_ ?_
        rotate_left
        · simp only [Act.put, List.setIfInBounds_toArray, List.set_cons_zero, List.set_cons_succ, i64_w, i32_w]
          rfl
        refine pure_ (i := 18) (N := some 114) (v := ?_) (a' := ?_) #[true, true, true, true, true, true, true, true, true, true, true, true, true, true, true, true, true, true, true, false, false] rfl rfl (by kernel_rfl) (fun _ _ _ h => h) (Or.inl ⟨by rfl, ?_⟩) ?_ ?_
        rotate_left
        · intro w'
          go_simp
          with_reducible rfl
        rotate_left
        · simp only [Act.put, List.setIfInBounds_toArray, List.set_cons_zero, List.set_cons_succ, i64_w, i32_w]
          rfl
        refine pure_ (i := 19) (N := some 115) (v := ?_) (a' := ?_) #[true, true, true, true, true, true, true, true, true, true, true, true, true, true, true, true, true, true, true, true, false] rfl rfl (by kernel_rfl) (fun _ _ _ h => h) (Or.inl ⟨by rfl, ?_⟩) ?_ ?_
        rotate_left
        · intro w'
          go_simp
          with_reducible rfl
        rotate_left
        · simp only [Act.put, List.setIfInBounds_toArray, List.set_cons_zero, List.set_cons_succ, i64_w, i32_w]
          rfl
        refine pure_ (i := 20) (N := some 4) (v := ?_) (a' := ?_) #[true, true, true, true, true, true, true, true, true, true, true, true, true, true, true, true, true, true, true, true, true] rfl rfl (by kernel_rfl) (fun _ _ _ h => h) (Or.inl ⟨by rfl, ?_⟩) ?_ ?_
        rotate_left
        · intro w'
          go_simp
          with_reducible rfl
        rotate_left
        · simp only [Act.put, List.setIfInBounds_toArray, List.set_cons_zero, List.set_cons_succ, i64_w, i32_w]
          rfl
        refine done_ (by kernel_rfl) ?_
        go_wp2
        go_ret
        exact ⟨rfl, (HT3.out.then_ HT8.out (fun _ h => h.elim)).then_ (tn_drew hb8) (fun _ h => h.elim)⟩
      · have hz : ((n : Int) == 0) = false := beq_eq_false_iff_ne.2 (by omega)
        obtain ⟨ad1, eA, a0, a1, a2⟩ := (HK13.out.kept HT8.out (fun _ _ h => h)) 0 (by rw [HKL.out]; omega)
        subst eA
        have hadd : ad1.add (0 * 3) = ad1 := by
          rw [Nat.zero_mul]
          simp [Addr.add]
        have hkh : ka ks 0 = k := by rw [← HKS.out, kS_head HX.out (by omega)]; exact HKK.out
        rw [hadd, hkh] at a0
        rw [hadd, hkh] at a1 a2
        have im : (0 : Int) < (n : Int) := by omega
        have im2 : 0 < n := by omega
        clear hadd hkh n0
        refine start_ (n := 21) (S := fun w' => w'.cell? ⟨kb, 0, none⟩ = some (.int .i64 k.d) ∧ w'.cell? ⟨kb, 1, none⟩ = some (.int .i64 k.l) ∧ w'.cell? ⟨kb, 2, none⟩ = some (.int .i64 k.k) ∧ w'.cell? ⟨kb2, 0, none⟩ = some (.int .i64 k.d) ∧ w'.cell? ⟨kb2, 1, none⟩ = some (.int .i64 k.l) ∧ w'.cell? ⟨kb2, 2, none⟩ = some (.int .i64 k.k) ∧ w'.cell? ad1 = some (.int .i64 k.d) ∧ w'.cell? ⟨ad1.block, ad1.off + 1, none⟩ = some (.int .i64 k.l) ∧ w'.cell? ⟨ad1.block, ad1.off + 2, none⟩ = some (.int .i64 k.k)) (ds := []) #[false, false, false, false, false, false, false, false, false, false, false, false, false, false, false, false, false, false, false, false, false] (by kernel_rfl) rfl rfl ⟨e0, e1, e2, f0, f1, f2, a0, a1, a2⟩ (fun hHeld => ?_)
        refine pure_ (i := 0) (N := some 96) (v := ?_) (a' := ?_) #[true, false, false, false, false, false, false, false, false, false, false, false, false, false, false, false, false, false, false, false, false] rfl rfl (by kernel_rfl) (fun _ _ _ h => h) (Or.inl ⟨by rfl, ?_⟩) ?_ ?_
        rotate_left
        · intro w'
          go_simp
          with_reducible rfl
        rotate_left
        · simp only [Act.put, List.setIfInBounds_toArray, List.set_cons_zero, List.set_cons_succ, i64_w, i32_w]
          rfl
        refine pure_ (i := 1) (N := some 97) (v := ?_) (a' := ?_) #[true, true, false, false, false, false, false, false, false, false, false, false, false, false, false, false, false, false, false, false, false] rfl rfl (by kernel_rfl) (fun _ _ _ h => h) (Or.inl ⟨by rfl, ?_⟩) ?_ ?_
        rotate_left
        · intro w'
          go_simp
          with_reducible rfl
        rotate_left
        · simp only [Act.put, List.setIfInBounds_toArray, List.set_cons_zero, List.set_cons_succ, i64_w, i32_w]
          rfl
        refine pure_ (i := 2) (N := some 98) (v := ?_) (a' := ?_) #[true, true, true, false, false, false, false, false, false, false, false, false, false, false, false, false, false, false, false, false, false] rfl rfl (by kernel_rfl) (fun _ _ _ h => h) (Or.inl ⟨by rfl, ?_⟩) ?_ ?_
        rotate_left
        · intro w'
          go_simp
          with_reducible rfl
        rotate_left
        · simp only [Act.put, List.setIfInBounds_toArray, List.set_cons_zero, List.set_cons_succ, i64_w, i32_w]
          rfl
        refine pure_ (i := 3) (N := some 99) (v := ?_) (a' := ?_) #[true, true, true, true, false, false, false, false, false, false, false, false, false, false, false, false, false, false, false, false, false] rfl rfl (by kernel_rfl) (fun _ _ _ h => h) (Or.inl ⟨by rfl, ?_⟩) ?_ ?_
        rotate_left
        · intro w'
          go_simp
          with_reducible rfl
        rotate_left
        · simp only [Act.put, List.setIfInBounds_toArray, List.set_cons_zero, List.set_cons_succ, i64_w, i32_w]
          rfl
        refine take_ (i := 4) (N := some 100) (v := ?_) (a' := ?_) #[true, true, true, true, true, false, false, false, false, false, false, false, false, false, false, false, false, false, false, false, false] rfl rfl (by kernel_rfl) (fun _ _ _ h => h) (Or.inl ⟨by rfl, ?_⟩) hHeld ?_ ?_
        rotate_left
        · rintro w' ⟨s0, s1, s2, s3, s4, s5, s6, s7, s8⟩
          go_simp
          with_reducible rfl
        rotate_left
        · simp only [Act.put, List.setIfInBounds_toArray, List.set_cons_zero, List.set_cons_succ, i64_w, i32_w]
          rfl
        refine take_ (i := 5) (N := some 101) (v := ?_) (a' := ?_) #[true, true, true, true, true, true, false, false, false, false, false, false, false, false, false, false, false, false, false, false, false] rfl rfl (by kernel_rfl) (fun _ _ _ h => h) (Or.inl ⟨by rfl, ?_⟩) hHeld ?_ ?_
        rotate_left
        · rintro w' ⟨s0, s1, s2, s3, s4, s5, s6, s7, s8⟩
          go_simp
          with_reducible rfl
        rotate_left
        · simp only [Act.put, List.setIfInBounds_toArray, List.set_cons_zero, List.set_cons_succ, i64_w, i32_w]
          rfl
        refine one_ (i := 6) (N := some 102) #[true, true, true, true, true, true, true, false, false, false, false, false, false, false, false, false, false, false, false, false, false] rfl rfl (by kernel_rfl) (by decide) (fun K hK => ?_)
        refine goes_ Try.func11 (by kernel_rfl) rfl #[.agg #[.int .i64 k.d, .int .i64 k.l, .int .i64 k.k], .agg #[.int .i64 k.d, .int .i64 k.l, .int .i64 k.k]] (by rfl) rfl rfl (by simp only [List.map_toArray, List.map_cons, List.map_nil]; rfl) ?_
        with_reducible refine (same_k k k true (by simp) _).mono ?_
        rintro e W8 ⟨rfl, hb8⟩
        refine ⟨_, rfl, ?_⟩
        have re0 := keepc hb8 e0
        have re1 := keepc hb8 e1
        have re2 := keepc hb8 e2
        have rf0 := keepc hb8 f0
        have rf1 := keepc hb8 f1
        have rf2 := keepc hb8 f2
        have ra0 := keepc hb8 a0
        have ra1 := keepc hb8 a1
        have ra2 := keepc hb8 a2
        refine hK.out _ _ ⟨re0, re1, re2, rf0, rf1, rf2, ra0, ra1, ra2⟩ (fun hHeld => ?_)
        clear hK K
        refine norm_ (a' := ?_) ?_ ?_
        rotate_left
        · show Act.put _ (some 102) _ = _
          simp only [Act.put, List.setIfInBounds_toArray, List.set_cons_zero, List.set_cons_succ, i64_w, i32_w]
          rfl
        refine pure_ (i := 7) (N := some 103) (v := ?_) (a' := ?_) #[true, true, true, true, true, true, true, true, false, false, false, false, false, false, false, false, false, false, false, false, false] rfl rfl (by kernel_rfl) (fun _ _ _ h => h) (Or.inl ⟨by rfl, ?_⟩) ?_ ?_
        rotate_left
        · intro w'
          go_simp
          with_reducible rfl
        rotate_left
        · simp only [Act.put, List.setIfInBounds_toArray, List.set_cons_zero, List.set_cons_succ, i64_w, i32_w]
          rfl
        refine pure_ (i := 8) (N := some 104) (v := ?_) (a' := ?_) #[true, true, true, true, true, true, true, true, true, false, false, false, false, false, false, false, false, false, false, false, false] rfl rfl (by kernel_rfl) (fun _ _ _ h => h) (Or.inl ⟨by rfl, ?_⟩) ?_ ?_
        rotate_left
        · intro w'
          go_simp
          with_reducible rfl
        rotate_left
        · simp only [Act.put, List.setIfInBounds_toArray, List.set_cons_zero, List.set_cons_succ, i64_w, i32_w]
          rfl
        refine pure_ (i := 9) (N := some 105) (v := ?_) (a' := ?_) #[true, true, true, true, true, true, true, true, true, true, false, false, false, false, false, false, false, false, false, false, false] rfl rfl (by kernel_rfl) (fun _ _ _ h => h) (Or.inl ⟨by rfl, ?_⟩) ?_ ?_
        rotate_left
        · intro w'
          go_simp
          with_reducible rfl
        rotate_left
        · simp only [Act.put, List.setIfInBounds_toArray, List.set_cons_zero, List.set_cons_succ, i64_w, i32_w]
          rfl
        refine pure_ (i := 10) (N := some 106) (v := ?_) (a' := ?_) #[true, true, true, true, true, true, true, true, true, true, true, false, false, false, false, false, false, false, false, false, false] rfl rfl (by kernel_rfl) (fun _ _ _ h => h) (Or.inl ⟨by rfl, ?_⟩) ?_ ?_
        rotate_left
        · intro w'
          go_simp
          with_reducible rfl
        rotate_left
        · simp only [Act.put, List.setIfInBounds_toArray, List.set_cons_zero, List.set_cons_succ, i64_w, i32_w]
          rfl
        refine pure_ (i := 11) (N := some 107) (v := ?_) (a' := ?_) #[true, true, true, true, true, true, true, true, true, true, true, true, false, false, false, false, false, false, false, false, false] rfl rfl (by kernel_rfl) (fun _ _ _ h => h) (Or.inl ⟨by rfl, ?_⟩) ?_ ?_
        rotate_left
        · intro w'
          go_simp
          with_reducible rfl
        rotate_left
        · simp only [Act.put, List.setIfInBounds_toArray, List.set_cons_zero, List.set_cons_succ, i64_w, i32_w]
          rfl
        refine pure_ (i := 12) (N := some 108) (v := ?_) (a' := ?_) #[true, true, true, true, true, true, true, true, true, true, true, true, true, false, false, false, false, false, false, false, false] rfl rfl (by kernel_rfl) (fun _ _ _ h => h) (Or.inl ⟨by rfl, ?_⟩) ?_ ?_
        rotate_left
        · intro w'
          go_simp
          with_reducible rfl
        rotate_left
        · simp only [Act.put, List.setIfInBounds_toArray, List.set_cons_zero, List.set_cons_succ, i64_w, i32_w]
          rfl
        refine pure_ (i := 14) (N := some 110) (v := ?_) (a' := ?_) #[true, true, true, true, true, true, true, true, true, true, true, true, true, false, true, false, false, false, false, false, false] rfl rfl (by kernel_rfl) (fun _ _ _ h => h) (Or.inl ⟨by rfl, ?_⟩) ?_ ?_
        rotate_left
        · intro w'
          go_simp
          with_reducible rfl
        rotate_left
        · simp only [Act.put, List.setIfInBounds_toArray, List.set_cons_zero, List.set_cons_succ, i64_w, i32_w]
          rfl
        refine pure_ (i := 15) (N := some 111) (v := ?_) (a' := ?_) #[true, true, true, true, true, true, true, true, true, true, true, true, true, false, true, true, false, false, false, false, false] rfl rfl (by kernel_rfl) (fun _ _ _ h => h) (Or.inl ⟨by rfl, ?_⟩) ?_ ?_
        rotate_left
        · intro w'
          go_simp
          with_reducible rfl
        rotate_left
        · simp only [Act.put, List.setIfInBounds_toArray, List.set_cons_zero, List.set_cons_succ, i64_w, i32_w]
          rfl
        refine take_ (i := 13) (N := some 109) (v := ?_) (a' := ?_) #[true, true, true, true, true, true, true, true, true, true, true, true, true, true, true, true, false, false, false, false, false] rfl rfl (by kernel_rfl) (fun _ _ _ h => h) (Or.inl ⟨by rfl, ?_⟩) hHeld ?_ ?_
        rotate_left
        · rintro w' ⟨s0, s1, s2, s3, s4, s5, s6, s7, s8⟩
          go_simp
          with_reducible rfl
        rotate_left
        · simp only [Act.put, List.setIfInBounds_toArray, List.set_cons_zero, List.set_cons_succ, i64_w, i32_w]
          rfl
        refine take_ (i := 16) (N := some 112) (v := ?_) (a' := ?_) #[true, true, true, true, true, true, true, true, true, true, true, true, true, true, true, true, true, false, false, false, false] rfl rfl (by kernel_rfl) (fun _ _ _ h => h) (Or.inl ⟨by rfl, ?_⟩) hHeld ?_ ?_
        rotate_left
        · rintro w' ⟨s0, s1, s2, s3, s4, s5, s6, s7, s8⟩
          go_simp
          with_reducible rfl
        rotate_left
        · simp only [Act.put, List.setIfInBounds_toArray, List.set_cons_zero, List.set_cons_succ, i64_w, i32_w]
          rfl
        refine one_ (i := 17) (N := some 113) #[true, true, true, true, true, true, true, true, true, true, true, true, true, true, true, true, true, true, false, false, false] rfl rfl (by kernel_rfl) (by decide) (fun K hK => ?_)
        refine goes_ Try.func11 (by kernel_rfl) rfl #[.agg #[.int .i64 k.d, .int .i64 k.l, .int .i64 k.k], .agg #[.int .i64 k.d, .int .i64 k.l, .int .i64 k.k]] (by rfl) rfl rfl (by simp only [List.map_toArray, List.map_cons, List.map_nil]; rfl) ?_
        with_reducible refine (same_k k k true (by simp) _).mono ?_
        rintro e W9 ⟨rfl, hb9⟩
        refine ⟨_, rfl, ?_⟩
        have se0 := keepc hb9 re0
        have se1 := keepc hb9 re1
        have se2 := keepc hb9 re2
        have sf0 := keepc hb9 rf0
        have sf1 := keepc hb9 rf1
        have sf2 := keepc hb9 rf2
        have sa0 := keepc hb9 ra0
        have sa1 := keepc hb9 ra1
        have sa2 := keepc hb9 ra2
        refine hK.out _ _ ⟨se0, se1, se2, sf0, sf1, sf2, sa0, sa1, sa2⟩ (fun hHeld => ?_)
        clear hK K
        refine norm_ (a' := ?_) ?_ ?_
        rotate_left
        · show Act.put _ (some 113) _ = _
          simp only [Act.put, List.setIfInBounds_toArray, List.set_cons_zero, List.set_cons_succ, i64_w, i32_w]
          rfl
        refine pure_ (i := 18) (N := some 114) (v := ?_) (a' := ?_) #[true, true, true, true, true, true, true, true, true, true, true, true, true, true, true, true, true, true, true, false, false] rfl rfl (by kernel_rfl) (fun _ _ _ h => h) (Or.inl ⟨by rfl, ?_⟩) ?_ ?_
        rotate_left
        · intro w'
          go_simp
          with_reducible rfl
        rotate_left
        · simp only [Act.put, List.setIfInBounds_toArray, List.set_cons_zero, List.set_cons_succ, i64_w, i32_w]
          rfl
        refine pure_ (i := 19) (N := some 115) (v := ?_) (a' := ?_) #[true, true, true, true, true, true, true, true, true, true, true, true, true, true, true, true, true, true, true, true, false] rfl rfl (by kernel_rfl) (fun _ _ _ h => h) (Or.inl ⟨by rfl, ?_⟩) ?_ ?_
        rotate_left
        · intro w'
          go_simp
          with_reducible rfl
        rotate_left
        · simp only [Act.put, List.setIfInBounds_toArray, List.set_cons_zero, List.set_cons_succ, i64_w, i32_w]
          rfl
        refine pure_ (i := 20) (N := some 4) (v := ?_) (a' := ?_) #[true, true, true, true, true, true, true, true, true, true, true, true, true, true, true, true, true, true, true, true, true] rfl rfl (by kernel_rfl) (fun _ _ _ h => h) (Or.inl ⟨by rfl, ?_⟩) ?_ ?_
        rotate_left
        · intro w'
          go_simp
          with_reducible rfl
        rotate_left
        · simp only [Act.put, List.setIfInBounds_toArray, List.set_cons_zero, List.set_cons_succ, i64_w, i32_w]
          rfl
        refine done_ (by kernel_rfl) ?_
        go_wp2
        go_ret
        exact ⟨rfl, ((HT3.out.then_ HT8.out (fun _ h => h.elim)).then_ (tn_drew hb8) (fun _ h => h.elim)).then_ (Tn.of_below hb9 (fun _ => False)) (fun _ h => h.elim)⟩
end Go.Proofs.Ytkbbngkfncbgkaa.IQAlike
