/- arrearslaw11.TimerqMoveIsCancelPut by hand: the law returns true. Conditions: the keys can be read and their numbers are ints, the day is an int. -/
import Derived.Test.YtkbbngkfncbgkaaIQMoveC
import Derived.Test.YtkbbngkfncbgkaaIQAlike
import Derived.Test.YtkbbngkfncbgkaaIQSorts
import Derived.Test.YtkbbngkfncbgkaaWLast
import Derived.Test.YtkbbngkfncbgkaaWMore
namespace Go.Proofs.Ytkbbngkfncbgkaa.IQMoveL
open Go.RowKit Go.Maps Go.Proofs.Ytkbbngkfncbgkaa.IQHeap Go.Proofs.Ytkbbngkfncbgkaa.IQWords Go.Proofs.Ytkbbngkfncbgkaa.IQSwap Go.Proofs.Ytkbbngkfncbgkaa.IQOrd Go.Proofs.Ytkbbngkfncbgkaa.IQUp Go.Proofs.Ytkbbngkfncbgkaa.IQGet Go.Proofs.Ytkbbngkfncbgkaa.IQPush Go.Proofs.Ytkbbngkfncbgkaa.IQPut Go.Proofs.Ytkbbngkfncbgkaa.IQTake Go.Proofs.Ytkbbngkfncbgkaa.IQPop Go.Proofs.Ytkbbngkfncbgkaa.IQFill Go.Proofs.Ytkbbngkfncbgkaa.IQUnl Go.Proofs.Ytkbbngkfncbgkaa.IQSortsP Go.Proofs.Ytkbbngkfncbgkaa.IQCanc Go.Proofs.Ytkbbngkfncbgkaa.IQMove Go.Proofs.Ytkbbngkfncbgkaa.IQMoveC Go.Proofs.Ytkbbngkfncbgkaa.IQTwo Go.Proofs.Ytkbbngkfncbgkaa.IQAlike Go.Proofs.Ytkbbngkfncbgkaa.PA Go.Proofs.YtkbbngkfncbgkaaW.PrintWords Go.Proofs.YtkbbngkfncbgkaaW.PrintLast Go.Proofs.YtkbbngkfncbgkaaW.PrintMore
open Go.Proofs.Ytkbbngkfncbgkaa.IQSorts (lit_kr lit_ok len_is)
set_option linter.unusedVariables false
set_option linter.unusedSimpArgs false
set_option maxHeartbeats 8000000 in
set_option maxRecDepth 1000000 in
theorem movecp_walk (A : Option Addr) (cap : Nat) (xs : List S26) (pl day : Int) (w : World) (hr : Kd.C k26 w A xs.length xs) (hc : xs.length ≤ cap) (hok : ∀ k ∈ ks_ xs, KyOk k) (hd : (Lit.int .i64 day).wf = true) :
    Calls Try.prog 5 #[.slice A xs.length cap, .int .i64 pl, .int .i64 day] w fun e w' => e = .returned (.bool true) ∧ Below w.heap.size w w' := by
  have HOK := Hd.mk hok
  have HKR := Hd.mk (kr_of hr rfl)
  clear hr hok
  have HT0 := Hd.mk (Tn.alloc w (.cells #[.int .i64 2, .int .i64 3, .int .i64 4] 26) (fun _ => False))
  have HL0 := Hd.mk (lit_kr w)
  by_cases hlen : 300 < xs.length
  · have c1 : (xs.length : Int) > 300 := by omega
    clear hlen
    go_enter Try.func5, Try.ntmps5
    go_upto_region 3 with (first | (go_at_call 6; refine (filled_calls (some ⟨w.heap.size, 0, none⟩) 1 [⟨2, 3, 4⟩] _ HL0.out lit_ok (by simp)).mono ?_; rintro e W1 ⟨qb1, mb1, v1, L1, rfl, hQ1, _, hp1, hT1, _, _, _⟩; have HQ1 := Hd.mk hQ1; have HL1 := Hd.mk (hp1.length_eq.trans rfl : L1.length = 1); have HT1 := Hd.mk (HT0.out.then_ hT1 (fun _ h => .inl h)); clear hQ1 hp1 hT1))
    go_wp2_with (first | (go_at_call 7; refine (len_is 1 qb1 mb1 v1 L1 _ HQ1.out HL1.out).mono ?_; rintro e W2 ⟨rfl, rfl⟩))
    go_ret
    exact ⟨rfl, HT1.out.below (Nat.le_refl _) (fun _ h => h.elim)⟩
  have c1 : decide ((xs.length : Int) > 300) = false := decide_eq_false (by omega)
  by_cases hneg : pl < 0
  · go_enter Try.func5, Try.ntmps5
    go_upto_region 3 with (first | (go_at_call 6; refine (filled_calls (some ⟨w.heap.size, 0, none⟩) 1 [⟨2, 3, 4⟩] _ HL0.out lit_ok (by simp)).mono ?_; rintro e W1 ⟨qb1, mb1, v1, L1, rfl, hQ1, _, hp1, hT1, _, _, _⟩; have HQ1 := Hd.mk hQ1; have HL1 := Hd.mk (hp1.length_eq.trans rfl : L1.length = 1); have HT1 := Hd.mk (HT0.out.then_ hT1 (fun _ h => .inl h)); clear hQ1 hp1 hT1))
    go_wp2_with (first | (go_at_call 7; refine (len_is 1 qb1 mb1 v1 L1 _ HQ1.out HL1.out).mono ?_; rintro e W2 ⟨rfl, rfl⟩))
    go_ret
    exact ⟨rfl, HT1.out.below (Nat.le_refl _) (fun _ h => h.elim)⟩
  have c2 : decide (pl < 0) = false := decide_eq_false hneg
  by_cases hge : pl ≥ (xs.length : Int)
  · go_enter Try.func5, Try.ntmps5
    go_upto_region 3 with (first | (go_at_call 6; refine (filled_calls (some ⟨w.heap.size, 0, none⟩) 1 [⟨2, 3, 4⟩] _ HL0.out lit_ok (by simp)).mono ?_; rintro e W1 ⟨qb1, mb1, v1, L1, rfl, hQ1, _, hp1, hT1, _, _, _⟩; have HQ1 := Hd.mk hQ1; have HL1 := Hd.mk (hp1.length_eq.trans rfl : L1.length = 1); have HT1 := Hd.mk (HT0.out.then_ hT1 (fun _ h => .inl h)); clear hQ1 hp1 hT1))
    go_wp2_with (first | (go_at_call 7; refine (len_is 1 qb1 mb1 v1 L1 _ HQ1.out HL1.out).mono ?_; rintro e W2 ⟨rfl, rfl⟩))
    go_ret
    exact ⟨rfl, HT1.out.below (Nat.le_refl _) (fun _ h => h.elim)⟩
  have c3 : decide (pl ≥ (xs.length : Int)) = false := decide_eq_false hge
  clear HT0 HL0
  obtain ⟨n, rfl⟩ : ∃ n : Nat, pl = n := ⟨pl.toNat, by omega⟩
  have hn : n < xs.length := by omega
  have F2 : ∀ W, KR W A (ks_ xs) → Calls Try.prog 6 #[.slice A xs.length cap] W fun e w' => ∃ qb mb v L, e = .returned (.pointer (some ⟨qb, 0, none⟩)) ∧ QS w' qb v mb L ∧ HP ltI d0 L ∧ L.Perm (fst (ks_ xs) (ks_ xs).length) ∧ Tn W w' (fun _ => False) ∧ W.heap.size ≤ qb ∧ W.heap.size ≤ mb ∧ ∀ k, v.ownBlock = some k → W.heap.size ≤ k := fun W h => by
    have h2 := filled_calls A cap (ks_ xs) W h HOK.out (by rw [ks_length]; omega)
    rw [ks_length] at h2 ⊢
    exact h2
  have HF2 := Hd.mk F2
  clear F2 hneg hge
  go_enter Try.func5, Try.ntmps5
  go_upto_region 5 with (first | (go_at_call 6; with_reducible refine (HF2.out _ HKR.out).mono ?_; rintro e W1 ⟨qb, mb, v, L, rfl, hQ, hh, hp, hT, hq, hm, hv⟩; have HQ1 := Hd.mk hQ; have HH := Hd.mk hh; have HP1 := Hd.mk hp; have HT1 := Hd.mk hT; have HB1 : Hd (w.heap.size ≤ qb ∧ w.heap.size ≤ mb ∧ ∀ k, v.ownBlock = some k → w.heap.size ≤ k) := ⟨hq, hm, hv⟩; clear hQ hh hp hT hq hm hv))
  go_upto_region 8 with (first | (go_at_call 6; with_reducible refine (HF2.out _ (HKR.out.kept HT1.out (fun _ _ h => h))).mono ?_; rintro e W2 ⟨qc, mc, u, M, rfl, hQ, hh, hp, hT, hq, hm, hv⟩; have HR2 := Hd.mk hQ; have HG := Hd.mk hh; have HP2 : Hd (L.Perm M) := ⟨HP1.out.trans hp.symm⟩; have HQ2 := Hd.mk (HQ1.out.kept hT (fun h => h) (fun h => h) (fun _ _ h => h)); have HT2 := Hd.mk (HT1.out.then_ hT (fun _ h => h.elim)); have HAp : Hd (Ap qb mb v qc mc u) := ⟨ap_new HQ1.out hq hm hv⟩; have HB2 : Hd (w.heap.size ≤ qc ∧ w.heap.size ≤ mc ∧ ∀ k, u.ownBlock = some k → w.heap.size ≤ k) := ⟨Nat.le_trans HT1.out.size hq, Nat.le_trans HT1.out.size hm, fun k h => Nat.le_trans HT1.out.size (hv k h)⟩; clear hQ hh hp hT hq hm hv))
  clear HF2 HQ1 HT1
  obtain ⟨k, hk⟩ : ∃ k, ka (ks_ xs) n = k := ⟨_, rfl⟩
  have HK : Hd (KyOk k) := ⟨by rw [← hk]; exact HOK.out _ (ka_mem (by rw [ks_length]; exact hn))⟩
  have hat := (any_at HP1.out k).1 ((fst_any (ks_ xs) k (ks_ xs).length).2 ⟨n, by rw [ks_length]; exact hn, hk⟩)
  obtain ⟨i, hi, hie⟩ := hat
  have HLL : Hd (L.length ≤ 300) := ⟨by rw [HP1.out.length_eq]; have := fst_length (ks_ xs) (ks_ xs).length; rw [ks_length] at this ⊢; omega⟩
  have HML : Hd (M.length ≤ 300) := ⟨by rw [← HP2.out.length_eq]; exact HLL.out⟩
  obtain ⟨j, hj, hje⟩ := twin HP2.out hi
  have HIE := Hd.mk hie
  have HJE := Hd.mk hje
  have HKR2 := HKR.out.kept HT2.out (fun _ _ h => h)
  obtain ⟨ad, eA, m0, m1, m2⟩ := HKR2 n (by rw [ks_length]; exact hn)
  subst eA
  rw [hk] at m0 m1 m2
  clear HKR HKR2 HOK hk hie hje HP1
  have n0 : (0 : Int) ≤ (n : Int) := by omega
  have nm : (n : Int) < (xs.length : Int) := by omega
  go_upto_region 9 with (fail)
  have HT3 := Hd.mk (HT2.out.then_ (Tn.alloc W2 (.cells #[.int .i64 k.d, .int .i64 k.l, .int .i64 k.k] 26) (fun _ => False)) (fun _ h => h.elim))
  have HQ3 := Hd.mk (HQ2.out.alloc (.cells #[.int .i64 k.d, .int .i64 k.l, .int .i64 k.k] 26))
  have HR3 := Hd.mk (HR2.out.alloc (.cells #[.int .i64 k.d, .int .i64 k.l, .int .i64 k.k] 26))
  have HBK := Hd.mk (box_cells W2 k)
  have HNK : Hd (¬ Bl qb mb v W2.heap.size ∧ ¬ Bl qc mc u W2.heap.size) := ⟨bl_lt HQ2.out (Nat.le_refl _), bl_lt HR2.out (Nat.le_refl _)⟩
  obtain ⟨kb, hkb⟩ : ∃ kb, W2.heap.size = kb := ⟨_, rfl⟩
  rw [hkb] at HBK HNK ⊢
  generalize hW : W2.alloc (.cells #[.int .i64 k.d, .int .i64 k.l, .int .i64 k.k] 26) = W3 at HT3 HQ3 HR3 HBK ⊢
  clear hW HQ2 HR2 HT2 m0 m1 m2
  have b0 : W3.cell? ⟨kb, 0, none⟩ = some (.int .i64 k.d) := cell_of_row W3 kb 0 _ _ (0, 0) HBK.out
  have b1 : W3.cell? ⟨kb, 1, none⟩ = some (.int .i64 k.l) := cell_of_row W3 kb 1 _ _ (0, 0) HBK.out
  have b2 : W3.cell? ⟨kb, 2, none⟩ = some (.int .i64 k.k) := cell_of_row W3 kb 2 _ _ (0, 0) HBK.out
  go_upto_region 10 with (fail)
  obtain ⟨k2, hk2⟩ : ∃ k2 : Ky, (⟨day, k.l, k.k⟩ : Ky) = k2 := ⟨_, rfl⟩
  have HK2 : Hd (KyOk k2) := ⟨by rw [← hk2]; exact ⟨hd, HK.out.l, HK.out.k⟩⟩
  have HE2 : Hd ((⟨day, k.l, k.k⟩ : Ky) = k2) := ⟨hk2⟩
  have HT4 := Hd.mk (HT3.out.then_ (Tn.alloc W3 (.cells #[.int .i64 day, .int .i64 k.l, .int .i64 k.k] 26) (fun _ => False)) (fun _ h => h.elim))
  have HQ4 := Hd.mk (HQ3.out.alloc (.cells #[.int .i64 day, .int .i64 k.l, .int .i64 k.k] 26))
  have HR4 := Hd.mk (HR3.out.alloc (.cells #[.int .i64 day, .int .i64 k.l, .int .i64 k.k] 26))
  have HBK4 := Hd.mk ((Tn.alloc W3 (.cells #[.int .i64 day, .int .i64 k.l, .int .i64 k.k] 26) (fun _ => False)).blk HBK.out (fun h => h))
  have HBT := Hd.mk (box_cells W3 ⟨day, k.l, k.k⟩)
  have HNT : Hd (¬ Bl qb mb v W3.heap.size ∧ ¬ Bl qc mc u W3.heap.size) := ⟨bl_lt HQ3.out (Nat.le_refl _), bl_lt HR3.out (Nat.le_refl _)⟩
  obtain ⟨tb, htb⟩ : ∃ tb, W3.heap.size = tb := ⟨_, rfl⟩
  rw [htb] at HBT HNT ⊢
  generalize hW : W3.alloc (.cells #[.int .i64 day, .int .i64 k.l, .int .i64 k.k] 26) = W4 at HT4 HQ4 HR4 HBK4 HBT ⊢
  clear hW HQ3 HR3 HT3 HBK b0 b1 b2
  rw [hk2] at HBT
  clear hk2
  have HQl : L.length < 5000000000000 := by have := HLL.out; omega
  have HRl : M.length < 5000000000000 := by have := HML.out; omega
  have HQp : L.length + 1 < 3000000000000 := by have := HLL.out; omega
  have HRp : M.length + 1 < 3000000000000 := by have := HML.out; omega
  have b0 : W4.cell? ⟨kb, 0, none⟩ = some (.int .i64 k.d) := cell_of_row W4 kb 0 _ _ (0, 0) HBK4.out
  have b1 : W4.cell? ⟨kb, 1, none⟩ = some (.int .i64 k.l) := cell_of_row W4 kb 1 _ _ (0, 0) HBK4.out
  have b2 : W4.cell? ⟨kb, 2, none⟩ = some (.int .i64 k.k) := cell_of_row W4 kb 2 _ _ (0, 0) HBK4.out
  have t0 : W4.cell? ⟨tb, 0, none⟩ = some (.int .i64 k2.d) := cell_of_row W4 tb 0 _ _ (0, 0) HBT.out
  have t1 : W4.cell? ⟨tb, 1, none⟩ = some (.int .i64 k2.l) := cell_of_row W4 tb 1 _ _ (0, 0) HBT.out
  have t2 : W4.cell? ⟨tb, 2, none⟩ = some (.int .i64 k2.k) := cell_of_row W4 tb 2 _ _ (0, 0) HBT.out
  by_cases htk : ∃ j2, j2 < M.length ∧ (at_ d0 M j2).1 = k2
  · obtain ⟨j2, hj2, hje2⟩ := htk
    have HJ2 := Hd.mk hje2
    clear hje2
    obtain ⟨i2, hi2, hie2⟩ := twin HP2.out.symm hj2
    have HI2 : Hd ((at_ d0 L i2).1 = ⟨day, k.l, k.k⟩) := ⟨by rw [hie2, HJ2.out, HE2.out]⟩
    clear hie2
    go_upto_region 11 with (first | (go_at_call 12; refine (get_yes qc mc u M k2 _ HK2.out HR4.out HRl hj2 HJ2.out).mono ?_; rintro e W5 ⟨rfl, hT5⟩; have HQ5 := Hd.mk (HQ4.out.kept hT5 (fun h => h) (fun h => h) (fun _ _ h => h)); have HR5 := Hd.mk (HR4.out.kept hT5 (fun h => h) (fun h => h) (fun _ _ h => h)); have HT5 := Hd.mk (HT4.out.then_ hT5 (fun _ h => h.elim)); have HBK5 := Hd.mk (hT5.blk HBK4.out (fun h => h)); have HBT5 := Hd.mk (hT5.blk HBT.out (fun h => h)); clear hT5 b0 b1 b2 t0 t1 t2; have b0 : W5.cell? ⟨kb, 0, none⟩ = some (.int .i64 k.d) := cell_of_row W5 kb 0 _ _ (0, 0) HBK5.out; have b1 : W5.cell? ⟨kb, 1, none⟩ = some (.int .i64 k.l) := cell_of_row W5 kb 1 _ _ (0, 0) HBK5.out; have b2 : W5.cell? ⟨kb, 2, none⟩ = some (.int .i64 k.k) := cell_of_row W5 kb 2 _ _ (0, 0) HBK5.out; have t0 : W5.cell? ⟨tb, 0, none⟩ = some (.int .i64 k2.d) := cell_of_row W5 tb 0 _ _ (0, 0) HBT5.out; have t1 : W5.cell? ⟨tb, 1, none⟩ = some (.int .i64 k2.l) := cell_of_row W5 tb 1 _ _ (0, 0) HBT5.out; have t2 : W5.cell? ⟨tb, 2, none⟩ = some (.int .i64 k2.k) := cell_of_row W5 tb 2 _ _ (0, 0) HBT5.out))
    by_cases hday : day = k.d
    · have c6 : (day == k.d) = true := beq_iff_eq.2 hday
      have HDY := Hd.mk hday
      clear hday
      go_upto_region 12 with (first | (go_at_call 18; refine (move_same qb mb v L k _ HK.out HQ5.out day HDY.out HQp i hi HIE.out).mono ?_; rintro e W6 ⟨rfl, hT6⟩; have HQ6 := Hd.mk (HQ5.out.kept hT6 (fun h => h) (fun h => h) (fun _ _ h => h)); have HR6 := Hd.mk (HR5.out.kept hT6 (fun h => h) (fun h => h) (fun _ _ h => h)); have HT6 := Hd.mk (HT5.out.then_ hT6 (fun _ h => h.elim)); have HBK6 := Hd.mk (hT6.blk HBK5.out (fun h => h)); have HBT6 := Hd.mk (hT6.blk HBT5.out (fun h => h)); clear hT6 b0 b1 b2 t0 t1 t2; have b0 : W6.cell? ⟨kb, 0, none⟩ = some (.int .i64 k.d) := cell_of_row W6 kb 0 _ _ (0, 0) HBK6.out; have b1 : W6.cell? ⟨kb, 1, none⟩ = some (.int .i64 k.l) := cell_of_row W6 kb 1 _ _ (0, 0) HBK6.out; have b2 : W6.cell? ⟨kb, 2, none⟩ = some (.int .i64 k.k) := cell_of_row W6 kb 2 _ _ (0, 0) HBK6.out; have t0 : W6.cell? ⟨tb, 0, none⟩ = some (.int .i64 k2.d) := cell_of_row W6 tb 0 _ _ (0, 0) HBT6.out; have t1 : W6.cell? ⟨tb, 1, none⟩ = some (.int .i64 k2.l) := cell_of_row W6 tb 1 _ _ (0, 0) HBT6.out; have t2 : W6.cell? ⟨tb, 2, none⟩ = some (.int .i64 k2.k) := cell_of_row W6 tb 2 _ _ (0, 0) HBT6.out))
      go_wp2_with (first | (go_at_call 16; refine (alike_calls qb mb qc mc v u L M _ HQ6.out HR6.out HP2.out HH.out HG.out (by have := HLL.out; omega)).mono ?_; rintro e W7 ⟨rfl, hT7⟩; have HT7 := Hd.mk (HT6.out.then_ hT7 (fun _ h => h.elim)); clear hT7))
      go_ret
      exact ⟨rfl, HT7.out.below (Nat.le_refl _) (fun _ h => h.elim)⟩
    · have c6 : (day == k.d) = false := beq_eq_false_iff_ne.2 hday
      have HDY := Hd.mk hday
      clear hday
      go_upto_region 12 with (first | (go_at_call 18; refine (move_held qb mb v L k _ HK.out HQ5.out day hd HQp HDY.out i hi HIE.out i2 hi2 HI2.out).mono ?_; rintro e W6 ⟨rfl, hT6⟩; have HQ6 := Hd.mk (HQ5.out.kept hT6 (fun h => h) (fun h => h) (fun _ _ h => h)); have HR6 := Hd.mk (HR5.out.kept hT6 (fun h => h) (fun h => h) (fun _ _ h => h)); have HT6 := Hd.mk (HT5.out.then_ hT6 (fun _ h => h.elim)); have HBK6 := Hd.mk (hT6.blk HBK5.out (fun h => h)); have HBT6 := Hd.mk (hT6.blk HBT5.out (fun h => h)); clear hT6 b0 b1 b2 t0 t1 t2; have b0 : W6.cell? ⟨kb, 0, none⟩ = some (.int .i64 k.d) := cell_of_row W6 kb 0 _ _ (0, 0) HBK6.out; have b1 : W6.cell? ⟨kb, 1, none⟩ = some (.int .i64 k.l) := cell_of_row W6 kb 1 _ _ (0, 0) HBK6.out; have b2 : W6.cell? ⟨kb, 2, none⟩ = some (.int .i64 k.k) := cell_of_row W6 kb 2 _ _ (0, 0) HBK6.out; have t0 : W6.cell? ⟨tb, 0, none⟩ = some (.int .i64 k2.d) := cell_of_row W6 tb 0 _ _ (0, 0) HBT6.out; have t1 : W6.cell? ⟨tb, 1, none⟩ = some (.int .i64 k2.l) := cell_of_row W6 tb 1 _ _ (0, 0) HBT6.out; have t2 : W6.cell? ⟨tb, 2, none⟩ = some (.int .i64 k2.k) := cell_of_row W6 tb 2 _ _ (0, 0) HBT6.out))
      go_wp2_with (first | (go_at_call 16; refine (alike_calls qb mb qc mc v u L M _ HQ6.out HR6.out HP2.out HH.out HG.out (by have := HLL.out; omega)).mono ?_; rintro e W7 ⟨rfl, hT7⟩; have HT7 := Hd.mk (HT6.out.then_ hT7 (fun _ h => h.elim)); clear hT7))
      go_ret
      exact ⟨rfl, HT7.out.below (Nat.le_refl _) (fun _ h => h.elim)⟩
  · have hno : ∀ j2, j2 < M.length → (at_ d0 M j2).1 ≠ k2 := fun j2 h1 h2 => htk ⟨j2, h1, h2⟩
    have hnl : ∀ i2, i2 < L.length → (at_ d0 L i2).1 ≠ k2 := fun i2 h1 h2 => by
      obtain ⟨j2, h3, h4⟩ := twin HP2.out h1
      exact hno j2 h3 (by rw [h4]; exact h2)
    have HNM := Hd.mk hno
    have HNL := Hd.mk hnl
    obtain ⟨nv, hnv⟩ : ∃ nv, (at_ d0 M j).2 = nv := ⟨_, rfl⟩
    have HVM := Hd.mk hnv
    have HVL : Hd ((at_ d0 L i).2 = nv) := ⟨by rw [← HJE.out]; exact hnv⟩
    have HKJ : Hd ((at_ d0 M j).1 = k) := ⟨by rw [HJE.out]; exact HIE.out⟩
    obtain ⟨X, hX⟩ : ∃ X, pushF ltI d0 (takeF ltI d0 L i) (k2, nv) = X := ⟨_, rfl⟩
    obtain ⟨Y, hY⟩ : ∃ Y, takeF ltI d0 M j = Y := ⟨_, rfl⟩
    obtain ⟨Z, hZ⟩ : ∃ Z, pushF ltI d0 Y (k2, nv) = Z := ⟨_, rfl⟩
    have HXE := Hd.mk hX
    have HYE := Hd.mk hY
    have HZE := Hd.mk hZ
    have hne : k2 ≠ k := fun e => hnl i hi (by rw [HIE.out, e])
    have HNX : Hd (∀ q, q < X.length → (at_ d0 X q).1 ≠ k) := ⟨by
      rw [← hX]
      refine push_not hne ?_
      rw [← HIE.out]
      exact take_not hi (qs_nodup HQ4.out)⟩
    have HNY : Hd (∀ q, q < Y.length → (at_ d0 Y q).1 ≠ k2) := ⟨by rw [← hY]; exact take_sub hj hno⟩
    have HXZ : Hd (X.Perm Z) := ⟨by rw [← hX, ← hZ, ← hY]; exact push_same (take_perm HP2.out hi hj HJE.out) _⟩
    have HHX : Hd (HP ltI d0 X) := ⟨by rw [← hX]; exact pushF_HP wo (takeF_HP wo HH.out hi) _⟩
    have HHZ : Hd (HP ltI d0 Z) := ⟨by rw [← hZ, ← hY]; exact pushF_HP wo (takeF_HP wo HG.out hj) _⟩
    have HYl : Y.length + 1 < 3000000000000 := by rw [← hY]; have := take_lenI hj; omega
    have HXL : Hd (X.length ≤ 300) := ⟨by rw [← hX, (pushF_perm _ _).length_eq, List.length_cons, take_lenI hi]; exact HLL.out⟩
    have HXl : X.length < 5000000000000 := by have := HXL.out; omega
    clear hX hY hZ hno hnl hnv htk hne
    go_upto_region 11 with (first | (go_at_call 12; refine (get_no qc mc u M k2 _ HK2.out HR4.out HRl HNM.out).mono ?_; rintro e W5 ⟨rfl, hT5⟩; have HQ5 := Hd.mk (HQ4.out.kept hT5 (fun h => h) (fun h => h) (fun _ _ h => h)); have HR5 := Hd.mk (HR4.out.kept hT5 (fun h => h) (fun h => h) (fun _ _ h => h)); have HT5 := Hd.mk (HT4.out.then_ hT5 (fun _ h => h.elim)); have HBK5 := Hd.mk (hT5.blk HBK4.out (fun h => h)); have HBT5 := Hd.mk (hT5.blk HBT.out (fun h => h)); clear hT5 b0 b1 b2 t0 t1 t2; have b0 : W5.cell? ⟨kb, 0, none⟩ = some (.int .i64 k.d) := cell_of_row W5 kb 0 _ _ (0, 0) HBK5.out; have b1 : W5.cell? ⟨kb, 1, none⟩ = some (.int .i64 k.l) := cell_of_row W5 kb 1 _ _ (0, 0) HBK5.out; have b2 : W5.cell? ⟨kb, 2, none⟩ = some (.int .i64 k.k) := cell_of_row W5 kb 2 _ _ (0, 0) HBK5.out; have t0 : W5.cell? ⟨tb, 0, none⟩ = some (.int .i64 k2.d) := cell_of_row W5 tb 0 _ _ (0, 0) HBT5.out; have t1 : W5.cell? ⟨tb, 1, none⟩ = some (.int .i64 k2.l) := cell_of_row W5 tb 1 _ _ (0, 0) HBT5.out; have t2 : W5.cell? ⟨tb, 2, none⟩ = some (.int .i64 k2.k) := cell_of_row W5 tb 2 _ _ (0, 0) HBT5.out))
    go_upto_region 12 with (first | (go_at_call 18; refine (move_to qb mb v L k _ HK.out HQ5.out day k2 HE2.out nv hd HQp i hi HIE.out HVL.out HNL.out X HXE.out).mono ?_; rintro e W6 ⟨rfl, v1, hQ6, hT6, hv6⟩; have HQ6 := Hd.mk hQ6; have HA6 := Hd.mk (ap_grow HAp.out HR5.out hv6); have HR6 := Hd.mk (HAp.out.kept HR5.out hT6); have HT6 := Hd.mk (HT5.out.then_ hT6 (fun q h => .inr (p_lo HB1.out h))); have HV6 : Hd (∀ q, v1.ownBlock = some q → w.heap.size ≤ q) := ⟨fun q h => (hv6 q h).elim (HB1.out.2.2 q) (Nat.le_trans HT5.out.size)⟩; clear hQ6 hv6; have HBK6 := Hd.mk (hT6.blk HBK5.out HNK.out.1); have HBT6 := Hd.mk (hT6.blk HBT5.out HNT.out.1); clear hT6 b0 b1 b2 t0 t1 t2; have b0 : W6.cell? ⟨kb, 0, none⟩ = some (.int .i64 k.d) := cell_of_row W6 kb 0 _ _ (0, 0) HBK6.out; have b1 : W6.cell? ⟨kb, 1, none⟩ = some (.int .i64 k.l) := cell_of_row W6 kb 1 _ _ (0, 0) HBK6.out; have b2 : W6.cell? ⟨kb, 2, none⟩ = some (.int .i64 k.k) := cell_of_row W6 kb 2 _ _ (0, 0) HBK6.out; have t0 : W6.cell? ⟨tb, 0, none⟩ = some (.int .i64 k2.d) := cell_of_row W6 tb 0 _ _ (0, 0) HBT6.out; have t1 : W6.cell? ⟨tb, 1, none⟩ = some (.int .i64 k2.l) := cell_of_row W6 tb 1 _ _ (0, 0) HBT6.out; have t2 : W6.cell? ⟨tb, 2, none⟩ = some (.int .i64 k2.k) := cell_of_row W6 tb 2 _ _ (0, 0) HBT6.out))
    go_upto_region 17 with (fail)
    go_upto_region 18 with (first | (go_at_call 12; go_loud (refine (get_val qc mc u M k _ HK.out HR6.out HRl hj HKJ.out nv HVM.out).mono ?_; rintro e W7 ⟨rfl, hT7⟩; have HQ7 := Hd.mk (HQ6.out.kept hT7 (fun h => h) (fun h => h) (fun _ _ h => h)); have HR7 := Hd.mk (HR6.out.kept hT7 (fun h => h) (fun h => h) (fun _ _ h => h)); have HT7 := Hd.mk (HT6.out.then_ hT7 (fun _ h => h.elim)); have HBK7 := Hd.mk (hT7.blk HBK6.out (fun h => h)); have HBT7 := Hd.mk (hT7.blk HBT6.out (fun h => h)); clear hT7 b0 b1 b2 t0 t1 t2; have b0 : W7.cell? ⟨kb, 0, none⟩ = some (.int .i64 k.d) := cell_of_row W7 kb 0 _ _ (0, 0) HBK7.out; have b1 : W7.cell? ⟨kb, 1, none⟩ = some (.int .i64 k.l) := cell_of_row W7 kb 1 _ _ (0, 0) HBK7.out; have b2 : W7.cell? ⟨kb, 2, none⟩ = some (.int .i64 k.k) := cell_of_row W7 kb 2 _ _ (0, 0) HBK7.out; have t0 : W7.cell? ⟨tb, 0, none⟩ = some (.int .i64 k2.d) := cell_of_row W7 tb 0 _ _ (0, 0) HBT7.out; have t1 : W7.cell? ⟨tb, 1, none⟩ = some (.int .i64 k2.l) := cell_of_row W7 tb 1 _ _ (0, 0) HBT7.out; have t2 : W7.cell? ⟨tb, 2, none⟩ = some (.int .i64 k2.k) := cell_of_row W7 tb 2 _ _ (0, 0) HBT7.out)))
    go_upto_region 19 with (first | (go_at_call 15; go_loud (refine (canc_to qc mc u M k _ HK.out HR7.out (by omega) j hj HKJ.out Y HYE.out).mono ?_; rintro e W8 ⟨rfl, u1, hR8, hT8, hu8⟩; have HR8 := Hd.mk hR8; have HA8 := Hd.mk (HA6.out.right hu8); have HQ8 := Hd.mk (HA6.out.symm.kept HQ7.out hT8); have HT8 := Hd.mk (HT7.out.then_ hT8 (fun q h => .inr (p_lo HB2.out h))); have HU8 := Hd.mk hu8; clear hR8 hu8; have HBK8 := Hd.mk (hT8.blk HBK7.out HNK.out.2); have HBT8 := Hd.mk (hT8.blk HBT7.out HNT.out.2)); clear hT8 b0 b1 b2 t0 t1 t2; have b0 : W8.cell? ⟨kb, 0, none⟩ = some (.int .i64 k.d) := cell_of_row W8 kb 0 _ _ (0, 0) HBK8.out; have b1 : W8.cell? ⟨kb, 1, none⟩ = some (.int .i64 k.l) := cell_of_row W8 kb 1 _ _ (0, 0) HBK8.out; have b2 : W8.cell? ⟨kb, 2, none⟩ = some (.int .i64 k.k) := cell_of_row W8 kb 2 _ _ (0, 0) HBK8.out; have t0 : W8.cell? ⟨tb, 0, none⟩ = some (.int .i64 k2.d) := cell_of_row W8 tb 0 _ _ (0, 0) HBT8.out; have t1 : W8.cell? ⟨tb, 1, none⟩ = some (.int .i64 k2.l) := cell_of_row W8 tb 1 _ _ (0, 0) HBT8.out; have t2 : W8.cell? ⟨tb, 2, none⟩ = some (.int .i64 k2.k) := cell_of_row W8 tb 2 _ _ (0, 0) HBT8.out))
    go_upto_region 20 with (first | (go_at_call 14; refine (put_to qc mc u1 Y k2 _ HK2.out HR8.out nv HYl HNY.out Z HZE.out).mono ?_; rintro e W9 ⟨rfl, u2, hR9, hT9, hu9⟩; have HR9 := Hd.mk hR9; have HA9 := Hd.mk (ap_grow HA8.out.symm HQ8.out hu9).symm; have HQ9 := Hd.mk (HA8.out.symm.kept HQ8.out hT9); have HT9 := Hd.mk (HT8.out.then_ hT9 (fun q h => .inr (p_lo HB2.out (bl_own HU8.out h)))); have HU9 : Hd (∀ q, u2.ownBlock = some q → w.heap.size ≤ q) := ⟨fun q h => (hu9 q h).elim (fun h => HB2.out.2.2 q (by rw [← HU8.out]; exact h)) (Nat.le_trans HT8.out.size)⟩; clear hR9 hu9; have HBK9 := Hd.mk (hT9.blk HBK8.out (bl_not HU8.out HNK.out.2)); have HBT9 := Hd.mk (hT9.blk HBT8.out (bl_not HU8.out HNT.out.2)); clear hT9 b0 b1 b2 t0 t1 t2; have b0 : W9.cell? ⟨kb, 0, none⟩ = some (.int .i64 k.d) := cell_of_row W9 kb 0 _ _ (0, 0) HBK9.out; have b1 : W9.cell? ⟨kb, 1, none⟩ = some (.int .i64 k.l) := cell_of_row W9 kb 1 _ _ (0, 0) HBK9.out; have b2 : W9.cell? ⟨kb, 2, none⟩ = some (.int .i64 k.k) := cell_of_row W9 kb 2 _ _ (0, 0) HBK9.out; have t0 : W9.cell? ⟨tb, 0, none⟩ = some (.int .i64 k2.d) := cell_of_row W9 tb 0 _ _ (0, 0) HBT9.out; have t1 : W9.cell? ⟨tb, 1, none⟩ = some (.int .i64 k2.l) := cell_of_row W9 tb 1 _ _ (0, 0) HBT9.out; have t2 : W9.cell? ⟨tb, 2, none⟩ = some (.int .i64 k2.k) := cell_of_row W9 tb 2 _ _ (0, 0) HBT9.out))
    go_upto_region 21 with (first | (go_at_call 12; go_loud (refine (get_no qb mb v1 X k _ HK.out HQ9.out HXl HNX.out).mono ?_; rintro e W10 ⟨rfl, hT10⟩; have HQ10 := Hd.mk (HQ9.out.kept hT10 (fun h => h) (fun h => h) (fun _ _ h => h)); have HR10 := Hd.mk (HR9.out.kept hT10 (fun h => h) (fun h => h) (fun _ _ h => h)); have HT10 := Hd.mk (HT9.out.then_ hT10 (fun _ h => h.elim)); have HBK10 := Hd.mk (hT10.blk HBK9.out (fun h => h)); have HBT10 := Hd.mk (hT10.blk HBT9.out (fun h => h)); clear hT10 b0 b1 b2 t0 t1 t2; have b0 : W10.cell? ⟨kb, 0, none⟩ = some (.int .i64 k.d) := cell_of_row W10 kb 0 _ _ (0, 0) HBK10.out; have b1 : W10.cell? ⟨kb, 1, none⟩ = some (.int .i64 k.l) := cell_of_row W10 kb 1 _ _ (0, 0) HBK10.out; have b2 : W10.cell? ⟨kb, 2, none⟩ = some (.int .i64 k.k) := cell_of_row W10 kb 2 _ _ (0, 0) HBK10.out; have t0 : W10.cell? ⟨tb, 0, none⟩ = some (.int .i64 k2.d) := cell_of_row W10 tb 0 _ _ (0, 0) HBT10.out; have t1 : W10.cell? ⟨tb, 1, none⟩ = some (.int .i64 k2.l) := cell_of_row W10 tb 1 _ _ (0, 0) HBT10.out; have t2 : W10.cell? ⟨tb, 2, none⟩ = some (.int .i64 k2.k) := cell_of_row W10 tb 2 _ _ (0, 0) HBT10.out)))
    clear b0 b1 b2 t0 t1 t2
    go_wp2_with (first | (go_at_call 16; refine (alike_calls qb mb qc mc v1 u2 X Z _ HQ10.out HR10.out HXZ.out HHX.out HHZ.out (by have := HXL.out; omega)).mono ?_; rintro e W11 ⟨rfl, hT11⟩; have HQ11 := Hd.mk (HQ10.out.kept hT11 (fun h => h) (fun h => h) (fun _ _ h => h)); have HR11 := Hd.mk (HR10.out.kept hT11 (fun h => h) (fun h => h) (fun _ _ h => h)); have HT11 := Hd.mk (HT10.out.then_ hT11 (fun _ h => h.elim)); clear hT11) | (go_at_call 17; refine (emptied_calls qb mb qc mc v1 u2 X Z _ HQ11.out HR11.out HA9.out HXZ.out HHX.out HHZ.out HXL.out).mono ?_; rintro e W12 ⟨rfl, hT12⟩; have HT12 := Hd.mk (HT11.out.then_ hT12 (fun q h => .inr (h.elim (p_lo ⟨HB1.out.1, HB1.out.2.1, HV6.out⟩) (p_lo ⟨HB2.out.1, HB2.out.2.1, HU9.out⟩)))); clear hT12))
    go_ret
    exact ⟨rfl, HT12.out.below (Nat.le_refl _) (fun _ h => h.elim)⟩
end Go.Proofs.Ytkbbngkfncbgkaa.IQMoveL
