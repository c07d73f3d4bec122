/- arrearslaw11.TimerqOrderless by hand: the law returns true. Conditions: the keys of both lists can be read and their numbers are ints. -/
import Derived.Test.YtkbbngkfncbgkaaIQBase
import Derived.Test.YtkbbngkfncbgkaaIQAlike
import Derived.Test.YtkbbngkfncbgkaaIQSorts
import Derived.Test.YtkbbngkfncbgkaaWLast
import Derived.Test.YtkbbngkfncbgkaaWMore
namespace Go.Proofs.Ytkbbngkfncbgkaa.IQOrdL
open Go.RowKit Go.Maps Go.Proofs.Ytkbbngkfncbgkaa.IQHeap Go.Proofs.Ytkbbngkfncbgkaa.IQWords Go.Proofs.Ytkbbngkfncbgkaa.IQSwap Go.Proofs.Ytkbbngkfncbgkaa.IQOrd Go.Proofs.Ytkbbngkfncbgkaa.IQUp Go.Proofs.Ytkbbngkfncbgkaa.IQGet Go.Proofs.Ytkbbngkfncbgkaa.IQPush Go.Proofs.Ytkbbngkfncbgkaa.IQPut Go.Proofs.Ytkbbngkfncbgkaa.IQTake Go.Proofs.Ytkbbngkfncbgkaa.IQPop Go.Proofs.Ytkbbngkfncbgkaa.IQFill Go.Proofs.Ytkbbngkfncbgkaa.IQUnl Go.Proofs.Ytkbbngkfncbgkaa.IQSortsP Go.Proofs.Ytkbbngkfncbgkaa.IQCanc Go.Proofs.Ytkbbngkfncbgkaa.IQMove Go.Proofs.Ytkbbngkfncbgkaa.IQMoveC Go.Proofs.Ytkbbngkfncbgkaa.IQTwo Go.Proofs.Ytkbbngkfncbgkaa.IQAlike Go.Proofs.Ytkbbngkfncbgkaa.IQBase Go.Proofs.Ytkbbngkfncbgkaa.PA Go.Proofs.YtkbbngkfncbgkaaW.PrintWords Go.Proofs.YtkbbngkfncbgkaaW.PrintLast Go.Proofs.YtkbbngkfncbgkaaW.PrintMore
open Go.Proofs.Ytkbbngkfncbgkaa.IQSorts (len_is)
set_option linter.unusedVariables false
set_option linter.unusedSimpArgs false
set_option maxHeartbeats 8000000 in
set_option maxRecDepth 1000000 in
theorem orderless_walk (A B0 : Option Addr) (cap capb : Nat) (xs ys : List S26) (w : World) (hr : Kd.C k26 w A xs.length xs) (hr2 : Kd.C k26 w B0 ys.length ys) (hc : xs.length ≤ cap) (hc2 : ys.length ≤ capb) (hok : ∀ k ∈ ks_ xs, KyOk k) (hok2 : ∀ k ∈ ks_ ys, KyOk k) :
    Calls Try.prog 4 #[.slice A xs.length cap, .slice B0 ys.length capb] w fun e w' => e = .returned (.bool true) ∧ Below w.heap.size w w' := by
  have HOK := Hd.mk hok
  have HOK2 := Hd.mk hok2
  have HR := Hd.mk hr
  have HKY := Hd.mk (kr_of hr2 rfl)
  clear hr hr2 hok hok2
  by_cases hlen : 300 < xs.length
  · have c1 : (xs.length : Int) > 300 := by omega
    go_enter Try.func4, Try.ntmps4
    go_wp2
    go_ret
    exact ⟨rfl, Below.refl _ _⟩
  have c1 : decide ((xs.length : Int) > 300) = false := decide_eq_false (by omega)
  by_cases hlen2 : 300 < ys.length
  · have c2 : (ys.length : Int) > 300 := by omega
    go_enter Try.func4, Try.ntmps4
    go_wp2
    go_ret
    exact ⟨rfl, Below.refl _ _⟩
  have c2 : decide ((ys.length : Int) > 300) = false := decide_eq_false (by omega)
  obtain ⟨ku, hku⟩ := unlike_f xs (by omega)
  have HKU := Hd.mk hku
  clear hku
  go_enter Try.func4, Try.ntmps4
  go_upto_region 4 with (first | (go_at_call 8; refine (arrearslaw11_unlike.calls ku A cap xs _ _ HR.out hc HKU.out).mono ?_; rintro e W1 ⟨va, rfl, hR1, hB1⟩; have HR1 := Hd.mk hR1; have HB1 := Hd.mk hB1; clear hR1 hB1))
  obtain ⟨xa, hxa⟩ : ∃ xa, unlS xs xs.length = xa := ⟨_, rfl⟩
  rw [hxa] at HR1 HKU
  obtain ⟨A2, c2, rfl⟩ := Kd.R_slice HR1.out
  have hrd := Kd.R_reads' HR1.out
  have HA1 := Hd.mk (kr_of hrd.2.2 rfl)
  have HUN : Hd (ks_ xa = unl (ks_ xs) (ks_ xs).length) := ⟨by rw [← hxa, unlS_is xs _ (Nat.le_refl _), ks_length]⟩
  have HXA : Hd (xa.length ≤ 300) := ⟨by have := unlS_length xs xs.length; rw [hxa] at this; omega⟩
  have HND : Hd ((ks_ xa).Nodup) := ⟨by rw [HUN.out]; exact unl_nodup _ _⟩
  have HOA : Hd (∀ k ∈ ks_ xa, KyOk k) := ⟨by rw [HUN.out]; exact unl_ok HOK.out _ (Nat.le_refl _)⟩
  have HT1 := Hd.mk (Tn.of_below HB1.out (fun _ => False))
  have hxn := ks_length xa
  have hyn := ks_length ys
  have HXN := Hd.mk hxn
  have HYN := Hd.mk hyn
  have F2 : ∀ W, KR W A2 (ks_ xa) → Calls Try.prog 6 #[.slice A2 xa.length c2] W fun e w' => ∃ qb mb v L, e = .returned (.pointer (some ⟨qb, 0, none⟩)) ∧ QS w' qb v mb L ∧ HP ltI d0 L ∧ L.Perm (fst (ks_ xa) (ks_ xa).length) ∧ Tn W w' (fun _ => False) ∧ W.heap.size ≤ qb ∧ W.heap.size ≤ mb ∧ ∀ k, v.ownBlock = some k → W.heap.size ≤ k := fun W h => by
    have h2 := filled_calls A2 c2 (ks_ xa) W h HOA.out (by have := HXA.out; omega)
    rw [hxn] at h2 ⊢
    exact h2
  have HF2 := Hd.mk F2
  clear hrd HR1 HKU hxa HB1 HUN F2 hxn hyn HOK HR
  go_upto_region 5 with (first | (go_at_call 6; refine (HF2.out _ HA1.out).mono ?_; rintro e W2 ⟨pb, pm, pv, P, rfl, hQ2, hh2, hp2, hT2, hq2, hm2, hv2⟩; have HQ2 := Hd.mk hQ2; have HH2 := Hd.mk hh2; have HP2 := Hd.mk hp2; have HA2 := Hd.mk (HA1.out.kept hT2 (fun _ _ h => h)); have HT2 := Hd.mk (HT1.out.then_ hT2 (fun _ h => h.elim)); have HPB : Hd (w.heap.size ≤ pb ∧ w.heap.size ≤ pm ∧ ∀ k, pv.ownBlock = some k → w.heap.size ≤ k) := ⟨Nat.le_trans HT1.out.size hq2, Nat.le_trans HT1.out.size hm2, fun k hk => Nat.le_trans HT1.out.size (hv2 k hk)⟩; clear hQ2 hh2 hp2 hT2 hq2 hm2 hv2))
  clear HF2 HA1 HT1
  have HPL : Hd (P.length = xa.length) := ⟨by rw [HP2.out.length_eq, fst_len HND.out _ (Nat.le_refl _), HXN.out]⟩
  have HYW := Hd.mk (HKY.out.kept HT2.out (fun _ _ h => h))
  go_upto_region 6 with (first | (go_at_call 13; refine (new_calls _).mono ?_; rintro e W3 ⟨qb, mb, rfl, hb1, hb2, hQ3, hT3⟩; have HQ3 := Hd.mk hQ3; have HT3 := Hd.mk hT3; clear hQ3 hT3))
  obtain ⟨B, hB⟩ : ∃ B, W2.heap.size = B := ⟨_, rfl⟩
  have HQB : Hd (QB B W3 qb (.slice none 0 0) mb []) := ⟨⟨HQ3.out, fun j _ h => absurd h (Nat.not_lt_zero _), by rw [← hB]; exact hb1, by rw [← hB]; exact hb2, (fun k h => by cases h), by rw [← hB]; exact HT3.out.size⟩⟩
  have HBW : Hd (w.heap.size ≤ B) := ⟨by rw [← hB]; exact HT2.out.size⟩
  have HBB : Hd (Below B W2 W3) := ⟨by rw [← hB]; exact HT3.out.below (Nat.le_refl _) (fun _ h => h.elim)⟩
  have HBE := Hd.mk hB
  have HQP : Hd (QS W3 pb pv pm P) := ⟨HQ2.out.kept HT3.out (fun h => h) (fun h => h) (fun _ _ h => h)⟩
  clear hB hb1 hb2 HQ3 HT3
  have hx3 := HXA.out
  go_upto_region 8 with (first | (go_at_call 7; refine (len_is xa.length pb pm pv P _ HQP.out HPL.out).mono ?_; rintro e W4 ⟨rfl, rfl⟩))
  have hne2 : ((xa.length : Int) != (xa.length : Int)) = false := by simp
  clear hne2 HQP
  go_wp2
  go_loopg [8] (xa.length + 1) (fun g s8 wr => ∃ (s : Int) (m : Nat) (v : Value) (L : List It), s8 = .int .i64 s ∧ Hd (s = (m : Int) - 1) ∧ m ≤ xa.length ∧ m + 1 ≤ g ∧ Hd (QB B wr qb v mb L) ∧ Hd (Below B W2 wr) ∧ Hd (IA (ks_ xa) (ks_ ys) m L))
  case atStart => exact ⟨(xa.length : Int) - 1, xa.length, .slice none 0 0, [], rfl, ⟨rfl⟩, Nat.le_refl _, by omega, HQB, HBB, ⟨by have := IA.start (ks_ xa) (ks_ ys); rw [HXN.out] at this; exact this⟩⟩
  case round =>
    clear HQB HBB
    obtain ⟨s, m, v, L, rfl, hs, hm, hg, HQB, HBB, HI⟩ := hrel
    rcases m with _ | i
    · have e : s = -1 := by have := hs.out; omega
      subst e
      have HI0 : Hd (IB (ks_ xa) (ks_ ys) 0 L) := ⟨HI.out.turn⟩
      clear hs HI hg hm
      go_wp2
      go_loopg [14] (xa.length + 1) (fun g s14 wr2 => ∃ (i : Nat) (v : Value) (L : List It), s14 = .int .i64 i ∧ i ≤ xa.length ∧ xa.length + 1 ≤ g + i ∧ Hd (QB B wr2 qb v mb L) ∧ Hd (Below B W2 wr2) ∧ Hd (IB (ks_ xa) (ks_ ys) i L))
      case atStart => exact ⟨0, v, L, rfl, Nat.zero_le _, by omega, HQB, HBB, HI0⟩
      case round =>
        clear HQB HBB HI0
        obtain ⟨i, v, L, rfl, hi, hg2, HQB, HBB, HI⟩ := hrel
        have hx3' := HXA.out
        by_cases hsl : i < ys.length
        · have c4 : (i : Int) < (ys.length : Int) := by omega
          by_cases hxl : i < xa.length
          · have c5 : (i : Int) < (xa.length : Int) := by omega
            have i0 : (0 : Int) ≤ (i : Int) := by omega
            have hky := HYW.out.kept (Tn.of_below (HBE.out.symm ▸ HBB.out) (fun _ => False)) (fun _ _ h => h)
            obtain ⟨ad2, eB, d0_, d1, d2⟩ := hky i (by rw [HYN.out]; exact hsl)
            have HBY : Hd (ad2.block < B) := ⟨by have := KR.block HYW.out eB (by rw [HYN.out]; omega); rw [HBE.out] at this; exact this⟩
            obtain ⟨kj, hkj⟩ : ∃ kj, ka (ks_ ys) i = kj := ⟨_, rfl⟩
            have HKJ : Hd (KyOk kj) := ⟨by rw [← hkj]; exact HOK2.out _ (ka_mem (by rw [HYN.out]; exact hsl))⟩
            have HKF := Hd.mk hkj
            rw [hkj] at d0_ d1 d2
            subst eB
            have HLL : Hd (L.length ≤ 100000) := ⟨by have := HI.out.len; rw [HXN.out] at this; have h2 : i * xa.length ≤ 300 * 300 := Nat.mul_le_mul (by omega) (by omega); omega⟩
            have hl5 : L.length < 5000000000000 := by have := HLL.out; omega
            clear hky hkj
            by_cases hth : ∃ p, p < L.length ∧ (at_ d0 L p).1 = kj
            · obtain ⟨p, hp, hpe⟩ := hth
              have HPE := Hd.mk hpe
              clear hpe
              go_wp2_with (first | (go_at_call 12; refine (get_yes qb mb v L kj _ HKJ.out HQB.out.q hl5 hp HPE.out).mono ?_; rintro e W5 ⟨rfl, hT5⟩; have HQ5 := Hd.mk (HQB.out.kept hT5); have HB5 := Hd.mk (HBB.out.trans (tn_bel hT5 HQB.out.bz)); clear hT5 d0_ d1 d2))
              go_roundg (xa.length - i)
              case measure => omega
              case rel => exact ⟨i + 1, v, L, by go_num, by omega, by omega, HQ5, HB5, ⟨HI.out.there HND.out hp (by rw [HKF.out]; exact HPE.out)⟩⟩
            · have HNO : Hd (∀ p, p < L.length → (at_ d0 L p).1 ≠ kj) := ⟨fun p hp e => hth ⟨p, hp, e⟩⟩
              have HIC : Hd (IC (ks_ xa) (ks_ ys) i 0 L) := ⟨HI.out.into⟩
              clear hth
              go_wp2_with (first | (go_at_call 12; refine (get_no qb mb v L kj _ HKJ.out HQB.out.q hl5 HNO.out).mono ?_; rintro e W5 ⟨rfl, hT5⟩; have HQ5 := Hd.mk (HQB.out.kept hT5); have HB5 := Hd.mk (HBB.out.trans (tn_bel hT5 HQB.out.bz)); clear hT5 d0_ d1 d2))
              have HNO2 : Hd ((∀ p, p < L.length → (at_ d0 L p).1 ≠ kj) ∨ ∃ q, q < 0 ∧ ka (ks_ xa) q = kj) := ⟨.inl HNO.out⟩
              clear HQB HBB HI HNO HLL hl5
              go_loopg [17] (xa.length + 1) (fun g s17 wr3 => ∃ (t : Nat) (v : Value) (L : List It), s17 = .int .i64 t ∧ t ≤ xa.length ∧ xa.length + 1 ≤ g + t ∧ Hd (QB B wr3 qb v mb L) ∧ Hd (Below B W2 wr3) ∧ Hd (IC (ks_ xa) (ks_ ys) i t L) ∧ Hd ((∀ p, p < L.length → (at_ d0 L p).1 ≠ kj) ∨ ∃ q, q < t ∧ ka (ks_ xa) q = kj))
              case atStart => exact ⟨0, v, L, rfl, Nat.zero_le _, by omega, HQ5, HB5, HIC, HNO2⟩
              case round =>
                clear HQ5 HB5 HIC HNO2
                obtain ⟨t, v, L, rfl, ht, hg3, HQB, HBB, HI, HNO⟩ := hrel
                by_cases htl : t < xa.length
                · have c6 : (t : Int) < (xa.length : Int) := by omega
                  have t0 : (0 : Int) ≤ (t : Int) := by omega
                  have hky := HYW.out.kept (Tn.of_below (HBE.out.symm ▸ HBB.out) (fun _ => False)) (fun _ _ h => h)
                  obtain ⟨ad3, eB, d0_, d1, d2⟩ := hky i (by rw [HYN.out]; exact hsl)
                  injection eB with eB
                  subst eB
                  have hka := HA2.out.kept (Tn.of_below (HBE.out.symm ▸ HBB.out) (fun _ => False)) (fun _ _ h => h)
                  obtain ⟨ad, eA, a0, a1, a2⟩ := hka t (by rw [HXN.out]; omega)
                  have HBA : Hd (ad.block < B) := ⟨by have := KR.block HA2.out eA (by rw [HXN.out]; omega); rw [HBE.out] at this; exact this⟩
                  obtain ⟨kt, hkt⟩ : ∃ kt, ka (ks_ xa) t = kt := ⟨_, rfl⟩
                  have HKT : Hd (KyOk kt) := ⟨by rw [← hkt]; exact HOA.out _ (ka_mem (by rw [HXN.out]; omega))⟩
                  have HKE := Hd.mk hkt
                  rw [hkt] at a0 a1 a2
                  rw [HKF.out] at d0_ d1 d2
                  subst eA
                  clear hka hky hkt
                  have HLL : Hd (L.length ≤ 100000) := ⟨by have := HI.out.len; rw [HXN.out] at this; have h2 : i * xa.length ≤ 300 * 300 := Nat.mul_le_mul (by omega) (by omega); omega⟩
                  have hl3 : L.length + 1 < 3000000000000 := by have := HLL.out; omega
                  by_cases hke : kt = kj
                  · have HSM : Hd (decide (kt = kj) = true) := ⟨decide_eq_true hke⟩
                    have HFR : Hd (∀ p, p < L.length → (at_ d0 L p).1 ≠ kt) := ⟨by
                      rcases HNO.out with h | ⟨q, hq, hqe⟩
                      · rw [hke]; exact h
                      · have := ka_nodup HND.out (i := q) (j := t) (by rw [HXN.out]; omega) (by rw [HXN.out]; omega) (by rw [hqe, HKE.out, hke])
                        omega⟩
                    have HJE := Hd.mk hke
                    clear hke
                    go_wp2
                    refine start_ (n := 9) (S := fun w' => w'.cell? (ad.add (t * 3)) = some (.int .i64 kt.d) ∧ w'.cell? ⟨(ad.add (t * 3)).block, (ad.add (t * 3)).off + 1, none⟩ = some (.int .i64 kt.l) ∧ w'.cell? ⟨(ad.add (t * 3)).block, (ad.add (t * 3)).off + 2, none⟩ = some (.int .i64 kt.k) ∧ w'.cell? (ad2.add (i * 3)) = some (.int .i64 kj.d) ∧ w'.cell? ⟨(ad2.add (i * 3)).block, (ad2.add (i * 3)).off + 1, none⟩ = some (.int .i64 kj.l) ∧ w'.cell? ⟨(ad2.add (i * 3)).block, (ad2.add (i * 3)).off + 2, none⟩ = some (.int .i64 kj.k)) (ds := []) #[false, false, false, false, false, false, false, false, false] (by kernel_rfl) rfl rfl ⟨a0, a1, a2, d0_, d1, d2⟩ (fun hHeld => ?_)
                    refine pure_ (i := 0) (N := some 138) (v := ?_) (a' := ?_) #[true, false, false, false, false, false, false, false, false] rfl rfl (by kernel_rfl) (fun _ _ _ h => h) (Or.inl ⟨by rfl, ?_⟩) ?_ ?_
                    rotate_left
                    · intro w'
                      go_simp
                      with_reducible rfl
                    rotate_left
                    · simp only [Act.put, List.setIfInBounds_toArray, List.set_cons_zero, List.set_cons_succ, i64_w, i32_w]
                      rfl
                    refine pure_ (i := 1) (N := some 139) (v := ?_) (a' := ?_) #[true, true, false, false, false, false, false, false, false] rfl rfl (by kernel_rfl) (fun _ _ _ h => h) (Or.inl ⟨by rfl, ?_⟩) ?_ ?_
                    rotate_left
                    · intro w'
                      go_simp
                      with_reducible rfl
                    rotate_left
                    · simp only [Act.put, List.setIfInBounds_toArray, List.set_cons_zero, List.set_cons_succ, i64_w, i32_w]
                      rfl
                    refine pure_ (i := 2) (N := some 140) (v := ?_) (a' := ?_) #[true, true, true, false, false, false, false, false, false] rfl rfl (by kernel_rfl) (fun _ _ _ h => h) (Or.inl ⟨by rfl, ?_⟩) ?_ ?_
                    rotate_left
                    · intro w'
                      go_simp
                      with_reducible rfl
                    rotate_left
                    · simp only [Act.put, List.setIfInBounds_toArray, List.set_cons_zero, List.set_cons_succ, i64_w, i32_w]
                      rfl
                    refine pure_ (i := 4) (N := some 142) (v := ?_) (a' := ?_) #[true, true, true, false, true, false, false, false, false] rfl rfl (by kernel_rfl) (fun _ _ _ h => h) (Or.inl ⟨by rfl, ?_⟩) ?_ ?_
                    rotate_left
                    · intro w'
                      go_simp
                      with_reducible rfl
                    rotate_left
                    · simp only [Act.put, List.setIfInBounds_toArray, List.set_cons_zero, List.set_cons_succ, i64_w, i32_w]
                      rfl
                    refine pure_ (i := 5) (N := some 143) (v := ?_) (a' := ?_) #[true, true, true, false, true, true, false, false, false] rfl rfl (by kernel_rfl) (fun _ _ _ h => h) (Or.inl ⟨by rfl, ?_⟩) ?_ ?_
                    rotate_left
                    · intro w'
                      go_simp
                      with_reducible rfl
                    rotate_left
                    · simp only [Act.put, List.setIfInBounds_toArray, List.set_cons_zero, List.set_cons_succ, i64_w, i32_w]
                      rfl
                    refine pure_ (i := 6) (N := some 144) (v := ?_) (a' := ?_) #[true, true, true, false, true, true, true, false, false] rfl rfl (by kernel_rfl) (fun _ _ _ h => h) (Or.inl ⟨by rfl, ?_⟩) ?_ ?_
                    rotate_left
                    · intro w'
                      go_simp
                      with_reducible rfl
                    rotate_left
                    · simp only [Act.put, List.setIfInBounds_toArray, List.set_cons_zero, List.set_cons_succ, i64_w, i32_w]
                      rfl
                    refine take_ (i := 3) (N := some 141) (v := ?_) (a' := ?_) #[true, true, true, true, true, true, true, false, false] rfl rfl (by kernel_rfl) (fun _ _ _ h => h) (Or.inl ⟨by rfl, ?_⟩) hHeld ?_ ?_
                    rotate_left
                    · rintro w' ⟨s0, s1, s2, s3, s4, s5⟩
                      go_simp
                      with_reducible rfl
                    rotate_left
                    · simp only [Act.put, List.setIfInBounds_toArray, List.set_cons_zero, List.set_cons_succ, i64_w, i32_w]
                      rfl
                    refine take_ (i := 7) (N := some 145) (v := ?_) (a' := ?_) #[true, true, true, true, true, true, true, true, false] rfl rfl (by kernel_rfl) (fun _ _ _ h => h) (Or.inl ⟨by rfl, ?_⟩) hHeld ?_ ?_
                    rotate_left
                    · rintro w' ⟨s0, s1, s2, s3, s4, s5⟩
                      go_simp
                      with_reducible rfl
                    rotate_left
                    · simp only [Act.put, List.setIfInBounds_toArray, List.set_cons_zero, List.set_cons_succ, i64_w, i32_w]
                      rfl
                    refine one_ (i := 8) (N := some 146) #[true, true, true, true, true, true, true, true, true] rfl rfl (by kernel_rfl) (by decide) (fun K hK => ?_)
                    refine goes_ Try.func11 (by kernel_rfl) rfl #[.agg #[.int .i64 kt.d, .int .i64 kt.l, .int .i64 kt.k], .agg #[.int .i64 kj.d, .int .i64 kj.l, .int .i64 kj.k]] (by rfl) rfl rfl (by simp only [List.map_toArray, List.map_cons, List.map_nil]; rfl) ?_
                    with_reducible refine (same_k kt kj true HSM.out _).mono ?_
                    rintro e W7 ⟨rfl, hb7⟩
                    refine ⟨_, rfl, ?_⟩
                    have ra0 := keepc hb7 a0
                    have ra1 := keepc hb7 a1
                    have ra2 := keepc hb7 a2
                    have rd0_ := keepc hb7 d0_
                    have rd1 := keepc hb7 d1
                    have rd2 := keepc hb7 d2
                    refine hK.out _ _ ⟨ra0, ra1, ra2, rd0_, rd1, rd2⟩ (fun hHeld => ?_)
                    clear hK K
                    refine norm_ (a' := ?_) ?_ ?_
                    rotate_left
                    · show Act.put _ (some 146) _ = _
                      simp only [Act.put, List.setIfInBounds_toArray, List.set_cons_zero, List.set_cons_succ, i64_w, i32_w]
                      rfl
                    refine done_ (by kernel_rfl) ?_

                    have HT6 := Hd.mk (tn_drew hb7)
                    have HQ6 := Hd.mk (HQB.out.kept HT6.out)
                    have HB6 := Hd.mk (HBB.out.trans (tn_bel HT6.out HQB.out.bz))
                    clear hb7 HT6
                    go_wp2_with (first | (go_at_call 14; refine (qb_put_no B qb mb v L kt _ HKT.out HQ6.out hl3 _ HFR.out).mono ?_; rintro e W8 ⟨rfl, v8, hQ8, hB8⟩; have HQ8 := Hd.mk hQ8; have HB8 := Hd.mk (HB6.out.trans hB8); clear hQ8 hB8))
                    go_roundg (xa.length - t)
                    case measure => omega
                    case rel => exact ⟨t + 1, v8, _, by go_num, by omega, by omega, HQ8, HB8, ⟨by rw [← HKE.out]; exact HI.out.lay (by rw [HXN.out]; omega)⟩, ⟨.inr ⟨t, by omega, by rw [HKE.out, HJE.out]⟩⟩⟩
                  · have HSM : Hd (decide (kt = kj) = false) := ⟨decide_eq_false hke⟩
                    have HJE := Hd.mk hke
                    clear hke
                    go_wp2
                    refine start_ (n := 9) (S := fun w' => w'.cell? (ad.add (t * 3)) = some (.int .i64 kt.d) ∧ w'.cell? ⟨(ad.add (t * 3)).block, (ad.add (t * 3)).off + 1, none⟩ = some (.int .i64 kt.l) ∧ w'.cell? ⟨(ad.add (t * 3)).block, (ad.add (t * 3)).off + 2, none⟩ = some (.int .i64 kt.k) ∧ w'.cell? (ad2.add (i * 3)) = some (.int .i64 kj.d) ∧ w'.cell? ⟨(ad2.add (i * 3)).block, (ad2.add (i * 3)).off + 1, none⟩ = some (.int .i64 kj.l) ∧ w'.cell? ⟨(ad2.add (i * 3)).block, (ad2.add (i * 3)).off + 2, none⟩ = some (.int .i64 kj.k)) (ds := []) #[false, false, false, false, false, false, false, false, false] (by kernel_rfl) rfl rfl ⟨a0, a1, a2, d0_, d1, d2⟩ (fun hHeld => ?_)
                    refine pure_ (i := 0) (N := some 138) (v := ?_) (a' := ?_) #[true, false, false, false, false, false, false, false, false] rfl rfl (by kernel_rfl) (fun _ _ _ h => h) (Or.inl ⟨by rfl, ?_⟩) ?_ ?_
                    rotate_left
                    · intro w'
                      go_simp
                      with_reducible rfl
                    rotate_left
                    · simp only [Act.put, List.setIfInBounds_toArray, List.set_cons_zero, List.set_cons_succ, i64_w, i32_w]
                      rfl
                    refine pure_ (i := 1) (N := some 139) (v := ?_) (a' := ?_) #[true, true, false, false, false, false, false, false, false] rfl rfl (by kernel_rfl) (fun _ _ _ h => h) (Or.inl ⟨by rfl, ?_⟩) ?_ ?_
                    rotate_left
                    · intro w'
                      go_simp
                      with_reducible rfl
                    rotate_left
                    · simp only [Act.put, List.setIfInBounds_toArray, List.set_cons_zero, List.set_cons_succ, i64_w, i32_w]
                      rfl
                    refine pure_ (i := 2) (N := some 140) (v := ?_) (a' := ?_) #[true, true, true, false, false, false, false, false, false] rfl rfl (by kernel_rfl) (fun _ _ _ h => h) (Or.inl ⟨by rfl, ?_⟩) ?_ ?_
                    rotate_left
                    · intro w'
                      go_simp
                      with_reducible rfl
                    rotate_left
                    · simp only [Act.put, List.setIfInBounds_toArray, List.set_cons_zero, List.set_cons_succ, i64_w, i32_w]
                      rfl
                    refine pure_ (i := 4) (N := some 142) (v := ?_) (a' := ?_) #[true, true, true, false, true, false, false, false, false] rfl rfl (by kernel_rfl) (fun _ _ _ h => h) (Or.inl ⟨by rfl, ?_⟩) ?_ ?_
                    rotate_left
                    · intro w'
                      go_simp
                      with_reducible rfl
                    rotate_left
                    · simp only [Act.put, List.setIfInBounds_toArray, List.set_cons_zero, List.set_cons_succ, i64_w, i32_w]
                      rfl
                    refine pure_ (i := 5) (N := some 143) (v := ?_) (a' := ?_) #[true, true, true, false, true, true, false, false, false] rfl rfl (by kernel_rfl) (fun _ _ _ h => h) (Or.inl ⟨by rfl, ?_⟩) ?_ ?_
                    rotate_left
                    · intro w'
                      go_simp
                      with_reducible rfl
                    rotate_left
                    · simp only [Act.put, List.setIfInBounds_toArray, List.set_cons_zero, List.set_cons_succ, i64_w, i32_w]
                      rfl
                    refine pure_ (i := 6) (N := some 144) (v := ?_) (a' := ?_) #[true, true, true, false, true, true, true, false, false] rfl rfl (by kernel_rfl) (fun _ _ _ h => h) (Or.inl ⟨by rfl, ?_⟩) ?_ ?_
                    rotate_left
                    · intro w'
                      go_simp
                      with_reducible rfl
                    rotate_left
                    · simp only [Act.put, List.setIfInBounds_toArray, List.set_cons_zero, List.set_cons_succ, i64_w, i32_w]
                      rfl
                    refine take_ (i := 3) (N := some 141) (v := ?_) (a' := ?_) #[true, true, true, true, true, true, true, false, false] rfl rfl (by kernel_rfl) (fun _ _ _ h => h) (Or.inl ⟨by rfl, ?_⟩) hHeld ?_ ?_
                    rotate_left
                    · rintro w' ⟨s0, s1, s2, s3, s4, s5⟩
                      go_simp
                      with_reducible rfl
                    rotate_left
                    · simp only [Act.put, List.setIfInBounds_toArray, List.set_cons_zero, List.set_cons_succ, i64_w, i32_w]
                      rfl
                    refine take_ (i := 7) (N := some 145) (v := ?_) (a' := ?_) #[true, true, true, true, true, true, true, true, false] rfl rfl (by kernel_rfl) (fun _ _ _ h => h) (Or.inl ⟨by rfl, ?_⟩) hHeld ?_ ?_
                    rotate_left
                    · rintro w' ⟨s0, s1, s2, s3, s4, s5⟩
                      go_simp
                      with_reducible rfl
                    rotate_left
                    · simp only [Act.put, List.setIfInBounds_toArray, List.set_cons_zero, List.set_cons_succ, i64_w, i32_w]
                      rfl
                    refine one_ (i := 8) (N := some 146) #[true, true, true, true, true, true, true, true, true] rfl rfl (by kernel_rfl) (by decide) (fun K hK => ?_)
                    refine goes_ Try.func11 (by kernel_rfl) rfl #[.agg #[.int .i64 kt.d, .int .i64 kt.l, .int .i64 kt.k], .agg #[.int .i64 kj.d, .int .i64 kj.l, .int .i64 kj.k]] (by rfl) rfl rfl (by simp only [List.map_toArray, List.map_cons, List.map_nil]; rfl) ?_
                    with_reducible refine (same_k kt kj false HSM.out _).mono ?_
                    rintro e W7 ⟨rfl, hb7⟩
                    refine ⟨_, rfl, ?_⟩
                    have ra0 := keepc hb7 a0
                    have ra1 := keepc hb7 a1
                    have ra2 := keepc hb7 a2
                    have rd0_ := keepc hb7 d0_
                    have rd1 := keepc hb7 d1
                    have rd2 := keepc hb7 d2
                    refine hK.out _ _ ⟨ra0, ra1, ra2, rd0_, rd1, rd2⟩ (fun hHeld => ?_)
                    clear hK K
                    refine norm_ (a' := ?_) ?_ ?_
                    rotate_left
                    · show Act.put _ (some 146) _ = _
                      simp only [Act.put, List.setIfInBounds_toArray, List.set_cons_zero, List.set_cons_succ, i64_w, i32_w]
                      rfl
                    refine done_ (by kernel_rfl) ?_

                    have HT6 := Hd.mk (tn_drew hb7)
                    have HQ6 := Hd.mk (HQB.out.kept HT6.out)
                    have HB6 := Hd.mk (HBB.out.trans (tn_bel HT6.out HQB.out.bz))
                    clear hb7 HT6
                    go_wp2
                    go_roundg (xa.length - t)
                    case measure => omega
                    case rel => exact ⟨t + 1, v, L, by go_num, by omega, by omega, HQ6, HB6, ⟨HI.out.skip (by rw [HKE.out, HKF.out]; exact HJE.out)⟩, ⟨HNO.out.imp id (fun ⟨q, h1, h2⟩ => ⟨q, by omega, h2⟩)⟩⟩
                · have c6 : decide ((t : Int) < (xa.length : Int)) = false := decide_eq_false (by omega)
                  have e : t = xa.length := by omega
                  subst e
                  have HIB : Hd (IB (ks_ xa) (ks_ ys) (i + 1) L) := ⟨by have := HI.out; rw [← HXN.out] at this; exact this.out_⟩
                  clear HI HNO
                  go_wp2
                  go_roundg (xa.length - i)
                  case measure => omega
                  case rel => exact ⟨i + 1, v, L, by go_num, by omega, by omega, HQB, HBB, HIB⟩
          · have c5 : decide ((i : Int) < (xa.length : Int)) = false := decide_eq_false (by omega)
            have HPM : Hd (P.Perm L) := ⟨HI.out.done (.inr (by rw [HXN.out]; omega)) HND.out HP2.out (qs_nodup HQB.out.q)⟩
            have HTB := Hd.mk (Tn.of_below (HBE.out.symm ▸ HBB.out) (fun _ => False) : Tn W2 wr (fun _ => False))
            have HQP : Hd (QS wr pb pv pm P) := ⟨HQ2.out.kept HTB.out (fun h => h) (fun h => h) (fun _ _ h => h)⟩
            have HTW := Hd.mk (HT2.out.then_ HTB.out (fun _ h => h.elim))
            have HAP : Hd (Ap pb pm pv qb mb v) := ⟨fun k h1 h2 => by
              have h3 := HQB.out.bl k h2
              have h4 := qs_lts HQ2.out
              have h5 := HBE.out
              rcases h1 with h1 | h1 | h1
              · omega
              · omega
              · have := h4.2.2 k h1; omega⟩
            have HP3 : Hd (P.length ≤ 300) := ⟨by rw [HPL.out]; exact HXA.out⟩
            go_wp2_with (first | (go_at_call 16; refine (alike_calls pb pm qb mb pv v P L _ HQP.out HQB.out.q HPM.out HH2.out HQB.out.hp (by have := HP3.out; omega)).mono ?_; rintro e W20 ⟨rfl, hT20⟩; have HQP2 := Hd.mk (HQP.out.kept hT20 (fun h => h) (fun h => h) (fun _ _ h => h)); have HQB2 := Hd.mk (HQB.out.kept hT20); have HT20 := Hd.mk (HTW.out.then_ hT20 (fun _ h => h.elim)); clear hT20) | (go_at_call 17; refine (emptied_calls pb pm qb mb pv v P L _ HQP2.out HQB2.out.q HAP.out HPM.out HH2.out HQB.out.hp HP3.out).mono ?_; rintro e W21 ⟨rfl, hT21⟩; have HT21 := Hd.mk (HT20.out.then_ hT21 (fun q h => .inr (h.elim (p_lo HPB.out) (fun h => Nat.le_trans HBW.out (HQB.out.bl q h))))); clear hT21))
            go_ret
            exact ⟨rfl, HT21.out.below (Nat.le_refl _) (fun _ h => h.elim)⟩
        · have c4 : decide ((i : Int) < (ys.length : Int)) = false := decide_eq_false (by omega)
          have HPM : Hd (P.Perm L) := ⟨HI.out.done (.inl (by rw [HYN.out]; omega)) HND.out HP2.out (qs_nodup HQB.out.q)⟩
          have HTB := Hd.mk (Tn.of_below (HBE.out.symm ▸ HBB.out) (fun _ => False) : Tn W2 wr (fun _ => False))
          have HQP : Hd (QS wr pb pv pm P) := ⟨HQ2.out.kept HTB.out (fun h => h) (fun h => h) (fun _ _ h => h)⟩
          have HTW := Hd.mk (HT2.out.then_ HTB.out (fun _ h => h.elim))
          have HAP : Hd (Ap pb pm pv qb mb v) := ⟨fun k h1 h2 => by
            have h3 := HQB.out.bl k h2
            have h4 := qs_lts HQ2.out
            have h5 := HBE.out
            rcases h1 with h1 | h1 | h1
            · omega
            · omega
            · have := h4.2.2 k h1; omega⟩
          have HP3 : Hd (P.length ≤ 300) := ⟨by rw [HPL.out]; exact HXA.out⟩
          go_wp2_with (first | (go_at_call 16; refine (alike_calls pb pm qb mb pv v P L _ HQP.out HQB.out.q HPM.out HH2.out HQB.out.hp (by have := HP3.out; omega)).mono ?_; rintro e W20 ⟨rfl, hT20⟩; have HQP2 := Hd.mk (HQP.out.kept hT20 (fun h => h) (fun h => h) (fun _ _ h => h)); have HQB2 := Hd.mk (HQB.out.kept hT20); have HT20 := Hd.mk (HTW.out.then_ hT20 (fun _ h => h.elim)); clear hT20) | (go_at_call 17; refine (emptied_calls pb pm qb mb pv v P L _ HQP2.out HQB2.out.q HAP.out HPM.out HH2.out HQB.out.hp HP3.out).mono ?_; rintro e W21 ⟨rfl, hT21⟩; have HT21 := Hd.mk (HT20.out.then_ hT21 (fun q h => .inr (h.elim (p_lo HPB.out) (fun h => Nat.le_trans HBW.out (HQB.out.bl q h))))); clear hT21))
          go_ret
          exact ⟨rfl, HT21.out.below (Nat.le_refl _) (fun _ h => h.elim)⟩
    · have e : s = (i : Int) := by have := hs.out; omega
      subst e
      clear hs
      have c3 : (i : Int) ≥ 0 := by omega
      have i0 : (0 : Int) ≤ (i : Int) := by omega
      have im : (i : Int) < (xa.length : Int) := by omega
      have HLL : Hd (L.length + 1 ≤ 300) := ⟨by have := HI.out.len; rw [HXN.out] at this; omega⟩
      have hka := HA2.out.kept (Tn.of_below (HBE.out.symm ▸ HBB.out) (fun _ => False)) (fun _ _ h => h)
      obtain ⟨ad, eA, a0, a1, a2⟩ := hka i (by rw [HXN.out]; omega)
      have HBA : Hd (ad.block < B) := ⟨by have := KR.block HA2.out eA (by rw [HXN.out]; omega); rw [HBE.out] at this; exact this⟩
      obtain ⟨ki, hki⟩ : ∃ ki, ka (ks_ xa) i = ki := ⟨_, rfl⟩
      have HKI : Hd (KyOk ki) := ⟨by rw [← hki]; exact HOA.out _ (ka_mem (by rw [HXN.out]; omega))⟩
      have HKE := Hd.mk hki
      rw [hki] at a0 a1 a2
      subst eA
      clear hki hka
      by_cases hsl : i < ys.length
      · have c4 : (i : Int) < (ys.length : Int) := by omega
        have hky := HYW.out.kept (Tn.of_below (HBE.out.symm ▸ HBB.out) (fun _ => False)) (fun _ _ h => h)
        obtain ⟨ad2, eB, d0_, d1, d2⟩ := hky i (by rw [HYN.out]; exact hsl)
        have HBY : Hd (ad2.block < B) := ⟨by have := KR.block HYW.out eB (by rw [HYN.out]; omega); rw [HBE.out] at this; exact this⟩
        obtain ⟨kj, hkj⟩ : ∃ kj, ka (ks_ ys) i = kj := ⟨_, rfl⟩
        have HKJ : Hd (KyOk kj) := ⟨by rw [← hkj]; exact HOK2.out _ (ka_mem (by rw [HYN.out]; exact hsl))⟩
        have HKF := Hd.mk hkj
        rw [hkj] at d0_ d1 d2
        subst eB
        clear hky hkj
        have hLp : L.length + 1 < 3000000000000 := by have := HLL.out; omega
        go_upto_region 13 with (first | (go_at_call 14; refine (qb_put B qb mb v L kj _ HKJ.out HQB.out hLp _).mono ?_; rintro e W5 ⟨x5, v5, L5, rfl, hQ5, hB5, hR5⟩; obtain ⟨_, _, a0, a1, a2⟩ := keepB hB5 HBA.out a0 a1 a2; obtain ⟨_, _, d0_, d1, d2⟩ := keepB hB5 HBY.out d0_ d1 d2; have HQ5 := Hd.mk hQ5; have HB5 := Hd.mk (HBB.out.trans hB5); have HR5 := Hd.mk hR5; clear hQ5 hB5 hR5))
        have hLp5 : L5.length + 1 < 3000000000000 := by have := HR5.out.len; have := HLL.out; omega
        go_upto_region 14 with (first | (go_at_call 15; refine (qb_cancel B qb mb v5 L5 kj _ HKJ.out HQ5.out hLp5).mono ?_; rintro e W6 ⟨t6, v6, L6, rfl, hQ6, hB6, hR6⟩; obtain ⟨_, _, a0, a1, a2⟩ := keepB hB6 HBA.out a0 a1 a2; have HQ6 := Hd.mk hQ6; have HB6 := Hd.mk (HB5.out.trans hB6); have HR6 := Hd.mk hR6; clear hQ6 hB6 hR6 d0_ d1 d2))
        have HI6 : Hd (IA (ks_ xa) (ks_ ys) (i + 1) L6) := ⟨HI.out.strange (m := i) (by rw [HYN.out]; exact hsl) (by rw [HXN.out]; omega) _ (qs_nodup HQB.out.q) (qs_nodup HQ5.out.q) (by rw [HKF.out]; exact HR5.out) (by rw [HKF.out]; exact HR6.out)⟩
        clear HQB HBB HI HQ5 HB5 HR5 HR6 hLp hLp5 HLL
        have HL6 : Hd (L6.length + 1 ≤ 300) := ⟨by have := HI6.out.len; rw [HXN.out] at this; omega⟩
        have hl5 : L6.length < 5000000000000 := by have := HL6.out; omega
        have hl3 : L6.length + 1 < 3000000000000 := by have := HL6.out; omega
        have HFR : Hd (∀ p, p < L6.length → (at_ d0 L6 p).1 ≠ ki) := ⟨by rw [← HKE.out]; exact HI6.out.fresh HND.out (by rw [HXN.out]; omega)⟩
        go_upto_region 15 with (first | (go_at_call 12; refine (get_no qb mb v6 L6 ki _ HKI.out HQ6.out.q hl5 HFR.out).mono ?_; rintro e W7 ⟨rfl, hT7⟩; obtain ⟨_, _, a0, a1, a2⟩ := keep3 hT7 a0 a1 a2; have HQ7 := Hd.mk (HQ6.out.kept hT7); have HB7 := Hd.mk (HB6.out.trans (tn_bel hT7 HQ6.out.bz)); clear hT7))
        go_upto_region 17 with (fail)
        obtain ⟨big, hbig⟩ : ∃ big : Int, 70000 + (i : Int) = big := ⟨_, rfl⟩
        have hX1 : pushF ltI d0 L6 (ki, big) = pushF ltI d0 L6 (ki, big) := rfl
        go_upto_region 18 with (first | (go_at_call 14; (refine (qb_put_no B qb mb v6 L6 ki _ HKI.out HQ7.out hl3 big HFR.out).mono ?_; rintro e W8 ⟨rfl, v8, hQ8, hB8⟩; obtain ⟨_, _, a0, a1, a2⟩ := keepB hB8 HBA.out a0 a1 a2; have HQ8 := Hd.mk hQ8; have HB8 := Hd.mk (HB7.out.trans hB8); clear hQ8 hB8)))
        clear hX1 hbig
        obtain ⟨q8, hq8, hqe8⟩ := mem_at (push_mem.2 (.inl rfl) : (ki, big) ∈ pushF ltI d0 L6 (ki, big))
        have HQE : Hd ((at_ d0 (pushF ltI d0 L6 (ki, big)) q8).1 = ki) := ⟨by rw [hqe8]⟩
        have NX := HI6.out.next (n := big) (q := q8) (by rw [HXN.out]; omega) (by rw [HKE.out]; exact HFR.out) (by rw [HKE.out]; exact qs_nodup HQ8.out.q) (by rw [HKE.out]; exact hq8) (by rw [HKE.out]; exact HQE.out)
        rw [HKE.out] at NX
        have HNX := Hd.mk NX
        have hpl : (pushF ltI d0 L6 (ki, big)).length = L6.length + 1 := push_len
        have hl8 : (pushF ltI d0 L6 (ki, big)).length + 1 < 3000000000000 := by rw [hpl]; have := HL6.out; omega
        have htl := take_lenI hq8
        have hl9 : (takeF ltI d0 (pushF ltI d0 L6 (ki, big)) q8).length + 1 < 3000000000000 := by rw [htl, hpl]; have := HL6.out; omega
        clear NX hqe8 hpl htl
        go_upto_region 19 with (first | (go_at_call 15; refine (qb_cancel_yes B qb mb v8 _ ki _ HKI.out HQ8.out hl8 q8 hq8 HQE.out).mono ?_; rintro e W9 ⟨rfl, v9, hQ9, hB9⟩; obtain ⟨_, _, a0, a1, a2⟩ := keepB hB9 HBA.out a0 a1 a2; have HQ9 := Hd.mk hQ9; have HB9 := Hd.mk (HB8.out.trans hB9); clear hQ9 hB9))
        go_upto_region 20 with (first | (go_at_call 14; refine (qb_put_no B qb mb v9 _ ki _ HKI.out HQ9.out hl9 (i : Int) HNX.out.1).mono ?_; rintro e W10 ⟨rfl, v10, hQ10, hB10⟩; have HQ10 := Hd.mk hQ10; have HB10 := Hd.mk (HB9.out.trans hB10); clear hQ10 hB10 a0 a1 a2))
        go_wp2
        go_roundg (i + 1)
        case measure => omega
        case rel => exact ⟨(i : Int) - 1, i, v10, _, by go_num, ⟨rfl⟩, by omega, by omega, HQ10, HB10, ⟨HNX.out.2⟩⟩
      · have c4 : decide ((i : Int) < (ys.length : Int)) = false := decide_eq_false (by omega)
        go_upto_region 14 with (fail)
        clear HLL
        have HL : Hd (L.length + 1 ≤ 300) := ⟨by have := HI.out.len; rw [HXN.out] at this; omega⟩
        have hl5 : L.length < 5000000000000 := by have := HL.out; omega
        have hl3 : L.length + 1 < 3000000000000 := by have := HL.out; omega
        have HFR : Hd (∀ p, p < L.length → (at_ d0 L p).1 ≠ ki) := ⟨by rw [← HKE.out]; exact HI.out.fresh HND.out (by rw [HXN.out]; omega)⟩
        go_upto_region 15 with (first | (go_at_call 12; refine (get_no qb mb v L ki _ HKI.out HQB.out.q hl5 HFR.out).mono ?_; rintro e W7 ⟨rfl, hT7⟩; obtain ⟨_, _, a0, a1, a2⟩ := keep3 hT7 a0 a1 a2; have HQ7 := Hd.mk (HQB.out.kept hT7); have HB7 := Hd.mk (HBB.out.trans (tn_bel hT7 HQB.out.bz)); clear hT7))
        go_upto_region 17 with (fail)
        obtain ⟨big, hbig⟩ : ∃ big : Int, 70000 + (i : Int) = big := ⟨_, rfl⟩
        have hX1 : pushF ltI d0 L (ki, big) = pushF ltI d0 L (ki, big) := rfl
        go_upto_region 18 with (first | (go_at_call 14; (refine (qb_put_no B qb mb v L ki _ HKI.out HQ7.out hl3 big HFR.out).mono ?_; rintro e W8 ⟨rfl, v8, hQ8, hB8⟩; obtain ⟨_, _, a0, a1, a2⟩ := keepB hB8 HBA.out a0 a1 a2; have HQ8 := Hd.mk hQ8; have HB8 := Hd.mk (HB7.out.trans hB8); clear hQ8 hB8)))
        clear hX1 hbig
        obtain ⟨q8, hq8, hqe8⟩ := mem_at (push_mem.2 (.inl rfl) : (ki, big) ∈ pushF ltI d0 L (ki, big))
        have HQE : Hd ((at_ d0 (pushF ltI d0 L (ki, big)) q8).1 = ki) := ⟨by rw [hqe8]⟩
        have NX := HI.out.next (n := big) (q := q8) (by rw [HXN.out]; omega) (by rw [HKE.out]; exact HFR.out) (by rw [HKE.out]; exact qs_nodup HQ8.out.q) (by rw [HKE.out]; exact hq8) (by rw [HKE.out]; exact HQE.out)
        rw [HKE.out] at NX
        have HNX := Hd.mk NX
        have hpl : (pushF ltI d0 L (ki, big)).length = L.length + 1 := push_len
        have hl8 : (pushF ltI d0 L (ki, big)).length + 1 < 3000000000000 := by rw [hpl]; have := HL.out; omega
        have htl := take_lenI hq8
        have hl9 : (takeF ltI d0 (pushF ltI d0 L (ki, big)) q8).length + 1 < 3000000000000 := by rw [htl, hpl]; have := HL.out; omega
        clear NX hqe8 hpl htl
        go_upto_region 19 with (first | (go_at_call 15; refine (qb_cancel_yes B qb mb v8 _ ki _ HKI.out HQ8.out hl8 q8 hq8 HQE.out).mono ?_; rintro e W9 ⟨rfl, v9, hQ9, hB9⟩; obtain ⟨_, _, a0, a1, a2⟩ := keepB hB9 HBA.out a0 a1 a2; have HQ9 := Hd.mk hQ9; have HB9 := Hd.mk (HB8.out.trans hB9); clear hQ9 hB9))
        go_upto_region 20 with (first | (go_at_call 14; refine (qb_put_no B qb mb v9 _ ki _ HKI.out HQ9.out hl9 (i : Int) HNX.out.1).mono ?_; rintro e W10 ⟨rfl, v10, hQ10, hB10⟩; have HQ10 := Hd.mk hQ10; have HB10 := Hd.mk (HB9.out.trans hB10); clear hQ10 hB10 a0 a1 a2))
        go_wp2
        go_roundg (i + 1)
        case measure => omega
        case rel => exact ⟨(i : Int) - 1, i, v10, _, by go_num, ⟨rfl⟩, by omega, by omega, HQ10, HB10, ⟨HNX.out.2⟩⟩
end Go.Proofs.Ytkbbngkfncbgkaa.IQOrdL
