/- arrearslaw11.TimerqSorts by hand: the law returns true. Conditions: the keys can be read and their numbers are ints. -/
import Derived.Test.YtkbbngkfncbgkaaIQSortsP
import Derived.Test.YtkbbngkfncbgkaaWLast
import Derived.Test.YtkbbngkfncbgkaaWMore
import Derived.Test.YtkbbngkfncbgkaaPAx2
import Derived.Test.YtkbbngkfncbgkaaPAx1
namespace Go.Proofs.Ytkbbngkfncbgkaa.IQSorts
open Go.RowKit Go.Maps Go.Proofs.Ytkbbngkfncbgkaa.IQHeap Go.Proofs.Ytkbbngkfncbgkaa.IQWords Go.Proofs.Ytkbbngkfncbgkaa.IQSwap Go.Proofs.Ytkbbngkfncbgkaa.IQOrd Go.Proofs.Ytkbbngkfncbgkaa.IQUp Go.Proofs.Ytkbbngkfncbgkaa.IQGet Go.Proofs.Ytkbbngkfncbgkaa.IQPush Go.Proofs.Ytkbbngkfncbgkaa.IQPut Go.Proofs.Ytkbbngkfncbgkaa.IQTake Go.Proofs.Ytkbbngkfncbgkaa.IQPop Go.Proofs.Ytkbbngkfncbgkaa.IQFill Go.Proofs.Ytkbbngkfncbgkaa.IQUnl Go.Proofs.Ytkbbngkfncbgkaa.IQSortsP Go.Proofs.Ytkbbngkfncbgkaa.PA Go.Proofs.YtkbbngkfncbgkaaW.PrintWords Go.Proofs.YtkbbngkfncbgkaaW.PrintLast Go.Proofs.YtkbbngkfncbgkaaW.PrintMore
set_option linter.unusedVariables false
set_option linter.unusedSimpArgs false
theorem lit_kr (w : World) : KR (w.alloc (.cells #[.int .i64 2, .int .i64 3, .int .i64 4] 26)) (some ⟨w.heap.size, 0, none⟩) [⟨2, 3, 4⟩] := fun i hi => by
  obtain rfl : i = 0 := by simp at hi; omega
  have h := heap_alloc_new w (.cells #[.int .i64 2, .int .i64 3, .int .i64 4] 26)
  exact ⟨_, rfl, cell_of_row _ w.heap.size 0 _ _ (0, 0) h, cell_of_row _ w.heap.size 1 _ _ (0, 0) h, cell_of_row _ w.heap.size 2 _ _ (0, 0) h⟩
theorem lit_ok : ∀ k ∈ [(⟨2, 3, 4⟩ : Ky)], KyOk k := by
  intro k hk
  rw [List.mem_singleton.1 hk]
  exact ⟨by decide, by decide, by decide⟩
theorem len_is (n : Nat) (qb mb : Nat) (v : Value) (L : List It) (w : World) (hQ : QS w qb v mb L) (hn : L.length = n) :
    Calls Try.prog 7 #[.pointer (some ⟨qb, 0, none⟩)] w fun e w' => e = .returned (.int .i64 n) ∧ w' = w := by
  subst hn
  exact len_calls qb mb v L w hQ
theorem tn_drew {W W5 : World} (h : Below W.drew.heap.size W.drew W5) : Tn W W5 (fun _ => False) := ⟨h.os, h.tape, h.output, h.size, fun i hi _ => h.block i hi⟩
theorem keepc {W w3 : World} {a : Addr} {u : Value} (hb : Below W.heap.size W w3) (h : W.cell? a = some u) : w3.cell? a = some u :=
  (World.cell?_of_block (hb.block a.block (World.block_lt_of_cell? W a h))).trans h
theorem same_k (a b : Ky) (t : Bool) (h : decide (a = b) = t) (w : World) : Calls Try.prog 11 #[.agg #[.int .i64 a.d, .int .i64 a.l, .int .i64 a.k], .agg #[.int .i64 b.d, .int .i64 b.l, .int .i64 b.k]] w fun e w' => e = .returned (.bool t) ∧ Below w.heap.size w w' :=
  arrearslaw11_same.calls a.d a.l a.k b.d b.l b.k t w (by rw [← h]; exact same_f ⟨a.d, a.l, a.k⟩ ⟨b.d, b.l, b.k⟩)
theorem less_k (a b : Ky) (h : ltK a b = true) (w : World) : Calls Try.prog 10 #[.agg #[.int .i64 a.d, .int .i64 a.l, .int .i64 a.k], .agg #[.int .i64 b.d, .int .i64 b.l, .int .i64 b.k]] w fun e w' => e = .returned (.bool true) ∧ Below w.heap.size w w' :=
  arrearslaw11_less.calls a.d a.l a.k b.d b.l b.k true w (by
    rw [ltK_iff] at h
    unfold arrearslaw11_less.f
    by_cases h0 : a.d = b.d
    · by_cases h1 : a.l = b.l
      · have : a.k < b.k := by omega
        simp [h0, h1, this]
      · have : a.l < b.l := by omega
        simp [h0, h1, this]
    · have : a.d < b.d := by omega
      simp [h0, this])
set_option maxHeartbeats 8000000 in
set_option maxRecDepth 1000000 in
theorem sorts_walk (A : Option Addr) (cap : Nat) (xs : List S26) (day : Int) (w : World) (hr : Kd.C k26 w A xs.length xs) (hc : xs.length ≤ cap) (hok : ∀ k ∈ ks_ xs, KyOk k) :
    Calls Try.prog 3 #[.slice A xs.length cap, .int .i64 day] w fun e w' => e = .returned (.bool true) ∧ Below w.heap.size w w' := by
  by_cases hlen : 300 < xs.length
  · have c1 : (xs.length : Int) > 300 := by omega
    clear hr hok
    go_enter Try.func3, Try.ntmps3
    go_wp2
    go_ret
    exact ⟨rfl, Below.refl _ _⟩
  have c1 : decide ((xs.length : Int) > 300) = false := decide_eq_false (by omega)
  have HR := Hd.mk hr
  have HOK := Hd.mk hok
  have HKR := Hd.mk (kr_of hr rfl)
  have HN : Hd ((ks_ xs).length = xs.length) := ⟨ks_length xs⟩
  have HT0 := Hd.mk (Tn.alloc w (.cells #[.int .i64 2, .int .i64 3, .int .i64 4] 26) (fun _ => False))
  have HL0 := Hd.mk (lit_kr w)
  have F2 : ∀ W, KR W A (ks_ xs) → Calls Try.prog 6 #[.slice A xs.length cap] W fun e w' => ∃ qb mb v L, e = .returned (.pointer (some ⟨qb, 0, none⟩)) ∧ QS w' qb v mb L ∧ HP ltI d0 L ∧ L.Perm (fst (ks_ xs) (ks_ xs).length) ∧ Tn W w' (fun _ => False) ∧ W.heap.size ≤ qb ∧ W.heap.size ≤ mb ∧ ∀ k, v.ownBlock = some k → W.heap.size ≤ k := fun W h => by
    have h2 := filled_calls A cap (ks_ xs) W h hok (by rw [ks_length]; omega)
    rw [ks_length] at h2 ⊢
    exact h2
  have HF2 := Hd.mk F2
  clear hr hok F2
  go_enter Try.func3, Try.ntmps3
  go_upto_region 4 with (first | (go_at_call 6; refine (filled_calls (some ⟨w.heap.size, 0, none⟩) 1 [⟨2, 3, 4⟩] _ HL0.out lit_ok (by simp)).mono ?_; rintro e W1 ⟨qb1, mb1, v1, L1, rfl, hQ1, _, hp1, hT1, _, _, _⟩; have HQ1 := Hd.mk hQ1; have HL1 := Hd.mk (hp1.length_eq.trans rfl : L1.length = 1); have HT1 := Hd.mk (HT0.out.then_ hT1 (fun _ h => .inl h)); clear hQ1 hp1 hT1))
  clear HL0 HT0
  go_upto_region 7 with (first | (go_at_call 7; refine (len_is 1 qb1 mb1 v1 L1 _ HQ1.out HL1.out).mono ?_; rintro e W2 ⟨rfl, rfl⟩) | (go_at_call 6; refine (HF2.out _ (HKR.out.kept HT1.out (fun _ _ h => h))).mono ?_; rintro e W2 ⟨qb, mb, v0, L0, rfl, hQ2, hh2, hp2, hT2, hq2, hm2, hv2⟩; have HQ2 := Hd.mk hQ2; have HH2 := Hd.mk hh2; have HP2 := Hd.mk hp2; have HT2 := Hd.mk (HT1.out.then_ hT2 (fun _ h => .inl h)); have HB2 : Hd (w.heap.size ≤ qb ∧ w.heap.size ≤ mb ∧ ∀ k, v0.ownBlock = some k → w.heap.size ≤ k) := ⟨Nat.le_trans HT1.out.size hq2, Nat.le_trans HT1.out.size hm2, fun k hk => Nat.le_trans HT1.out.size (hv2 k hk)⟩; clear hQ2 hh2 hp2 hT2 hq2 hm2 hv2))
  clear HQ1 HL1 HT1 HF2
  obtain ⟨ku, hku⟩ := unlike_f xs (by omega)
  have HKU := Hd.mk hku
  clear hku
  go_upto_region 10 with (first | (go_at_call 8; refine (arrearslaw11_unlike.calls ku A cap xs _ _ (Kd.C_below HR.out (HT2.out.below (Nat.le_refl _) (fun _ h => h.elim))) hc HKU.out).mono ?_; rintro e W9 ⟨va, rfl, hR9, hB9⟩; have HR9 := Hd.mk hR9; have HB9 := Hd.mk hB9; clear hR9 hB9))
  obtain ⟨xa, hxa⟩ : ∃ xa, unlS xs xs.length = xa := ⟨_, rfl⟩
  rw [hxa] at HR9 HKU
  obtain ⟨A2, c2, rfl⟩ := Kd.R_slice HR9.out
  have hrd := Kd.R_reads' HR9.out
  have HA2 := Hd.mk (kr_of hrd.2.2 rfl)
  have HUN : Hd (ks_ xa = unl (ks_ xs) (ks_ xs).length) := ⟨by rw [← hxa, unlS_is xs _ (Nat.le_refl _), ks_length]⟩
  have HXA : Hd (xa.length ≤ 300) := ⟨by have := unlS_length xs xs.length; rw [hxa] at this; omega⟩
  have hlts := qs_lts HQ2.out
  have hbase := Kd.R_base HR9.out
  have HNA : Hd (∀ ad, A2 = some ad → ad.block ≠ qb ∧ ad.block ≠ mb ∧ v0.ownBlock ≠ some ad.block) := ⟨fun ad e => by
    have h1 := hbase ad.block (by rw [e]; rfl)
    exact ⟨by omega, by omega, fun h => by have := hlts.2.2 _ h; omega⟩⟩
  have HQ9 := Hd.mk (HQ2.out.kept (Tn.of_below HB9.out (fun _ => False)) (fun h => h) (fun h => h) (fun _ _ h => h))
  have HT9 := Hd.mk (HT2.out.then_ (Tn.of_below HB9.out (fun _ => False)) (fun _ h => .inl h))
  clear hrd hlts hbase HQ2 HT2 HB9 HR9 HKU hxa HR
  go_wp2
  go_loopg [8, 9] (xa.length + 1) (fun g s8 s9 wr => ∃ i : Nat, s8 = .int .i64 (dc day (ks_ xa) i : Nat) ∧ s9 = .int .i64 i ∧ i ≤ xa.length ∧ xa.length + 1 ≤ g + i ∧ wr = W9)
  case atStart => exact ⟨0, rfl, rfl, Nat.zero_le _, by omega, rfl⟩
  case round =>
    obtain ⟨i, rfl, rfl, hi, hg, hw⟩ := hrel
    have hw2 := hw.symm
    subst hw2
    have hdl := dc_le day (ks_ xa) i
    have hx3 := HXA.out
    by_cases c1 : i < xa.length
    · have c1' : (i : Int) < (xa.length : Int) := by omega
      obtain ⟨ad, eA, a0, _, _⟩ := HA2.out i (by rw [ks_length]; exact c1)
      subst eA
      by_cases hd : (ka (ks_ xa) i).d ≤ day
      · have hdc : dc day (ks_ xa) (i + 1) = dc day (ks_ xa) i + 1 := by
          show (if _ then _ else _) = _
          rw [if_pos hd]
        go_wp2
        go_roundg (xa.length - i)
        case measure => omega
        case rel => exact ⟨i + 1, by rw [hdc]; go_num, by go_num, by omega, by omega, rfl⟩
      · have hd' : decide ((ka (ks_ xa) i).d ≤ day) = false := decide_eq_false hd
        have hdc : dc day (ks_ xa) (i + 1) = dc day (ks_ xa) i := by
          show (if _ then _ else _) = _
          rw [if_neg hd]
        clear hd
        go_wp2
        go_roundg (xa.length - i)
        case measure => omega
        case rel => exact ⟨i + 1, by rw [hdc], by go_num, by omega, by omega, rfl⟩
    · have c1' : decide ((i : Int) < (xa.length : Int)) = false := decide_eq_false (by omega)
      have e : i = xa.length := by omega
      subst e
      obtain ⟨due, hdue⟩ : ∃ due, dc day (ks_ xa) xa.length = due := ⟨_, rfl⟩
      rw [hdue] at hdl ⊢
      have HDU : Hd (due = cnt day (fst (ks_ xs) (ks_ xs).length)) := ⟨by
        have h := due_is (ks_ xs) day
        rw [← HUN.out, ks_length] at h
        exact hdue.symm.trans h⟩
      clear hdue c1 hi hg
      have HT10 := Hd.mk (HT9.out.then_ (Tn.alloc W9 (.cells #[.int .i64 0, .int .i64 0, .int .i64 0] 26) (fun _ => False)) (fun _ h => .inl h))
      have HQ10 := Hd.mk (HQ9.out.alloc (.cells #[.int .i64 0, .int .i64 0, .int .i64 0] 26))
      have HLB10 : Hd ((W9.alloc (.cells #[.int .i64 0, .int .i64 0, .int .i64 0] 26)).heap[W9.heap.size]? = some (.cells #[.int .i64 kz.d, .int .i64 kz.l, .int .i64 kz.k] 26 (0, 0))) := ⟨heap_alloc_new W9 _⟩
      have HA10 := Hd.mk (HA2.out.kept (Tn.alloc W9 (.cells #[.int .i64 0, .int .i64 0, .int .i64 0] 26) (fun _ => False)) (fun _ _ h => h))
      have HLN : Hd (W9.heap.size ≠ qb ∧ W9.heap.size ≠ mb ∧ v0.ownBlock ≠ some W9.heap.size ∧ w.heap.size ≤ W9.heap.size) := ⟨by
        have h := qs_lts HQ9.out
        exact ⟨by omega, by omega, fun e => by have := h.2.2 _ e; omega, HT9.out.size⟩⟩
      have HNL : Hd (∀ ad, A2 = some ad → 0 < xa.length → ad.block ≠ W9.heap.size) := ⟨fun ad e h0 => by
        obtain ⟨ad', e', h, _⟩ := HA2.out 0 (by rw [ks_length]; exact h0)
        rw [e] at e'
        injection e' with e'
        subst e'
        have h3 := World.block_lt_of_cell? W9 _ h
        rw [Go.Proofs.Ytkbbngkfncbgkaa.IQFill.add_block] at h3
        omega⟩
      go_wp2
      obtain ⟨lb, hlb⟩ : ∃ lb, W9.heap.size = lb := ⟨_, rfl⟩
      rw [hlb] at HLB10 HLN HNL ⊢
      generalize hW10 : W9.alloc (.cells #[.int .i64 0, .int .i64 0, .int .i64 0] 26) = W10 at HT10 HQ10 HLB10 HA10 ⊢
      clear hW10
      have HKW : Hd (KR W10 A (ks_ xs)) := ⟨HKR.out.kept HT10.out (fun _ _ h => h)⟩
      have HXL : Hd (xa.length = (fst (ks_ xs) (ks_ xs).length).length) := ⟨by rw [← unl_len, ← HUN.out, ks_length]⟩
      have HKN : Hd (∀ ad, A = some ad → ∀ {j : Nat}, j < (ks_ xs).length → ¬ (ad.block = qb ∨ ad.block = mb ∨ v0.ownBlock = some ad.block ∨ ad.block = lb)) := ⟨fun ad e j hj h => by
        obtain ⟨ad', e', h0, _⟩ := HKR.out j hj
        rw [e] at e'
        injection e' with e'
        subst e'
        have h3 := World.block_lt_of_cell? w _ h0
        rw [Go.Proofs.Ytkbbngkfncbgkaa.IQFill.add_block] at h3
        have hb := HB2.out
        rcases h with h | h | h | h
        · omega
        · omega
        · have := hb.2.2 _ h; omega
        · have := HLN.out.2.2.2; omega⟩
      clear HA2 HQ9 HT9 HKR
      go_loopg [11] (due + 1) (fun g s11 wr => ∃ (t : Nat) (v : Value) (L : List It) (last : Ky), s11 = .int .i64 t ∧ t ≤ due ∧ due + 1 ≤ g + t ∧ Hd (QS wr qb v mb L) ∧ Hd (v.ownBlock = v0.ownBlock) ∧ Hd (PI (ks_ xs) day t due L last) ∧ Hd (wr.heap[lb]? = some (.cells #[.int .i64 last.d, .int .i64 last.l, .int .i64 last.k] 26 (0, 0))) ∧ Hd (Tn W10 wr (fun q => q = qb ∨ q = mb ∨ v0.ownBlock = some q ∨ q = lb)))
      case atStart => exact ⟨0, v0, L0, kz, rfl, Nat.zero_le _, by omega, HQ10, ⟨rfl⟩, ⟨by rw [HDU.out]; exact pi_start HH2.out HP2.out kz⟩, HLB10, ⟨Tn.refl _ _⟩⟩
      case round =>
        clear HQ10 HLB10
        obtain ⟨t, v, L, last, rfl, ht, hg, HQ, HV, HI, HLB, HT⟩ := hrel
        have hlx := HI.out.len
        rw [← HXL.out] at hlx
        by_cases c1 : t < due
        · have c1' : (t : Int) < (due : Int) := by omega
          obtain ⟨hl0, hdd, hlt, ⟨j, hj, hje, hfirst⟩, hI2⟩ := pop_step HI.out c1
          obtain ⟨k, hk⟩ : ∃ k, ka (ks_ xs) j = k := ⟨_, rfl⟩
          rw [hk] at hje hfirst
          rw [hje] at hdd hlt hI2
          have HI2 := Hd.mk hI2
          have HFI := Hd.mk hfirst
          have HLT := Hd.mk hlt
          have hL3 : L.length < 3000000000000 := by omega
          have hbn : ((L.length : Int) != ((xa.length : Int) - (t : Int))) = false := by
            rw [show (xa.length : Int) - (t : Int) = (L.length : Int) by omega]
            simp
          have PS := Hd.mk (fun W (hQ : QS W qb v mb L) => pop_some qb mb v day L W hL3 hQ hl0 (by rw [hje]; exact hdd))
          rw [hje] at PS
          obtain ⟨ad2, eA, _, _, _⟩ := HKW.out j hj
          subst eA
          have hkl := ks_length xs
          have jm : (j : Int) < (xs.length : Int) := by omega
          clear hI2 hfirst hlt hlx
          go_upto_region 23 with (first | (go_at_call 7; refine (len_calls qb mb v L _ HQ.out).mono ?_; rintro e W2 ⟨rfl, rfl⟩) | (go_at_call 9; refine (PS.out _ HQ.out).mono ?_; rintro e W3 ⟨rfl, v1, hQ3, hT3, hv3⟩; have HQ3 := Hd.mk hQ3; have HT3 := Hd.mk hT3; have HV3 : Hd (v1.ownBlock = v0.ownBlock) := ⟨hv3.trans HV.out⟩; clear hQ3 hT3 hv3))
          have HE4 : Hd ((W3.alloc (.cells #[.int .i64 k.d, .int .i64 k.l, .int .i64 k.k] 26)).heap[W3.heap.size]? = some (.cells #[.int .i64 k.d, .int .i64 k.l, .int .i64 k.k] 26 (0, 0))) := ⟨heap_alloc_new W3 _⟩
          have HQ4 := Hd.mk (HQ3.out.alloc (.cells #[.int .i64 k.d, .int .i64 k.l, .int .i64 k.k] 26))
          have HLB3 : Hd (W3.heap[lb]? = _) := ⟨HT3.out.blk HLB.out (fun h => h.elim HLN.out.1 (fun h => h.elim HLN.out.2.1 (fun h => HLN.out.2.2.1 (by rw [← HV.out]; exact h))))⟩
          have HLB4 : Hd ((W3.alloc (.cells #[.int .i64 k.d, .int .i64 k.l, .int .i64 k.k] 26)).heap[lb]? = _) := ⟨(Tn.alloc W3 _ (fun _ => False)).blk HLB3.out (fun h => h)⟩
          have HT4 := Hd.mk ((HT.out.then_ HT3.out (fun q h => .inl (h.elim .inl (fun h => h.elim (fun h => .inr (.inl h)) (fun h => .inr (.inr (.inl (by rw [← HV.out]; exact h)))))))).then_ (Tn.alloc W3 (.cells #[.int .i64 k.d, .int .i64 k.l, .int .i64 k.k] 26) (fun _ => False)) (fun _ h => h.elim))
          have HKB : Hd (W3.heap.size ≠ qb ∧ W3.heap.size ≠ mb ∧ v1.ownBlock ≠ some W3.heap.size ∧ W3.heap.size ≠ lb) := ⟨by
            have h := qs_lts HQ3.out
            have h2 := (Array.getElem?_eq_some_iff.1 HLB3.out).1
            exact ⟨by omega, by omega, fun e => by have := h.2.2 _ e; omega, by omega⟩⟩
          obtain ⟨kb, hkb⟩ : ∃ kb, W3.heap.size = kb := ⟨_, rfl⟩
          rw [hkb] at HE4 HKB ⊢
          generalize hW4 : W3.alloc (.cells #[.int .i64 k.d, .int .i64 k.l, .int .i64 k.k] 26) = W4 at HE4 HQ4 HLB4 HT4 ⊢
          clear hW4 HQ3 HT3 HLB3 HQ HLB HT PS hbn
          have HKW4 : Hd (KR W4 (some ad2) (ks_ xs)) := ⟨HKW.out.kept HT4.out (fun ad e h => by injection e with e; subst e; exact absurd h (HKN.out _ rfl hj))⟩
          obtain ⟨ad3, eA, m0, m1, m2⟩ := HKW4.out j hj
          injection eA with eA
          subst eA
          rw [hk] at m0 m1 m2
          have e0 : W4.cell? ⟨kb, 0, none⟩ = some (.int .i64 k.d) := cell_of_row W4 kb 0 _ _ (0, 0) HE4.out
          have e1 : W4.cell? ⟨kb, 1, none⟩ = some (.int .i64 k.l) := cell_of_row W4 kb 1 _ _ (0, 0) HE4.out
          have e2 : W4.cell? ⟨kb, 2, none⟩ = some (.int .i64 k.k) := cell_of_row W4 kb 2 _ _ (0, 0) HE4.out
          have l0 : W4.cell? ⟨lb, 0, none⟩ = some (.int .i64 last.d) := cell_of_row W4 lb 0 _ _ (0, 0) HLB4.out
          have l1 : W4.cell? ⟨lb, 1, none⟩ = some (.int .i64 last.l) := cell_of_row W4 lb 1 _ _ (0, 0) HLB4.out
          have l2 : W4.cell? ⟨lb, 2, none⟩ = some (.int .i64 last.k) := cell_of_row W4 lb 2 _ _ (0, 0) HLB4.out
          have f1 : decide (k.d > day) = false := decide_eq_false (by omega)
          have f3 : decide ((j : Int) < 0) = false := decide_eq_false (by omega)
          have f4 : decide ((j : Int) ≥ (xs.length : Int)) = false := decide_eq_false (by omega)
          have f4b : decide (xs.length ≤ j) = false := decide_eq_false (by omega)
          have j0 : (0 : Int) ≤ (j : Int) := by omega
          by_cases t0 : 0 < t
          · obtain ⟨ti, hti⟩ : ∃ ti : Int, (t : Int) = ti := ⟨_, rfl⟩
            have f2 : decide (ti > 0) = true := decide_eq_true (by omega)
            have HTI := Hd.mk hti
            rw [hti]
            clear hti c1'
            have HLE := Hd.mk (HLT.out t0)
            refine start_ (n := 37) (S := fun w' => w'.cell? ⟨kb, 0, none⟩ = some (.int .i64 k.d) ∧ w'.cell? ⟨kb, 1, none⟩ = some (.int .i64 k.l) ∧ w'.cell? ⟨kb, 2, none⟩ = some (.int .i64 k.k) ∧ w'.cell? ⟨lb, 0, none⟩ = some (.int .i64 last.d) ∧ w'.cell? ⟨lb, 1, none⟩ = some (.int .i64 last.l) ∧ w'.cell? ⟨lb, 2, none⟩ = some (.int .i64 last.k) ∧ w'.cell? (ad2.add (j * 3)) = some (.int .i64 k.d) ∧ w'.cell? ⟨(ad2.add (j * 3)).block, (ad2.add (j * 3)).off + 1, none⟩ = some (.int .i64 k.l) ∧ w'.cell? ⟨(ad2.add (j * 3)).block, (ad2.add (j * 3)).off + 2, none⟩ = some (.int .i64 k.k)) (ds := []) #[false, false, false, false, false, false, false, false, false, false, false, false, false, false, false, false, false, false, false, false, false, false, false, false, false, false, false, false, false, false, false, false, false, false, false, false, false] (by kernel_rfl) rfl rfl ⟨e0, e1, e2, l0, l1, l2, m0, m1, m2⟩ (fun hHeld => ?_)
            refine pure_ (i := 0) (N := some 75) (v := ?_) (a' := ?_) #[true, false, false, false, false, false, false, false, false, false, false, false, false, false, false, false, false, false, false, false, false, false, false, false, false, false, false, false, false, false, false, false, false, false, false, false, false] rfl rfl (by kernel_rfl) (fun _ _ _ h => h) (Or.inl ⟨by rfl, ?_⟩) ?_ ?_
            rotate_left
            · intro w'
              go_simp
              with_reducible rfl
            rotate_left
            · simp only [Act.put, List.setIfInBounds_toArray, List.set_cons_zero, List.set_cons_succ, i64_w, i32_w]
              rfl
            refine pure_ (i := 1) (N := some 76) (v := ?_) (a' := ?_) #[true, true, false, false, false, false, false, false, false, false, false, false, false, false, false, false, false, false, false, false, false, false, false, false, false, false, false, false, false, false, false, false, false, false, false, false, false] rfl rfl (by kernel_rfl) (fun _ _ _ h => h) (Or.inl ⟨by rfl, ?_⟩) ?_ ?_
            rotate_left
            · intro w'
              go_simp
              with_reducible rfl
            rotate_left
            · simp only [Act.put, List.setIfInBounds_toArray, List.set_cons_zero, List.set_cons_succ, i64_w, i32_w]
              rfl
            refine pure_ (i := 2) (N := some 77) (v := ?_) (a' := ?_) #[true, true, true, false, false, false, false, false, false, false, false, false, false, false, false, false, false, false, false, false, false, false, false, false, false, false, false, false, false, false, false, false, false, false, false, false, false] rfl rfl (by kernel_rfl) (fun _ _ _ h => h) (Or.inl ⟨by rfl, ?_⟩) ?_ ?_
            rotate_left
            · intro w'
              go_simp
              with_reducible rfl
            rotate_left
            · simp only [Act.put, List.setIfInBounds_toArray, List.set_cons_zero, List.set_cons_succ, i64_w, i32_w]
              rfl
            refine pure_ (i := 3) (N := some 78) (v := ?_) (a' := ?_) #[true, true, true, true, false, false, false, false, false, false, false, false, false, false, false, false, false, false, false, false, false, false, false, false, false, false, false, false, false, false, false, false, false, false, false, false, false] rfl rfl (by kernel_rfl) (fun _ _ _ h => h) (Or.inl ⟨by rfl, ?_⟩) ?_ ?_
            rotate_left
            · intro w'
              go_simp
              with_reducible rfl
            rotate_left
            · simp only [Act.put, List.setIfInBounds_toArray, List.set_cons_zero, List.set_cons_succ, i64_w, i32_w]
              rfl
            refine pure_ (i := 5) (N := some 80) (v := ?_) (a' := ?_) #[true, true, true, true, false, true, false, false, false, false, false, false, false, false, false, false, false, false, false, false, false, false, false, false, false, false, false, false, false, false, false, false, false, false, false, false, false] rfl rfl (by kernel_rfl) (fun _ _ _ h => h) (Or.inl ⟨by rfl, ?_⟩) ?_ ?_
            rotate_left
            · intro w'
              go_simp
              with_reducible rfl
            rotate_left
            · simp only [Act.put, List.setIfInBounds_toArray, List.set_cons_zero, List.set_cons_succ, i64_w, i32_w]
              rfl
            refine take_ (i := 4) (N := some 79) (v := ?_) (a' := ?_) #[true, true, true, true, true, true, false, false, false, false, false, false, false, false, false, false, false, false, false, false, false, false, false, false, false, false, false, false, false, false, false, false, false, false, false, false, false] rfl rfl (by kernel_rfl) (fun _ _ _ h => h) (Or.inl ⟨by rfl, ?_⟩) hHeld ?_ ?_
            rotate_left
            · rintro w' ⟨s0, s1, s2, s3, s4, s5, s6, s7, s8⟩
              go_simp
              with_reducible rfl
            rotate_left
            · simp only [Act.put, List.setIfInBounds_toArray, List.set_cons_zero, List.set_cons_succ, i64_w, i32_w]
              rfl
            refine pure_ (i := 6) (N := some 81) (v := ?_) (a' := ?_) #[true, true, true, true, true, true, true, false, false, false, false, false, false, false, false, false, false, false, false, false, false, false, false, false, false, false, false, false, false, false, false, false, false, false, false, false, false] rfl rfl (by kernel_rfl) (fun _ _ _ h => h) (Or.inl ⟨by rfl, ?_⟩) ?_ ?_
            rotate_left
            · intro w'
              go_simp
              with_reducible rfl
            rotate_left
            · simp only [Act.put, List.setIfInBounds_toArray, List.set_cons_zero, List.set_cons_succ, i64_w, i32_w]
              rfl
            refine pure_ (i := 7) (N := some 82) (v := ?_) (a' := ?_) #[true, true, true, true, true, true, true, true, false, false, false, false, false, false, false, false, false, false, false, false, false, false, false, false, false, false, false, false, false, false, false, false, false, false, false, false, false] rfl rfl (by kernel_rfl) (fun _ _ _ h => h) (Or.inl ⟨by rfl, ?_⟩) ?_ ?_
            rotate_left
            · intro w'
              go_simp
              with_reducible rfl
            rotate_left
            · simp only [Act.put, List.setIfInBounds_toArray, List.set_cons_zero, List.set_cons_succ, i64_w, i32_w]
              rfl
            refine pure_ (i := 8) (N := some 83) (v := ?_) (a' := ?_) #[true, true, true, true, true, true, true, true, true, false, false, false, false, false, false, false, false, false, false, false, false, false, false, false, false, false, false, false, false, false, false, false, false, false, false, false, false] rfl rfl (by kernel_rfl) (fun _ _ _ h => h) (Or.inl ⟨by rfl, ?_⟩) ?_ ?_
            rotate_left
            · intro w'
              go_simp
              with_reducible rfl
            rotate_left
            · simp only [Act.put, List.setIfInBounds_toArray, List.set_cons_zero, List.set_cons_succ, i64_w, i32_w]
              rfl
            refine pure_ (i := 9) (N := some 84) (v := ?_) (a' := ?_) #[true, true, true, true, true, true, true, true, true, true, false, false, false, false, false, false, false, false, false, false, false, false, false, false, false, false, false, false, false, false, false, false, false, false, false, false, false] rfl rfl (by kernel_rfl) (fun _ _ _ h => h) (Or.inl ⟨by rfl, ?_⟩) ?_ ?_
            rotate_left
            · intro w'
              go_simp
              with_reducible rfl
            rotate_left
            · simp only [Act.put, List.setIfInBounds_toArray, List.set_cons_zero, List.set_cons_succ, i64_w, i32_w]
              rfl
            refine pure_ (i := 10) (N := some 85) (v := ?_) (a' := ?_) #[true, true, true, true, true, true, true, true, true, true, true, false, false, false, false, false, false, false, false, false, false, false, false, false, false, false, false, false, false, false, false, false, false, false, false, false, false] rfl rfl (by kernel_rfl) (fun _ _ _ h => h) (Or.inl ⟨by rfl, ?_⟩) ?_ ?_
            rotate_left
            · intro w'
              go_simp
              with_reducible rfl
            rotate_left
            · simp only [Act.put, List.setIfInBounds_toArray, List.set_cons_zero, List.set_cons_succ, i64_w, i32_w]
              rfl
            refine pure_ (i := 11) (N := some 86) (v := ?_) (a' := ?_) #[true, true, true, true, true, true, true, true, true, true, true, true, false, false, false, false, false, false, false, false, false, false, false, false, false, false, false, false, false, false, false, false, false, false, false, false, false] rfl rfl (by kernel_rfl) (fun _ _ _ h => h) (Or.inl ⟨by rfl, ?_⟩) ?_ ?_
            rotate_left
            · intro w'
              go_simp
              with_reducible rfl
            rotate_left
            · simp only [Act.put, List.setIfInBounds_toArray, List.set_cons_zero, List.set_cons_succ, i64_w, i32_w]
              rfl
            refine take_ (i := 12) (N := some 87) (v := ?_) (a' := ?_) #[true, true, true, true, true, true, true, true, true, true, true, true, true, false, false, false, false, false, false, false, false, false, false, false, false, false, false, false, false, false, false, false, false, false, false, false, false] rfl rfl (by kernel_rfl) (fun _ _ _ h => h) (Or.inl ⟨by rfl, ?_⟩) hHeld ?_ ?_
            rotate_left
            · rintro w' ⟨s0, s1, s2, s3, s4, s5, s6, s7, s8⟩
              go_simp
              with_reducible rfl
            rotate_left
            · simp only [Act.put, List.setIfInBounds_toArray, List.set_cons_zero, List.set_cons_succ, i64_w, i32_w]
              rfl
            refine take_ (i := 13) (N := some 88) (v := ?_) (a' := ?_) #[true, true, true, true, true, true, true, true, true, true, true, true, true, true, false, false, false, false, false, false, false, false, false, false, false, false, false, false, false, false, false, false, false, false, false, false, false] rfl rfl (by kernel_rfl) (fun _ _ _ h => h) (Or.inl ⟨by rfl, ?_⟩) hHeld ?_ ?_
            rotate_left
            · rintro w' ⟨s0, s1, s2, s3, s4, s5, s6, s7, s8⟩
              go_simp
              with_reducible rfl
            rotate_left
            · simp only [Act.put, List.setIfInBounds_toArray, List.set_cons_zero, List.set_cons_succ, i64_w, i32_w]
              rfl
            refine one_ (i := 14) (N := some 89) #[true, true, true, true, true, true, true, true, true, true, true, true, true, true, true, false, false, false, false, false, false, false, false, false, false, false, false, false, false, false, false, false, false, false, false, false, false] rfl rfl (by kernel_rfl) (by decide) (fun K hK => ?_)
            refine goes_ Try.func10 (by kernel_rfl) rfl #[.agg #[.int .i64 last.d, .int .i64 last.l, .int .i64 last.k], .agg #[.int .i64 k.d, .int .i64 k.l, .int .i64 k.k]] (by rfl) rfl rfl (by simp only [List.map_toArray, List.map_cons, List.map_nil]; rfl) ?_
            with_reducible refine (less_k last k HLE.out _).mono ?_
            rintro e W5 ⟨rfl, hb5⟩
            refine ⟨_, rfl, ?_⟩
            have pe0 := keepc hb5 e0
            have pe1 := keepc hb5 e1
            have pe2 := keepc hb5 e2
            have pl0 := keepc hb5 l0
            have pl1 := keepc hb5 l1
            have pl2 := keepc hb5 l2
            have pm0 := keepc hb5 m0
            have pm1 := keepc hb5 m1
            have pm2 := keepc hb5 m2
            refine hK.out _ _ ⟨pe0, pe1, pe2, pl0, pl1, pl2, pm0, pm1, pm2⟩ (fun hHeld => ?_)
            clear hK K
            refine norm_ (a' := ?_) ?_ ?_
            rotate_left
            · show Act.put _ (some 89) _ = _
              simp only [Act.put, List.setIfInBounds_toArray, List.set_cons_zero, List.set_cons_succ, i64_w, i32_w]
              rfl
            refine pure_ (i := 15) (N := some 90) (v := ?_) (a' := ?_) #[true, true, true, true, true, true, true, true, true, true, true, true, true, true, true, true, false, false, false, false, false, false, false, false, false, false, false, false, false, false, false, false, false, false, false, false, false] rfl rfl (by kernel_rfl) (fun _ _ _ h => h) (Or.inl ⟨by rfl, ?_⟩) ?_ ?_
            rotate_left
            · intro w'
              go_simp
              with_reducible rfl
            rotate_left
            · simp only [Act.put, List.setIfInBounds_toArray, List.set_cons_zero, List.set_cons_succ, i64_w, i32_w]
              rfl
            refine pure_ (i := 16) (N := some 91) (v := ?_) (a' := ?_) #[true, true, true, true, true, true, true, true, true, true, true, true, true, true, true, true, true, false, false, false, false, false, false, false, false, false, false, false, false, false, false, false, false, false, false, false, false] rfl rfl (by kernel_rfl) (fun _ _ _ h => h) (Or.inl ⟨by rfl, ?_⟩) ?_ ?_
            rotate_left
            · intro w'
              go_simp
              with_reducible rfl
            rotate_left
            · simp only [Act.put, List.setIfInBounds_toArray, List.set_cons_zero, List.set_cons_succ, i64_w, i32_w]
              rfl
            refine pure_ (i := 17) (N := some 92) (v := ?_) (a' := ?_) #[true, true, true, true, true, true, true, true, true, true, true, true, true, true, true, true, true, true, false, false, false, false, false, false, false, false, false, false, false, false, false, false, false, false, false, false, false] rfl rfl (by kernel_rfl) (fun _ _ _ h => h) (Or.inl ⟨by rfl, ?_⟩) ?_ ?_
            rotate_left
            · intro w'
              go_simp
              with_reducible rfl
            rotate_left
            · simp only [Act.put, List.setIfInBounds_toArray, List.set_cons_zero, List.set_cons_succ, i64_w, i32_w]
              rfl
            refine pure_ (i := 18) (N := some 93) (v := ?_) (a' := ?_) #[true, true, true, true, true, true, true, true, true, true, true, true, true, true, true, true, true, true, true, false, false, false, false, false, false, false, false, false, false, false, false, false, false, false, false, false, false] rfl rfl (by kernel_rfl) (fun _ _ _ h => h) (Or.inl ⟨by rfl, ?_⟩) ?_ ?_
            rotate_left
            · intro w'
              go_simp
              with_reducible rfl
            rotate_left
            · simp only [Act.put, List.setIfInBounds_toArray, List.set_cons_zero, List.set_cons_succ, i64_w, i32_w]
              rfl
            refine pure_ (i := 19) (N := some 94) (v := ?_) (a' := ?_) #[true, true, true, true, true, true, true, true, true, true, true, true, true, true, true, true, true, true, true, true, false, false, false, false, false, false, false, false, false, false, false, false, false, false, false, false, false] rfl rfl (by kernel_rfl) (fun _ _ _ h => h) (Or.inl ⟨by rfl, ?_⟩) ?_ ?_
            rotate_left
            · intro w'
              go_simp
              with_reducible rfl
            rotate_left
            · simp only [Act.put, List.setIfInBounds_toArray, List.set_cons_zero, List.set_cons_succ, i64_w, i32_w]
              rfl
            refine pure_ (i := 20) (N := some 95) (v := ?_) (a' := ?_) #[true, true, true, true, true, true, true, true, true, true, true, true, true, true, true, true, true, true, true, true, true, false, false, false, false, false, false, false, false, false, false, false, false, false, false, false, false] rfl rfl (by kernel_rfl) (fun _ _ _ h => h) (Or.inl ⟨by rfl, ?_⟩) ?_ ?_
            rotate_left
            · intro w'
              go_simp
              with_reducible rfl
            rotate_left
            · simp only [Act.put, List.setIfInBounds_toArray, List.set_cons_zero, List.set_cons_succ, i64_w, i32_w]
              rfl
            refine pure_ (i := 21) (N := some 96) (v := ?_) (a' := ?_) #[true, true, true, true, true, true, true, true, true, true, true, true, true, true, true, true, true, true, true, true, true, true, false, false, false, false, false, false, false, false, false, false, false, false, false, false, false] rfl rfl (by kernel_rfl) (fun _ _ _ h => h) (Or.inl ⟨by rfl, ?_⟩) ?_ ?_
            rotate_left
            · intro w'
              go_simp
              with_reducible rfl
            rotate_left
            · simp only [Act.put, List.setIfInBounds_toArray, List.set_cons_zero, List.set_cons_succ, i64_w, i32_w]
              rfl
            refine pure_ (i := 22) (N := some 97) (v := ?_) (a' := ?_) #[true, true, true, true, true, true, true, true, true, true, true, true, true, true, true, true, true, true, true, true, true, true, true, false, false, false, false, false, false, false, false, false, false, false, false, false, false] rfl rfl (by kernel_rfl) (fun _ _ _ h => h) (Or.inl ⟨by rfl, ?_⟩) ?_ ?_
            rotate_left
            · intro w'
              go_simp
              with_reducible rfl
            rotate_left
            · simp only [Act.put, List.setIfInBounds_toArray, List.set_cons_zero, List.set_cons_succ, i64_w, i32_w]
              rfl
            refine pure_ (i := 23) (N := some 98) (v := ?_) (a' := ?_) #[true, true, true, true, true, true, true, true, true, true, true, true, true, true, true, true, true, true, true, true, true, true, true, true, false, false, false, false, false, false, false, false, false, false, false, false, false] rfl rfl (by kernel_rfl) (fun _ _ _ h => h) (Or.inl ⟨by rfl, ?_⟩) ?_ ?_
            rotate_left
            · intro w'
              go_simp
              with_reducible rfl
            rotate_left
            · simp only [Act.put, List.setIfInBounds_toArray, List.set_cons_zero, List.set_cons_succ, i64_w, i32_w]
              rfl
            refine pure_ (i := 24) (N := some 99) (v := ?_) (a' := ?_) #[true, true, true, true, true, true, true, true, true, true, true, true, true, true, true, true, true, true, true, true, true, true, true, true, true, false, false, false, false, false, false, false, false, false, false, false, false] rfl rfl (by kernel_rfl) (fun _ _ _ h => h) (Or.inl ⟨by rfl, ?_⟩) ?_ ?_
            rotate_left
            · intro w'
              go_simp
              with_reducible rfl
            rotate_left
            · simp only [Act.put, List.setIfInBounds_toArray, List.set_cons_zero, List.set_cons_succ, i64_w, i32_w]
              rfl
            refine pure_ (i := 25) (N := some 100) (v := ?_) (a' := ?_) #[true, true, true, true, true, true, true, true, true, true, true, true, true, true, true, true, true, true, true, true, true, true, true, true, true, true, false, false, false, false, false, false, false, false, false, false, false] rfl rfl (by kernel_rfl) (fun _ _ _ h => h) (Or.inl ⟨by rfl, ?_⟩) ?_ ?_
            rotate_left
            · intro w'
              go_simp
              with_reducible rfl
            rotate_left
            · simp only [Act.put, List.setIfInBounds_toArray, List.set_cons_zero, List.set_cons_succ, i64_w, i32_w]
              rfl
            refine pure_ (i := 26) (N := some 101) (v := ?_) (a' := ?_) #[true, true, true, true, true, true, true, true, true, true, true, true, true, true, true, true, true, true, true, true, true, true, true, true, true, true, true, false, false, false, false, false, false, false, false, false, false] rfl rfl (by kernel_rfl) (fun _ _ _ h => h) (Or.inl ⟨by rfl, ?_⟩) ?_ ?_
            rotate_left
            · intro w'
              go_simp
              with_reducible rfl
            rotate_left
            · simp only [Act.put, List.setIfInBounds_toArray, List.set_cons_zero, List.set_cons_succ, i64_w, i32_w]
              rfl
            refine pure_ (i := 27) (N := some 102) (v := ?_) (a' := ?_) #[true, true, true, true, true, true, true, true, true, true, true, true, true, true, true, true, true, true, true, true, true, true, true, true, true, true, true, true, false, false, false, false, false, false, false, false, false] rfl rfl (by kernel_rfl) (fun _ _ _ h => h) (Or.inl ⟨by rfl, ?_⟩) ?_ ?_
            rotate_left
            · intro w'
              go_simp
              with_reducible rfl
            rotate_left
            · simp only [Act.put, List.setIfInBounds_toArray, List.set_cons_zero, List.set_cons_succ, i64_w, i32_w]
              rfl
            refine pure_ (i := 28) (N := some 103) (v := ?_) (a' := ?_) #[true, true, true, true, true, true, true, true, true, true, true, true, true, true, true, true, true, true, true, true, true, true, true, true, true, true, true, true, true, false, false, false, false, false, false, false, false] rfl rfl (by kernel_rfl) (fun _ _ _ h => h) (Or.inl ⟨by rfl, ?_⟩) ?_ ?_
            rotate_left
            · intro w'
              go_simp
              with_reducible rfl
            rotate_left
            · simp only [Act.put, List.setIfInBounds_toArray, List.set_cons_zero, List.set_cons_succ, i64_w, i32_w]
              rfl
            refine pure_ (i := 29) (N := some 104) (v := ?_) (a' := ?_) #[true, true, true, true, true, true, true, true, true, true, true, true, true, true, true, true, true, true, true, true, true, true, true, true, true, true, true, true, true, true, false, false, false, false, false, false, false] rfl rfl (by kernel_rfl) (fun _ _ _ h => h) (Or.inl ⟨by rfl, ?_⟩) ?_ ?_
            rotate_left
            · intro w'
              go_simp
              with_reducible rfl
            rotate_left
            · simp only [Act.put, List.setIfInBounds_toArray, List.set_cons_zero, List.set_cons_succ, i64_w, i32_w]
              rfl
            refine pure_ (i := 30) (N := some 105) (v := ?_) (a' := ?_) #[true, true, true, true, true, true, true, true, true, true, true, true, true, true, true, true, true, true, true, true, true, true, true, true, true, true, true, true, true, true, true, false, false, false, false, false, false] rfl rfl (by kernel_rfl) (fun _ _ _ h => h) (Or.inl ⟨by rfl, ?_⟩) ?_ ?_
            rotate_left
            · intro w'
              go_simp
              with_reducible rfl
            rotate_left
            · simp only [Act.put, List.setIfInBounds_toArray, List.set_cons_zero, List.set_cons_succ, i64_w, i32_w]
              rfl
            refine pure_ (i := 31) (N := some 106) (v := ?_) (a' := ?_) #[true, true, true, true, true, true, true, true, true, true, true, true, true, true, true, true, true, true, true, true, true, true, true, true, true, true, true, true, true, true, true, true, false, false, false, false, false] rfl rfl (by kernel_rfl) (fun _ _ _ h => h) (Or.inl ⟨by rfl, ?_⟩) ?_ ?_
            rotate_left
            · intro w'
              go_simp
              with_reducible rfl
            rotate_left
            · simp only [Act.put, List.setIfInBounds_toArray, List.set_cons_zero, List.set_cons_succ, i64_w, i32_w]
              rfl
            refine take_ (i := 32) (N := some 107) (v := ?_) (a' := ?_) #[true, true, true, true, true, true, true, true, true, true, true, true, true, true, true, true, true, true, true, true, true, true, true, true, true, true, true, true, true, true, true, true, true, false, false, false, false] rfl rfl (by kernel_rfl) (fun _ _ _ h => h) (Or.inl ⟨by rfl, ?_⟩) hHeld ?_ ?_
            rotate_left
            · rintro w' ⟨s0, s1, s2, s3, s4, s5, s6, s7, s8⟩
              go_simp
              with_reducible rfl
            rotate_left
            · simp only [Act.put, List.setIfInBounds_toArray, List.set_cons_zero, List.set_cons_succ, i64_w, i32_w]
              rfl
            refine take_ (i := 33) (N := some 108) (v := ?_) (a' := ?_) #[true, true, true, true, true, true, true, true, true, true, true, true, true, true, true, true, true, true, true, true, true, true, true, true, true, true, true, true, true, true, true, true, true, true, false, false, false] rfl rfl (by kernel_rfl) (fun _ _ _ h => h) (Or.inl ⟨by rfl, ?_⟩) hHeld ?_ ?_
            rotate_left
            · rintro w' ⟨s0, s1, s2, s3, s4, s5, s6, s7, s8⟩
              go_simp
              with_reducible rfl
            rotate_left
            · simp only [Act.put, List.setIfInBounds_toArray, List.set_cons_zero, List.set_cons_succ, i64_w, i32_w]
              rfl
            refine one_ (i := 34) (N := some 109) #[true, true, true, true, true, true, true, true, true, true, true, true, true, true, true, true, true, true, true, true, true, true, true, true, true, true, true, true, true, true, true, true, true, true, true, false, false] rfl rfl (by kernel_rfl) (by decide) (fun K hK => ?_)
            refine goes_ Try.func11 (by kernel_rfl) rfl #[.agg #[.int .i64 k.d, .int .i64 k.l, .int .i64 k.k], .agg #[.int .i64 k.d, .int .i64 k.l, .int .i64 k.k]] (by rfl) rfl rfl (by simp only [List.map_toArray, List.map_cons, List.map_nil]; rfl) ?_
            with_reducible refine (same_k k k true (by simp) _).mono ?_
            rintro e W6 ⟨rfl, hb6⟩
            refine ⟨_, rfl, ?_⟩
            have re0 := keepc hb6 pe0
            have re1 := keepc hb6 pe1
            have re2 := keepc hb6 pe2
            have rl0 := keepc hb6 pl0
            have rl1 := keepc hb6 pl1
            have rl2 := keepc hb6 pl2
            have rm0 := keepc hb6 pm0
            have rm1 := keepc hb6 pm1
            have rm2 := keepc hb6 pm2
            refine hK.out _ _ ⟨re0, re1, re2, rl0, rl1, rl2, rm0, rm1, rm2⟩ (fun hHeld => ?_)
            clear hK K
            refine norm_ (a' := ?_) ?_ ?_
            rotate_left
            · show Act.put _ (some 109) _ = _
              simp only [Act.put, List.setIfInBounds_toArray, List.set_cons_zero, List.set_cons_succ, i64_w, i32_w]
              rfl
            refine pure_ (i := 35) (N := some 110) (v := ?_) (a' := ?_) #[true, true, true, true, true, true, true, true, true, true, true, true, true, true, true, true, true, true, true, true, true, true, true, true, true, true, true, true, true, true, true, true, true, true, true, true, false] rfl rfl (by kernel_rfl) (fun _ _ _ h => h) (Or.inl ⟨by rfl, ?_⟩) ?_ ?_
            rotate_left
            · intro w'
              go_simp
              with_reducible rfl
            rotate_left
            · simp only [Act.put, List.setIfInBounds_toArray, List.set_cons_zero, List.set_cons_succ, i64_w, i32_w]
              rfl
            refine pure_ (i := 36) (N := some 111) (v := ?_) (a' := ?_) #[true, true, true, true, true, true, true, true, true, true, true, true, true, true, true, true, true, true, true, true, true, true, true, true, true, true, true, true, true, true, true, true, true, true, true, true, true] rfl rfl (by kernel_rfl) (fun _ _ _ h => h) (Or.inl ⟨by rfl, ?_⟩) ?_ ?_
            rotate_left
            · intro w'
              go_simp
              with_reducible rfl
            rotate_left
            · simp only [Act.put, List.setIfInBounds_toArray, List.set_cons_zero, List.set_cons_succ, i64_w, i32_w]
              rfl
            refine done_ (by kernel_rfl) ?_
            have HTW6 : Hd (Tn W4 W6 (fun _ => False)) := ⟨(tn_drew hb5).then_ (Tn.of_below hb6 (fun _ => False)) (fun _ h => h.elim)⟩
            clear hb5 hb6 pe0 pe1 pe2 pl0 pl1 pl2 pm0 pm1 pm2 re0 re1 re2 rl0 rl1 rl2 rm0 rm1 rm2
            have hti := HTI.out
            subst hti
            clear e0 e1 e2 l0 l1 l2 m0 m1 m2 f1 f2 f3 f4 f4b j0
            have HE6 : Hd (W6.heap[kb]? = _) := ⟨HTW6.out.blk HE4.out (fun h => h)⟩
            have HLB6 : Hd (W6.heap[lb]? = _) := ⟨HTW6.out.blk HLB4.out (fun h => h)⟩
            have HQ6 := Hd.mk (HQ4.out.kept HTW6.out (fun h => h) (fun h => h) (fun _ _ h => h))
            have HT6 := Hd.mk (HT4.out.then_ HTW6.out (fun _ h => h.elim))
            clear HE4 HLB4 HQ4 HT4 HTW6
            go_wp2
            go_loopg [15] (j + 1) (fun g s15 wr => ∃ q : Nat, s15 = .int .i64 q ∧ q ≤ j ∧ j + 1 ≤ g + q ∧ Hd (Tn W6 wr (fun _ => False)))
            case atStart => exact ⟨0, rfl, Nat.zero_le _, by omega, ⟨Tn.refl _ _⟩⟩
            case round =>
              obtain ⟨q, rfl, hq, hg2, HTQ⟩ := hrel
              have HE7 : Hd (wr.heap[kb]? = _) := ⟨HTQ.out.blk HE6.out (fun h => h)⟩
              have e0 : wr.cell? ⟨kb, 0, none⟩ = some (.int .i64 k.d) := cell_of_row wr kb 0 _ _ (0, 0) HE7.out
              have e1 : wr.cell? ⟨kb, 1, none⟩ = some (.int .i64 k.l) := cell_of_row wr kb 1 _ _ (0, 0) HE7.out
              have e2 : wr.cell? ⟨kb, 2, none⟩ = some (.int .i64 k.k) := cell_of_row wr kb 2 _ _ (0, 0) HE7.out
              by_cases c3 : q < j
              · have c3' : (q : Int) < (j : Int) := by omega
                have hkr7 := HKW.out.kept (HT6.out.then_ HTQ.out (fun _ h => h.elim)) (fun ad e h => by injection e with e; subst e; exact absurd h (HKN.out _ rfl hj))
                obtain ⟨ad4, eA, m0, m1, m2⟩ := hkr7 q (by omega)
                injection eA with eA
                subst eA
                obtain ⟨kq, hkq⟩ : ∃ kq, ka (ks_ xs) q = kq := ⟨_, rfl⟩
                have HNE : Hd (decide (kq = k) = false) := ⟨decide_eq_false (by rw [← hkq]; intro e; exact HFI.out q c3 e)⟩
                rw [hkq] at m0 m1 m2
                clear hkr7
                have qm : (q : Int) < (xs.length : Int) := by omega
                have q0 : (0 : Int) ≤ (q : Int) := by omega
                go_wp2
                refine start_ (n := 6) (S := fun w' => w'.cell? ⟨kb, 0, none⟩ = some (.int .i64 k.d) ∧ w'.cell? ⟨kb, 1, none⟩ = some (.int .i64 k.l) ∧ w'.cell? ⟨kb, 2, none⟩ = some (.int .i64 k.k) ∧ w'.cell? (ad2.add (q * 3)) = some (.int .i64 kq.d) ∧ w'.cell? ⟨(ad2.add (q * 3)).block, (ad2.add (q * 3)).off + 1, none⟩ = some (.int .i64 kq.l) ∧ w'.cell? ⟨(ad2.add (q * 3)).block, (ad2.add (q * 3)).off + 2, none⟩ = some (.int .i64 kq.k)) (ds := []) #[false, false, false, false, false, false] (by kernel_rfl) rfl rfl ⟨e0, e1, e2, m0, m1, m2⟩ (fun hHeld => ?_)
                refine pure_ (i := 0) (N := some 117) (v := ?_) (a' := ?_) #[true, false, false, false, false, false] rfl rfl (by kernel_rfl) (fun _ _ _ h => h) (Or.inl ⟨by rfl, ?_⟩) ?_ ?_
                rotate_left
                · intro w'
                  go_simp
                  with_reducible rfl
                rotate_left
                · simp only [Act.put, List.setIfInBounds_toArray, List.set_cons_zero, List.set_cons_succ, i64_w, i32_w]
                  rfl
                refine pure_ (i := 1) (N := some 118) (v := ?_) (a' := ?_) #[true, true, false, false, false, false] rfl rfl (by kernel_rfl) (fun _ _ _ h => h) (Or.inl ⟨by rfl, ?_⟩) ?_ ?_
                rotate_left
                · intro w'
                  go_simp
                  with_reducible rfl
                rotate_left
                · simp only [Act.put, List.setIfInBounds_toArray, List.set_cons_zero, List.set_cons_succ, i64_w, i32_w]
                  rfl
                refine pure_ (i := 2) (N := some 119) (v := ?_) (a' := ?_) #[true, true, true, false, false, false] rfl rfl (by kernel_rfl) (fun _ _ _ h => h) (Or.inl ⟨by rfl, ?_⟩) ?_ ?_
                rotate_left
                · intro w'
                  go_simp
                  with_reducible rfl
                rotate_left
                · simp only [Act.put, List.setIfInBounds_toArray, List.set_cons_zero, List.set_cons_succ, i64_w, i32_w]
                  rfl
                refine take_ (i := 3) (N := some 120) (v := ?_) (a' := ?_) #[true, true, true, true, false, false] rfl rfl (by kernel_rfl) (fun _ _ _ h => h) (Or.inl ⟨by rfl, ?_⟩) hHeld ?_ ?_
                rotate_left
                · rintro w' ⟨s0, s1, s2, s3, s4, s5⟩
                  go_simp
                  with_reducible rfl
                rotate_left
                · simp only [Act.put, List.setIfInBounds_toArray, List.set_cons_zero, List.set_cons_succ, i64_w, i32_w]
                  rfl
                refine take_ (i := 4) (N := some 121) (v := ?_) (a' := ?_) #[true, true, true, true, true, false] rfl rfl (by kernel_rfl) (fun _ _ _ h => h) (Or.inl ⟨by rfl, ?_⟩) hHeld ?_ ?_
                rotate_left
                · rintro w' ⟨s0, s1, s2, s3, s4, s5⟩
                  go_simp
                  with_reducible rfl
                rotate_left
                · simp only [Act.put, List.setIfInBounds_toArray, List.set_cons_zero, List.set_cons_succ, i64_w, i32_w]
                  rfl
                refine one_ (i := 5) (N := some 122) #[true, true, true, true, true, true] rfl rfl (by kernel_rfl) (by decide) (fun K hK => ?_)
                refine goes_ Try.func11 (by kernel_rfl) rfl #[.agg #[.int .i64 kq.d, .int .i64 kq.l, .int .i64 kq.k], .agg #[.int .i64 k.d, .int .i64 k.l, .int .i64 k.k]] (by rfl) rfl rfl (by simp only [List.map_toArray, List.map_cons, List.map_nil]; rfl) ?_
                with_reducible refine (same_k kq k false HNE.out _).mono ?_
                rintro e W7 ⟨rfl, hb7⟩
                refine ⟨_, rfl, ?_⟩
                have re0 := keepc hb7 e0
                have re1 := keepc hb7 e1
                have re2 := keepc hb7 e2
                have rm0 := keepc hb7 m0
                have rm1 := keepc hb7 m1
                have rm2 := keepc hb7 m2
                refine hK.out _ _ ⟨re0, re1, re2, rm0, rm1, rm2⟩ (fun hHeld => ?_)
                clear hK K
                refine norm_ (a' := ?_) ?_ ?_
                rotate_left
                · show Act.put _ (some 122) _ = _
                  simp only [Act.put, List.setIfInBounds_toArray, List.set_cons_zero, List.set_cons_succ, i64_w, i32_w]
                  rfl
                refine done_ (by kernel_rfl) ?_
                go_wp2
                go_roundg (j - q)
                case measure => omega
                case rel => exact ⟨q + 1, by go_num, by omega, by omega, ⟨HTQ.out.then_ (tn_drew hb7) (fun _ h => h.elim)⟩⟩
              · have c3' : decide ((q : Int) < (j : Int)) = false := decide_eq_false (by omega)
                have HLB7 : Hd (wr.heap[lb]? = _) := ⟨HTQ.out.blk HLB6.out (fun h => h)⟩
                have l0 : wr.cell? ⟨lb, 0, none⟩ = some (.int .i64 last.d) := cell_of_row wr lb 0 _ _ (0, 0) HLB7.out
                have l1 : wr.cell? ⟨lb, 1, none⟩ = some (.int .i64 last.l) := cell_of_row wr lb 1 _ _ (0, 0) HLB7.out
                have l2 : wr.cell? ⟨lb, 2, none⟩ = some (.int .i64 last.k) := cell_of_row wr lb 2 _ _ (0, 0) HLB7.out
                have hfz : ∀ z, wr.frozen? ⟨lb, z, none⟩ = false := fun z => frozen_of_row wr lb z _ _ HLB7.out
                obtain ⟨hr8, ht8⟩ := kset (y0 := .int .i64 k.d) (y1 := .int .i64 k.l) (y2 := .int .i64 k.k) HLB7.out
                have HR8 := Hd.mk hr8
                have HT8 := Hd.mk ht8
                clear hr8 ht8
                have hnl : kb ≠ lb := HKB.out.2.2.2
                go_wp2
                go_roundg (due - t)
                case measure => omega
                case rel => exact ⟨t + 1, v1, takeF ltI d0 L 0, k, by go_num, by omega, by omega, ⟨(HQ6.out.kept HTQ.out (fun h => h) (fun h => h) (fun _ _ h => h)).kept HT8.out (fun h => HLN.out.1 h.symm) (fun h => HLN.out.2.1 h.symm) (fun z hz h => HLN.out.2.2.1 (by rw [← HV3.out, hz, h]))⟩, HV3, HI2, HR8, ⟨(HT6.out.then_ HTQ.out (fun _ h => h.elim)).then_ HT8.out (fun z h => .inl (.inr (.inr (.inr h))))⟩⟩
          · obtain ⟨ti, hti⟩ : ∃ ti : Int, (t : Int) = ti := ⟨_, rfl⟩
            have f2 : decide (ti > 0) = false := decide_eq_false (by omega)
            have HTI := Hd.mk hti
            rw [hti]
            clear hti c1'
            refine start_ (n := 37) (S := fun w' => w'.cell? ⟨kb, 0, none⟩ = some (.int .i64 k.d) ∧ w'.cell? ⟨kb, 1, none⟩ = some (.int .i64 k.l) ∧ w'.cell? ⟨kb, 2, none⟩ = some (.int .i64 k.k) ∧ w'.cell? ⟨lb, 0, none⟩ = some (.int .i64 last.d) ∧ w'.cell? ⟨lb, 1, none⟩ = some (.int .i64 last.l) ∧ w'.cell? ⟨lb, 2, none⟩ = some (.int .i64 last.k) ∧ w'.cell? (ad2.add (j * 3)) = some (.int .i64 k.d) ∧ w'.cell? ⟨(ad2.add (j * 3)).block, (ad2.add (j * 3)).off + 1, none⟩ = some (.int .i64 k.l) ∧ w'.cell? ⟨(ad2.add (j * 3)).block, (ad2.add (j * 3)).off + 2, none⟩ = some (.int .i64 k.k)) (ds := []) #[false, false, false, false, false, false, false, false, false, false, false, false, false, false, false, false, false, false, false, false, false, false, false, false, false, false, false, false, false, false, false, false, false, false, false, false, false] (by kernel_rfl) rfl rfl ⟨e0, e1, e2, l0, l1, l2, m0, m1, m2⟩ (fun hHeld => ?_)
            refine pure_ (i := 0) (N := some 75) (v := ?_) (a' := ?_) #[true, false, false, false, false, false, false, false, false, false, false, false, false, false, false, false, false, false, false, false, false, false, false, false, false, false, false, false, false, false, false, false, false, false, false, false, false] rfl rfl (by kernel_rfl) (fun _ _ _ h => h) (Or.inl ⟨by rfl, ?_⟩) ?_ ?_
            rotate_left
            · intro w'
              go_simp
              with_reducible rfl
            rotate_left
            · simp only [Act.put, List.setIfInBounds_toArray, List.set_cons_zero, List.set_cons_succ, i64_w, i32_w]
              rfl
            refine pure_ (i := 1) (N := some 76) (v := ?_) (a' := ?_) #[true, true, false, false, false, false, false, false, false, false, false, false, false, false, false, false, false, false, false, false, false, false, false, false, false, false, false, false, false, false, false, false, false, false, false, false, false] rfl rfl (by kernel_rfl) (fun _ _ _ h => h) (Or.inl ⟨by rfl, ?_⟩) ?_ ?_
            rotate_left
            · intro w'
              go_simp
              with_reducible rfl
            rotate_left
            · simp only [Act.put, List.setIfInBounds_toArray, List.set_cons_zero, List.set_cons_succ, i64_w, i32_w]
              rfl
            refine pure_ (i := 2) (N := some 77) (v := ?_) (a' := ?_) #[true, true, true, false, false, false, false, false, false, false, false, false, false, false, false, false, false, false, false, false, false, false, false, false, false, false, false, false, false, false, false, false, false, false, false, false, false] rfl rfl (by kernel_rfl) (fun _ _ _ h => h) (Or.inl ⟨by rfl, ?_⟩) ?_ ?_
            rotate_left
            · intro w'
              go_simp
              with_reducible rfl
            rotate_left
            · simp only [Act.put, List.setIfInBounds_toArray, List.set_cons_zero, List.set_cons_succ, i64_w, i32_w]
              rfl
            refine pure_ (i := 3) (N := some 78) (v := ?_) (a' := ?_) #[true, true, true, true, false, false, false, false, false, false, false, false, false, false, false, false, false, false, false, false, false, false, false, false, false, false, false, false, false, false, false, false, false, false, false, false, false] rfl rfl (by kernel_rfl) (fun _ _ _ h => h) (Or.inl ⟨by rfl, ?_⟩) ?_ ?_
            rotate_left
            · intro w'
              go_simp
              with_reducible rfl
            rotate_left
            · simp only [Act.put, List.setIfInBounds_toArray, List.set_cons_zero, List.set_cons_succ, i64_w, i32_w]
              rfl
            refine pure_ (i := 5) (N := some 80) (v := ?_) (a' := ?_) #[true, true, true, true, false, true, false, false, false, false, false, false, false, false, false, false, false, false, false, false, false, false, false, false, false, false, false, false, false, false, false, false, false, false, false, false, false] rfl rfl (by kernel_rfl) (fun _ _ _ h => h) (Or.inl ⟨by rfl, ?_⟩) ?_ ?_
            rotate_left
            · intro w'
              go_simp
              with_reducible rfl
            rotate_left
            · simp only [Act.put, List.setIfInBounds_toArray, List.set_cons_zero, List.set_cons_succ, i64_w, i32_w]
              rfl
            refine take_ (i := 4) (N := some 79) (v := ?_) (a' := ?_) #[true, true, true, true, true, true, false, false, false, false, false, false, false, false, false, false, false, false, false, false, false, false, false, false, false, false, false, false, false, false, false, false, false, false, false, false, false] rfl rfl (by kernel_rfl) (fun _ _ _ h => h) (Or.inl ⟨by rfl, ?_⟩) hHeld ?_ ?_
            rotate_left
            · rintro w' ⟨s0, s1, s2, s3, s4, s5, s6, s7, s8⟩
              go_simp
              with_reducible rfl
            rotate_left
            · simp only [Act.put, List.setIfInBounds_toArray, List.set_cons_zero, List.set_cons_succ, i64_w, i32_w]
              rfl
            refine pure_ (i := 6) (N := some 81) (v := ?_) (a' := ?_) #[true, true, true, true, true, true, true, false, false, false, false, false, false, false, false, false, false, false, false, false, false, false, false, false, false, false, false, false, false, false, false, false, false, false, false, false, false] rfl rfl (by kernel_rfl) (fun _ _ _ h => h) (Or.inl ⟨by rfl, ?_⟩) ?_ ?_
            rotate_left
            · intro w'
              go_simp
              with_reducible rfl
            rotate_left
            · simp only [Act.put, List.setIfInBounds_toArray, List.set_cons_zero, List.set_cons_succ, i64_w, i32_w]
              rfl
            refine pure_ (i := 7) (N := some 82) (v := ?_) (a' := ?_) #[true, true, true, true, true, true, true, true, false, false, false, false, false, false, false, false, false, false, false, false, false, false, false, false, false, false, false, false, false, false, false, false, false, false, false, false, false] rfl rfl (by kernel_rfl) (fun _ _ _ h => h) (Or.inl ⟨by rfl, ?_⟩) ?_ ?_
            rotate_left
            · intro w'
              go_simp
              with_reducible rfl
            rotate_left
            · simp only [Act.put, List.setIfInBounds_toArray, List.set_cons_zero, List.set_cons_succ, i64_w, i32_w]
              rfl
            refine pure_ (i := 8) (N := some 83) (v := ?_) (a' := ?_) #[true, true, true, true, true, true, true, true, true, false, false, false, false, false, false, false, false, false, false, false, false, false, false, false, false, false, false, false, false, false, false, false, false, false, false, false, false] rfl rfl (by kernel_rfl) (fun _ _ _ h => h) (Or.inl ⟨by rfl, ?_⟩) ?_ ?_
            rotate_left
            · intro w'
              go_simp
              with_reducible rfl
            rotate_left
            · simp only [Act.put, List.setIfInBounds_toArray, List.set_cons_zero, List.set_cons_succ, i64_w, i32_w]
              rfl
            refine pure_ (i := 9) (N := some 84) (v := ?_) (a' := ?_) #[true, true, true, true, true, true, true, true, true, true, false, false, false, false, false, false, false, false, false, false, false, false, false, false, false, false, false, false, false, false, false, false, false, false, false, false, false] rfl rfl (by kernel_rfl) (fun _ _ _ h => h) (Or.inl ⟨by rfl, ?_⟩) ?_ ?_
            rotate_left
            · intro w'
              go_simp
              with_reducible rfl
            rotate_left
            · simp only [Act.put, List.setIfInBounds_toArray, List.set_cons_zero, List.set_cons_succ, i64_w, i32_w]
              rfl
            refine pure_ (i := 10) (N := some 85) (v := ?_) (a' := ?_) #[true, true, true, true, true, true, true, true, true, true, true, false, false, false, false, false, false, false, false, false, false, false, false, false, false, false, false, false, false, false, false, false, false, false, false, false, false] rfl rfl (by kernel_rfl) (fun _ _ _ h => h) (Or.inl ⟨by rfl, ?_⟩) ?_ ?_
            rotate_left
            · intro w'
              go_simp
              with_reducible rfl
            rotate_left
            · simp only [Act.put, List.setIfInBounds_toArray, List.set_cons_zero, List.set_cons_succ, i64_w, i32_w]
              rfl
            refine pure_ (i := 11) (N := some 86) (v := ?_) (a' := ?_) #[true, true, true, true, true, true, true, true, true, true, true, true, false, false, false, false, false, false, false, false, false, false, false, false, false, false, false, false, false, false, false, false, false, false, false, false, false] rfl rfl (by kernel_rfl) (fun _ _ _ h => h) (Or.inl ⟨by rfl, ?_⟩) ?_ ?_
            rotate_left
            · intro w'
              go_simp
              with_reducible rfl
            rotate_left
            · simp only [Act.put, List.setIfInBounds_toArray, List.set_cons_zero, List.set_cons_succ, i64_w, i32_w]
              rfl
            refine pure_ (i := 12) (N := some 87) (v := undef) (a' := ?_) #[true, true, true, true, true, true, true, true, true, true, true, true, true, false, false, false, false, false, false, false, false, false, false, false, false, false, false, false, false, false, false, false, false, false, false, false, false] rfl rfl (by kernel_rfl) (fun _ _ _ h => h) (Or.inr ⟨by rfl, rfl⟩) ?_ ?_
            rotate_left
            · simp only [Act.put, List.setIfInBounds_toArray, List.set_cons_zero, List.set_cons_succ, i64_w, i32_w]
              rfl
            refine pure_ (i := 13) (N := some 88) (v := undef) (a' := ?_) #[true, true, true, true, true, true, true, true, true, true, true, true, true, true, false, false, false, false, false, false, false, false, false, false, false, false, false, false, false, false, false, false, false, false, false, false, false] rfl rfl (by kernel_rfl) (fun _ _ _ h => h) (Or.inr ⟨by rfl, rfl⟩) ?_ ?_
            rotate_left
            · simp only [Act.put, List.setIfInBounds_toArray, List.set_cons_zero, List.set_cons_succ, i64_w, i32_w]
              rfl
            refine pure_ (i := 14) (N := some 89) (v := undef) (a' := ?_) #[true, true, true, true, true, true, true, true, true, true, true, true, true, true, true, false, false, false, false, false, false, false, false, false, false, false, false, false, false, false, false, false, false, false, false, false, false] rfl rfl (by kernel_rfl) (fun _ _ _ h => h) (Or.inr ⟨by rfl, rfl⟩) ?_ ?_
            rotate_left
            · simp only [Act.put, List.setIfInBounds_toArray, List.set_cons_zero, List.set_cons_succ, i64_w, i32_w]
              rfl
            refine pure_ (i := 15) (N := some 90) (v := undef) (a' := ?_) #[true, true, true, true, true, true, true, true, true, true, true, true, true, true, true, true, false, false, false, false, false, false, false, false, false, false, false, false, false, false, false, false, false, false, false, false, false] rfl rfl (by kernel_rfl) (fun _ _ _ h => h) (Or.inr ⟨by rfl, rfl⟩) ?_ ?_
            rotate_left
            · simp only [Act.put, List.setIfInBounds_toArray, List.set_cons_zero, List.set_cons_succ, i64_w, i32_w]
              rfl
            refine pure_ (i := 16) (N := some 91) (v := ?_) (a' := ?_) #[true, true, true, true, true, true, true, true, true, true, true, true, true, true, true, true, true, false, false, false, false, false, false, false, false, false, false, false, false, false, false, false, false, false, false, false, false] rfl rfl (by kernel_rfl) (fun _ _ _ h => h) (Or.inl ⟨by rfl, ?_⟩) ?_ ?_
            rotate_left
            · intro w'
              go_simp
              with_reducible rfl
            rotate_left
            · simp only [Act.put, List.setIfInBounds_toArray, List.set_cons_zero, List.set_cons_succ, i64_w, i32_w]
              rfl
            refine pure_ (i := 17) (N := some 92) (v := ?_) (a' := ?_) #[true, true, true, true, true, true, true, true, true, true, true, true, true, true, true, true, true, true, false, false, false, false, false, false, false, false, false, false, false, false, false, false, false, false, false, false, false] rfl rfl (by kernel_rfl) (fun _ _ _ h => h) (Or.inl ⟨by rfl, ?_⟩) ?_ ?_
            rotate_left
            · intro w'
              go_simp
              with_reducible rfl
            rotate_left
            · simp only [Act.put, List.setIfInBounds_toArray, List.set_cons_zero, List.set_cons_succ, i64_w, i32_w]
              rfl
            refine pure_ (i := 18) (N := some 93) (v := ?_) (a' := ?_) #[true, true, true, true, true, true, true, true, true, true, true, true, true, true, true, true, true, true, true, false, false, false, false, false, false, false, false, false, false, false, false, false, false, false, false, false, false] rfl rfl (by kernel_rfl) (fun _ _ _ h => h) (Or.inl ⟨by rfl, ?_⟩) ?_ ?_
            rotate_left
            · intro w'
              go_simp
              with_reducible rfl
            rotate_left
            · simp only [Act.put, List.setIfInBounds_toArray, List.set_cons_zero, List.set_cons_succ, i64_w, i32_w]
              rfl
            refine pure_ (i := 19) (N := some 94) (v := ?_) (a' := ?_) #[true, true, true, true, true, true, true, true, true, true, true, true, true, true, true, true, true, true, true, true, false, false, false, false, false, false, false, false, false, false, false, false, false, false, false, false, false] rfl rfl (by kernel_rfl) (fun _ _ _ h => h) (Or.inl ⟨by rfl, ?_⟩) ?_ ?_
            rotate_left
            · intro w'
              go_simp
              with_reducible rfl
            rotate_left
            · simp only [Act.put, List.setIfInBounds_toArray, List.set_cons_zero, List.set_cons_succ, i64_w, i32_w]
              rfl
            refine pure_ (i := 20) (N := some 95) (v := ?_) (a' := ?_) #[true, true, true, true, true, true, true, true, true, true, true, true, true, true, true, true, true, true, true, true, true, false, false, false, false, false, false, false, false, false, false, false, false, false, false, false, false] rfl rfl (by kernel_rfl) (fun _ _ _ h => h) (Or.inl ⟨by rfl, ?_⟩) ?_ ?_
            rotate_left
            · intro w'
              go_simp
              with_reducible rfl
            rotate_left
            · simp only [Act.put, List.setIfInBounds_toArray, List.set_cons_zero, List.set_cons_succ, i64_w, i32_w]
              rfl
            refine pure_ (i := 21) (N := some 96) (v := ?_) (a' := ?_) #[true, true, true, true, true, true, true, true, true, true, true, true, true, true, true, true, true, true, true, true, true, true, false, false, false, false, false, false, false, false, false, false, false, false, false, false, false] rfl rfl (by kernel_rfl) (fun _ _ _ h => h) (Or.inl ⟨by rfl, ?_⟩) ?_ ?_
            rotate_left
            · intro w'
              go_simp
              with_reducible rfl
            rotate_left
            · simp only [Act.put, List.setIfInBounds_toArray, List.set_cons_zero, List.set_cons_succ, i64_w, i32_w]
              rfl
            refine pure_ (i := 22) (N := some 97) (v := ?_) (a' := ?_) #[true, true, true, true, true, true, true, true, true, true, true, true, true, true, true, true, true, true, true, true, true, true, true, false, false, false, false, false, false, false, false, false, false, false, false, false, false] rfl rfl (by kernel_rfl) (fun _ _ _ h => h) (Or.inl ⟨by rfl, ?_⟩) ?_ ?_
            rotate_left
            · intro w'
              go_simp
              with_reducible rfl
            rotate_left
            · simp only [Act.put, List.setIfInBounds_toArray, List.set_cons_zero, List.set_cons_succ, i64_w, i32_w]
              rfl
            refine pure_ (i := 23) (N := some 98) (v := ?_) (a' := ?_) #[true, true, true, true, true, true, true, true, true, true, true, true, true, true, true, true, true, true, true, true, true, true, true, true, false, false, false, false, false, false, false, false, false, false, false, false, false] rfl rfl (by kernel_rfl) (fun _ _ _ h => h) (Or.inl ⟨by rfl, ?_⟩) ?_ ?_
            rotate_left
            · intro w'
              go_simp
              with_reducible rfl
            rotate_left
            · simp only [Act.put, List.setIfInBounds_toArray, List.set_cons_zero, List.set_cons_succ, i64_w, i32_w]
              rfl
            refine pure_ (i := 24) (N := some 99) (v := ?_) (a' := ?_) #[true, true, true, true, true, true, true, true, true, true, true, true, true, true, true, true, true, true, true, true, true, true, true, true, true, false, false, false, false, false, false, false, false, false, false, false, false] rfl rfl (by kernel_rfl) (fun _ _ _ h => h) (Or.inl ⟨by rfl, ?_⟩) ?_ ?_
            rotate_left
            · intro w'
              go_simp
              with_reducible rfl
            rotate_left
            · simp only [Act.put, List.setIfInBounds_toArray, List.set_cons_zero, List.set_cons_succ, i64_w, i32_w]
              rfl
            refine pure_ (i := 25) (N := some 100) (v := ?_) (a' := ?_) #[true, true, true, true, true, true, true, true, true, true, true, true, true, true, true, true, true, true, true, true, true, true, true, true, true, true, false, false, false, false, false, false, false, false, false, false, false] rfl rfl (by kernel_rfl) (fun _ _ _ h => h) (Or.inl ⟨by rfl, ?_⟩) ?_ ?_
            rotate_left
            · intro w'
              go_simp
              with_reducible rfl
            rotate_left
            · simp only [Act.put, List.setIfInBounds_toArray, List.set_cons_zero, List.set_cons_succ, i64_w, i32_w]
              rfl
            refine pure_ (i := 26) (N := some 101) (v := ?_) (a' := ?_) #[true, true, true, true, true, true, true, true, true, true, true, true, true, true, true, true, true, true, true, true, true, true, true, true, true, true, true, false, false, false, false, false, false, false, false, false, false] rfl rfl (by kernel_rfl) (fun _ _ _ h => h) (Or.inl ⟨by rfl, ?_⟩) ?_ ?_
            rotate_left
            · intro w'
              go_simp
              with_reducible rfl
            rotate_left
            · simp only [Act.put, List.setIfInBounds_toArray, List.set_cons_zero, List.set_cons_succ, i64_w, i32_w]
              rfl
            refine pure_ (i := 27) (N := some 102) (v := ?_) (a' := ?_) #[true, true, true, true, true, true, true, true, true, true, true, true, true, true, true, true, true, true, true, true, true, true, true, true, true, true, true, true, false, false, false, false, false, false, false, false, false] rfl rfl (by kernel_rfl) (fun _ _ _ h => h) (Or.inl ⟨by rfl, ?_⟩) ?_ ?_
            rotate_left
            · intro w'
              go_simp
              with_reducible rfl
            rotate_left
            · simp only [Act.put, List.setIfInBounds_toArray, List.set_cons_zero, List.set_cons_succ, i64_w, i32_w]
              rfl
            refine pure_ (i := 28) (N := some 103) (v := ?_) (a' := ?_) #[true, true, true, true, true, true, true, true, true, true, true, true, true, true, true, true, true, true, true, true, true, true, true, true, true, true, true, true, true, false, false, false, false, false, false, false, false] rfl rfl (by kernel_rfl) (fun _ _ _ h => h) (Or.inl ⟨by rfl, ?_⟩) ?_ ?_
            rotate_left
            · intro w'
              go_simp
              with_reducible rfl
            rotate_left
            · simp only [Act.put, List.setIfInBounds_toArray, List.set_cons_zero, List.set_cons_succ, i64_w, i32_w]
              rfl
            refine pure_ (i := 29) (N := some 104) (v := ?_) (a' := ?_) #[true, true, true, true, true, true, true, true, true, true, true, true, true, true, true, true, true, true, true, true, true, true, true, true, true, true, true, true, true, true, false, false, false, false, false, false, false] rfl rfl (by kernel_rfl) (fun _ _ _ h => h) (Or.inl ⟨by rfl, ?_⟩) ?_ ?_
            rotate_left
            · intro w'
              go_simp
              with_reducible rfl
            rotate_left
            · simp only [Act.put, List.setIfInBounds_toArray, List.set_cons_zero, List.set_cons_succ, i64_w, i32_w]
              rfl
            refine pure_ (i := 30) (N := some 105) (v := ?_) (a' := ?_) #[true, true, true, true, true, true, true, true, true, true, true, true, true, true, true, true, true, true, true, true, true, true, true, true, true, true, true, true, true, true, true, false, false, false, false, false, false] rfl rfl (by kernel_rfl) (fun _ _ _ h => h) (Or.inl ⟨by rfl, ?_⟩) ?_ ?_
            rotate_left
            · intro w'
              go_simp
              with_reducible rfl
            rotate_left
            · simp only [Act.put, List.setIfInBounds_toArray, List.set_cons_zero, List.set_cons_succ, i64_w, i32_w]
              rfl
            refine pure_ (i := 31) (N := some 106) (v := ?_) (a' := ?_) #[true, true, true, true, true, true, true, true, true, true, true, true, true, true, true, true, true, true, true, true, true, true, true, true, true, true, true, true, true, true, true, true, false, false, false, false, false] rfl rfl (by kernel_rfl) (fun _ _ _ h => h) (Or.inl ⟨by rfl, ?_⟩) ?_ ?_
            rotate_left
            · intro w'
              go_simp
              with_reducible rfl
            rotate_left
            · simp only [Act.put, List.setIfInBounds_toArray, List.set_cons_zero, List.set_cons_succ, i64_w, i32_w]
              rfl
            refine take_ (i := 32) (N := some 107) (v := ?_) (a' := ?_) #[true, true, true, true, true, true, true, true, true, true, true, true, true, true, true, true, true, true, true, true, true, true, true, true, true, true, true, true, true, true, true, true, true, false, false, false, false] rfl rfl (by kernel_rfl) (fun _ _ _ h => h) (Or.inl ⟨by rfl, ?_⟩) hHeld ?_ ?_
            rotate_left
            · rintro w' ⟨s0, s1, s2, s3, s4, s5, s6, s7, s8⟩
              go_simp
              with_reducible rfl
            rotate_left
            · simp only [Act.put, List.setIfInBounds_toArray, List.set_cons_zero, List.set_cons_succ, i64_w, i32_w]
              rfl
            refine take_ (i := 33) (N := some 108) (v := ?_) (a' := ?_) #[true, true, true, true, true, true, true, true, true, true, true, true, true, true, true, true, true, true, true, true, true, true, true, true, true, true, true, true, true, true, true, true, true, true, false, false, false] rfl rfl (by kernel_rfl) (fun _ _ _ h => h) (Or.inl ⟨by rfl, ?_⟩) hHeld ?_ ?_
            rotate_left
            · rintro w' ⟨s0, s1, s2, s3, s4, s5, s6, s7, s8⟩
              go_simp
              with_reducible rfl
            rotate_left
            · simp only [Act.put, List.setIfInBounds_toArray, List.set_cons_zero, List.set_cons_succ, i64_w, i32_w]
              rfl
            refine one_ (i := 34) (N := some 109) #[true, true, true, true, true, true, true, true, true, true, true, true, true, true, true, true, true, true, true, true, true, true, true, true, true, true, true, true, true, true, true, true, true, true, true, false, false] rfl rfl (by kernel_rfl) (by decide) (fun K hK => ?_)
            refine goes_ Try.func11 (by kernel_rfl) rfl #[.agg #[.int .i64 k.d, .int .i64 k.l, .int .i64 k.k], .agg #[.int .i64 k.d, .int .i64 k.l, .int .i64 k.k]] (by rfl) rfl rfl (by simp only [List.map_toArray, List.map_cons, List.map_nil]; rfl) ?_
            with_reducible refine (same_k k k true (by simp) _).mono ?_
            rintro e W6 ⟨rfl, hb6⟩
            refine ⟨_, rfl, ?_⟩
            have re0 := keepc hb6 e0
            have re1 := keepc hb6 e1
            have re2 := keepc hb6 e2
            have rl0 := keepc hb6 l0
            have rl1 := keepc hb6 l1
            have rl2 := keepc hb6 l2
            have rm0 := keepc hb6 m0
            have rm1 := keepc hb6 m1
            have rm2 := keepc hb6 m2
            refine hK.out _ _ ⟨re0, re1, re2, rl0, rl1, rl2, rm0, rm1, rm2⟩ (fun hHeld => ?_)
            clear hK K
            refine norm_ (a' := ?_) ?_ ?_
            rotate_left
            · show Act.put _ (some 109) _ = _
              simp only [Act.put, List.setIfInBounds_toArray, List.set_cons_zero, List.set_cons_succ, i64_w, i32_w]
              rfl
            refine pure_ (i := 35) (N := some 110) (v := ?_) (a' := ?_) #[true, true, true, true, true, true, true, true, true, true, true, true, true, true, true, true, true, true, true, true, true, true, true, true, true, true, true, true, true, true, true, true, true, true, true, true, false] rfl rfl (by kernel_rfl) (fun _ _ _ h => h) (Or.inl ⟨by rfl, ?_⟩) ?_ ?_
            rotate_left
            · intro w'
              go_simp
              with_reducible rfl
            rotate_left
            · simp only [Act.put, List.setIfInBounds_toArray, List.set_cons_zero, List.set_cons_succ, i64_w, i32_w]
              rfl
            refine pure_ (i := 36) (N := some 111) (v := ?_) (a' := ?_) #[true, true, true, true, true, true, true, true, true, true, true, true, true, true, true, true, true, true, true, true, true, true, true, true, true, true, true, true, true, true, true, true, true, true, true, true, true] rfl rfl (by kernel_rfl) (fun _ _ _ h => h) (Or.inl ⟨by rfl, ?_⟩) ?_ ?_
            rotate_left
            · intro w'
              go_simp
              with_reducible rfl
            rotate_left
            · simp only [Act.put, List.setIfInBounds_toArray, List.set_cons_zero, List.set_cons_succ, i64_w, i32_w]
              rfl
            refine done_ (by kernel_rfl) ?_
            have HTW6 : Hd (Tn W4 W6 (fun _ => False)) := ⟨tn_drew hb6⟩
            clear hb6 re0 re1 re2 rl0 rl1 rl2 rm0 rm1 rm2
            have hti := HTI.out
            subst hti
            clear e0 e1 e2 l0 l1 l2 m0 m1 m2 f1 f2 f3 f4 f4b j0
            have HE6 : Hd (W6.heap[kb]? = _) := ⟨HTW6.out.blk HE4.out (fun h => h)⟩
            have HLB6 : Hd (W6.heap[lb]? = _) := ⟨HTW6.out.blk HLB4.out (fun h => h)⟩
            have HQ6 := Hd.mk (HQ4.out.kept HTW6.out (fun h => h) (fun h => h) (fun _ _ h => h))
            have HT6 := Hd.mk (HT4.out.then_ HTW6.out (fun _ h => h.elim))
            clear HE4 HLB4 HQ4 HT4 HTW6
            go_wp2
            go_loopg [15] (j + 1) (fun g s15 wr => ∃ q : Nat, s15 = .int .i64 q ∧ q ≤ j ∧ j + 1 ≤ g + q ∧ Hd (Tn W6 wr (fun _ => False)))
            case atStart => exact ⟨0, rfl, Nat.zero_le _, by omega, ⟨Tn.refl _ _⟩⟩
            case round =>
              obtain ⟨q, rfl, hq, hg2, HTQ⟩ := hrel
              have HE7 : Hd (wr.heap[kb]? = _) := ⟨HTQ.out.blk HE6.out (fun h => h)⟩
              have e0 : wr.cell? ⟨kb, 0, none⟩ = some (.int .i64 k.d) := cell_of_row wr kb 0 _ _ (0, 0) HE7.out
              have e1 : wr.cell? ⟨kb, 1, none⟩ = some (.int .i64 k.l) := cell_of_row wr kb 1 _ _ (0, 0) HE7.out
              have e2 : wr.cell? ⟨kb, 2, none⟩ = some (.int .i64 k.k) := cell_of_row wr kb 2 _ _ (0, 0) HE7.out
              by_cases c3 : q < j
              · have c3' : (q : Int) < (j : Int) := by omega
                have hkr7 := HKW.out.kept (HT6.out.then_ HTQ.out (fun _ h => h.elim)) (fun ad e h => by injection e with e; subst e; exact absurd h (HKN.out _ rfl hj))
                obtain ⟨ad4, eA, m0, m1, m2⟩ := hkr7 q (by omega)
                injection eA with eA
                subst eA
                obtain ⟨kq, hkq⟩ : ∃ kq, ka (ks_ xs) q = kq := ⟨_, rfl⟩
                have HNE : Hd (decide (kq = k) = false) := ⟨decide_eq_false (by rw [← hkq]; intro e; exact HFI.out q c3 e)⟩
                rw [hkq] at m0 m1 m2
                clear hkr7
                have qm : (q : Int) < (xs.length : Int) := by omega
                have q0 : (0 : Int) ≤ (q : Int) := by omega
                go_wp2
                refine start_ (n := 6) (S := fun w' => w'.cell? ⟨kb, 0, none⟩ = some (.int .i64 k.d) ∧ w'.cell? ⟨kb, 1, none⟩ = some (.int .i64 k.l) ∧ w'.cell? ⟨kb, 2, none⟩ = some (.int .i64 k.k) ∧ w'.cell? (ad2.add (q * 3)) = some (.int .i64 kq.d) ∧ w'.cell? ⟨(ad2.add (q * 3)).block, (ad2.add (q * 3)).off + 1, none⟩ = some (.int .i64 kq.l) ∧ w'.cell? ⟨(ad2.add (q * 3)).block, (ad2.add (q * 3)).off + 2, none⟩ = some (.int .i64 kq.k)) (ds := []) #[false, false, false, false, false, false] (by kernel_rfl) rfl rfl ⟨e0, e1, e2, m0, m1, m2⟩ (fun hHeld => ?_)
                refine pure_ (i := 0) (N := some 117) (v := ?_) (a' := ?_) #[true, false, false, false, false, false] rfl rfl (by kernel_rfl) (fun _ _ _ h => h) (Or.inl ⟨by rfl, ?_⟩) ?_ ?_
                rotate_left
                · intro w'
                  go_simp
                  with_reducible rfl
                rotate_left
                · simp only [Act.put, List.setIfInBounds_toArray, List.set_cons_zero, List.set_cons_succ, i64_w, i32_w]
                  rfl
                refine pure_ (i := 1) (N := some 118) (v := ?_) (a' := ?_) #[true, true, false, false, false, false] rfl rfl (by kernel_rfl) (fun _ _ _ h => h) (Or.inl ⟨by rfl, ?_⟩) ?_ ?_
                rotate_left
                · intro w'
                  go_simp
                  with_reducible rfl
                rotate_left
                · simp only [Act.put, List.setIfInBounds_toArray, List.set_cons_zero, List.set_cons_succ, i64_w, i32_w]
                  rfl
                refine pure_ (i := 2) (N := some 119) (v := ?_) (a' := ?_) #[true, true, true, false, false, false] rfl rfl (by kernel_rfl) (fun _ _ _ h => h) (Or.inl ⟨by rfl, ?_⟩) ?_ ?_
                rotate_left
                · intro w'
                  go_simp
                  with_reducible rfl
                rotate_left
                · simp only [Act.put, List.setIfInBounds_toArray, List.set_cons_zero, List.set_cons_succ, i64_w, i32_w]
                  rfl
                refine take_ (i := 3) (N := some 120) (v := ?_) (a' := ?_) #[true, true, true, true, false, false] rfl rfl (by kernel_rfl) (fun _ _ _ h => h) (Or.inl ⟨by rfl, ?_⟩) hHeld ?_ ?_
                rotate_left
                · rintro w' ⟨s0, s1, s2, s3, s4, s5⟩
                  go_simp
                  with_reducible rfl
                rotate_left
                · simp only [Act.put, List.setIfInBounds_toArray, List.set_cons_zero, List.set_cons_succ, i64_w, i32_w]
                  rfl
                refine take_ (i := 4) (N := some 121) (v := ?_) (a' := ?_) #[true, true, true, true, true, false] rfl rfl (by kernel_rfl) (fun _ _ _ h => h) (Or.inl ⟨by rfl, ?_⟩) hHeld ?_ ?_
                rotate_left
                · rintro w' ⟨s0, s1, s2, s3, s4, s5⟩
                  go_simp
                  with_reducible rfl
                rotate_left
                · simp only [Act.put, List.setIfInBounds_toArray, List.set_cons_zero, List.set_cons_succ, i64_w, i32_w]
                  rfl
                refine one_ (i := 5) (N := some 122) #[true, true, true, true, true, true] rfl rfl (by kernel_rfl) (by decide) (fun K hK => ?_)
                refine goes_ Try.func11 (by kernel_rfl) rfl #[.agg #[.int .i64 kq.d, .int .i64 kq.l, .int .i64 kq.k], .agg #[.int .i64 k.d, .int .i64 k.l, .int .i64 k.k]] (by rfl) rfl rfl (by simp only [List.map_toArray, List.map_cons, List.map_nil]; rfl) ?_
                with_reducible refine (same_k kq k false HNE.out _).mono ?_
                rintro e W7 ⟨rfl, hb7⟩
                refine ⟨_, rfl, ?_⟩
                have re0 := keepc hb7 e0
                have re1 := keepc hb7 e1
                have re2 := keepc hb7 e2
                have rm0 := keepc hb7 m0
                have rm1 := keepc hb7 m1
                have rm2 := keepc hb7 m2
                refine hK.out _ _ ⟨re0, re1, re2, rm0, rm1, rm2⟩ (fun hHeld => ?_)
                clear hK K
                refine norm_ (a' := ?_) ?_ ?_
                rotate_left
                · show Act.put _ (some 122) _ = _
                  simp only [Act.put, List.setIfInBounds_toArray, List.set_cons_zero, List.set_cons_succ, i64_w, i32_w]
                  rfl
                refine done_ (by kernel_rfl) ?_
                go_wp2
                go_roundg (j - q)
                case measure => omega
                case rel => exact ⟨q + 1, by go_num, by omega, by omega, ⟨HTQ.out.then_ (tn_drew hb7) (fun _ h => h.elim)⟩⟩
              · have c3' : decide ((q : Int) < (j : Int)) = false := decide_eq_false (by omega)
                have HLB7 : Hd (wr.heap[lb]? = _) := ⟨HTQ.out.blk HLB6.out (fun h => h)⟩
                have l0 : wr.cell? ⟨lb, 0, none⟩ = some (.int .i64 last.d) := cell_of_row wr lb 0 _ _ (0, 0) HLB7.out
                have l1 : wr.cell? ⟨lb, 1, none⟩ = some (.int .i64 last.l) := cell_of_row wr lb 1 _ _ (0, 0) HLB7.out
                have l2 : wr.cell? ⟨lb, 2, none⟩ = some (.int .i64 last.k) := cell_of_row wr lb 2 _ _ (0, 0) HLB7.out
                have hfz : ∀ z, wr.frozen? ⟨lb, z, none⟩ = false := fun z => frozen_of_row wr lb z _ _ HLB7.out
                obtain ⟨hr8, ht8⟩ := kset (y0 := .int .i64 k.d) (y1 := .int .i64 k.l) (y2 := .int .i64 k.k) HLB7.out
                have HR8 := Hd.mk hr8
                have HT8 := Hd.mk ht8
                clear hr8 ht8
                have hnl : kb ≠ lb := HKB.out.2.2.2
                go_wp2
                go_roundg (due - t)
                case measure => omega
                case rel => exact ⟨t + 1, v1, takeF ltI d0 L 0, k, by go_num, by omega, by omega, ⟨(HQ6.out.kept HTQ.out (fun h => h) (fun h => h) (fun _ _ h => h)).kept HT8.out (fun h => HLN.out.1 h.symm) (fun h => HLN.out.2.1 h.symm) (fun z hz h => HLN.out.2.2.1 (by rw [← HV3.out, hz, h]))⟩, HV3, HI2, HR8, ⟨(HT6.out.then_ HTQ.out (fun _ h => h.elim)).then_ HT8.out (fun z h => .inl (.inr (.inr (.inr h))))⟩⟩
        · have c1' : decide ((t : Int) < (due : Int)) = false := decide_eq_false (by omega)
          have e : t = due := by omega
          subst e
          have hbn : ((L.length : Int) != ((xa.length : Int) - (t : Int))) = false := by
            rw [show (xa.length : Int) - (t : Int) = (L.length : Int) by omega]
            simp
          have HEND := Hd.mk (pop_end HI.out)
          have hpd : ∀ x ∈ L, False ∨ (0 < L.length ∧ day < (at_ d0 L 0).1.d) := fun x hx => by
            have h0 : 0 < L.length := List.length_pos_of_mem hx
            exact .inr ⟨h0, HEND.out _ (at_mem h0)⟩
          have HPD := Hd.mk hpd
          have hL5 : L.length < 5000000000000 := by omega
          clear hpd hlx
          go_upto_region 34 with (first | (go_at_call 9; refine (pop_none qb mb v day L _ HQ.out HPD.out).mono ?_; rintro e W3 ⟨rfl, hT3⟩; have HQ4 := Hd.mk ((HQ.out.kept hT3 (fun h => h) (fun h => h) (fun _ _ h => h)).alloc (.cells #[.int .i64 0, .int .i64 0, .int .i64 0] 26)); have HT4 := Hd.mk ((HT.out.then_ hT3 (fun _ h => h.elim)).then_ (Tn.alloc W3 (.cells #[.int .i64 0, .int .i64 0, .int .i64 0] 26) (fun _ => False)) (fun _ h => h.elim)); clear hT3) | (go_at_call 7; refine (len_calls qb mb v L _ HQ4.out).mono ?_; rintro e W2 ⟨rfl, rfl⟩))
          clear hbn HPD HQ HT HLB
          generalize hW4 : W3.alloc (.cells #[.int .i64 0, .int .i64 0, .int .i64 0] 26) = W4 at HQ4 HT4 ⊢
          clear hW4
          go_wp2
          go_loopg [19] (xa.length + 1) (fun g s19 wr => ∃ i : Nat, s19 = .int .i64 i ∧ i ≤ xa.length ∧ xa.length + 1 ≤ g + i ∧ Hd (Tn W4 wr (fun _ => False)))
          case atStart => exact ⟨0, rfl, Nat.zero_le _, by omega, ⟨Tn.refl _ _⟩⟩
          case round =>
            obtain ⟨i, rfl, hi2, hg3, HTG⟩ := hrel
            by_cases c3 : i < xa.length
            · have c3' : (i : Int) < (xa.length : Int) := by omega
              have HQ5 := Hd.mk (HQ4.out.kept HTG.out (fun h => h) (fun h => h) (fun _ _ h => h))
              have hka := HA10.out.kept (HT4.out.then_ HTG.out (fun _ h => h.elim)) (fun ad e h => h.elim (HNA.out ad e).1 (fun h => h.elim (HNA.out ad e).2.1 (fun h => h.elim (HNA.out ad e).2.2 (HNL.out ad e (by omega)))))
              obtain ⟨ad, eA, a0, a1, a2⟩ := hka i (by rw [ks_length]; exact c3)
              subst eA
              clear hka
              have hge := get_end HI.out (i := i) (by rw [← HUN.out, ks_length]; exact c3)
              rw [← HUN.out] at hge
              obtain ⟨k, hk⟩ : ∃ k, ka (ks_ xa) i = k := ⟨_, rfl⟩
              have HK : Hd (KyOk k) := ⟨by
                rw [← hk]
                refine unl_ok HOK.out _ (Nat.le_refl _) _ ?_
                rw [← HUN.out]
                exact ka_mem (by rw [ks_length]; exact c3)⟩
              rw [hk] at a0 a1 a2 hge
              rcases hge with ⟨hd, j, hj, hje⟩ | ⟨hd, hno⟩
              · have f1 : decide (k.d > day) = true := decide_eq_true (by omega)
                have HJ := Hd.mk hje
                clear hje hd
                go_wp2_with (first | (go_at_call 12; refine (get_yes qb mb v L k _ HK.out HQ5.out hL5 hj HJ.out).mono ?_; rintro e W5 ⟨rfl, hT5⟩; obtain ⟨_, _, a0, a1, a2⟩ := keep3 hT5 a0 a1 a2; have HT5 := Hd.mk hT5; clear hT5))
                go_roundg (xa.length - i)
                case measure => omega
                case rel => exact ⟨i + 1, by go_num, by omega, by omega, ⟨HTG.out.then_ HT5.out (fun _ h => h.elim)⟩⟩
              · have f1 : decide (k.d > day) = false := decide_eq_false (by omega)
                have HNO := Hd.mk hno
                clear hno hd
                go_wp2_with (first | (go_at_call 12; refine (get_no qb mb v L k _ HK.out HQ5.out hL5 HNO.out).mono ?_; rintro e W5 ⟨rfl, hT5⟩; obtain ⟨_, _, a0, a1, a2⟩ := keep3 hT5 a0 a1 a2; have HT5 := Hd.mk hT5; clear hT5))
                go_roundg (xa.length - i)
                case measure => omega
                case rel => exact ⟨i + 1, by go_num, by omega, by omega, ⟨HTG.out.then_ HT5.out (fun _ h => h.elim)⟩⟩
            · have c3' : decide ((i : Int) < (xa.length : Int)) = false := decide_eq_false (by omega)
              go_wp2
              go_ret
              have hall := (HT10.out.then_ HT4.out (fun q h => .inr (h.elim (fun h => by rw [h]; exact HB2.out.1) (fun h => h.elim (fun h => by rw [h]; exact HB2.out.2.1) (fun h => h.elim (HB2.out.2.2 q) (fun h => by rw [h]; exact HLN.out.2.2.2)))))).then_ HTG.out (fun _ h => h.elim)
              exact ⟨rfl, hall.below (Nat.le_refl _) (fun _ h => h.elim)⟩
end Go.Proofs.Ytkbbngkfncbgkaa.IQSorts
