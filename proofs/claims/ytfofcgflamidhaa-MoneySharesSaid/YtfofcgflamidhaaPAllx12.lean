-- Laid by wip/myprint.py, a driver over the kit's print, for this claim: a lemma's text, not read by a person.
import Derived.Test.YtfofcgflamidhaaPAllx0
import Derived.Test.YtfofcgflamidhaaPAllx1
import Derived.Test.YtfofcgflamidhaaPAllx9
import Derived.Test.YtfofcgflamidhaaPAllx11
namespace Go.Proofs.Ytfofcgflamidhaa.PAll
open Go.RowKit Go.Proofs.YtfofcgflamidhaaW.PrintWords Go.Proofs.YtfofcgflamidhaaW.PrintLast Go.Proofs.YtfofcgflamidhaaW.PrintMore
attribute [local go_sem] max2_int min2_int max_two min_two max_three min_three max_four min_four   -- for this text's walks alone
set_option linter.unusedVariables false
set_option linter.unusedSimpArgs false

attribute [local go_sem] run_ad64
/-! ### arrearslaw1_MoneyShares: function 10 -/
mutual
def arrearslaw1_MoneyShares.j0 : Nat → Int → List Int → Bool → Option (Bool)
  | 0, _, _, _ => none
  | k + 1, x0, x1, x40 => if x40 = true then (some false) else (if (x1.length : Int) > 4096 then (some true) else ((arrearslaw1_copied.f k x1).bind fun t388 => ((money_Split.f k x0 t388).bind fun bt391 => (if bt391.2 = true then (if (bt391.1.length : Int) = (x1.length : Int) then (arrearslaw1_MoneyShares.l0 k x1 bt391.1 x0 0) else (some false)) else (some ((bt391.1.length : Int) == 0))))))
def arrearslaw1_MoneyShares.l0 : Nat → List Int → List Int → Int → Int → Option (Bool)
  | 0, _, _, _, _ => none
  | k + 1, x1, x7, x8, x9 => if x9 < (x7.length : Int) then (if 0 ≤ x9 then (if (rd x7 x9) < 0 then (some false) else (if (rd x7 x9) > x8 then (some false) else (if x9 < (x1.length : Int) then (if (rd x1 x9) = 0 then (if (rd x7 x9) = 0 then (arrearslaw1_MoneyShares.l0 k x1 x7 (wrap64 (x8 - (rd x7 x9))) (wrap64 (x9 + 1))) else (some false)) else (arrearslaw1_MoneyShares.l0 k x1 x7 (wrap64 (x8 - (rd x7 x9))) (wrap64 (x9 + 1)))) else (none)))) else (none)) else (if x8 = 0 then ((arrearslaw1_fair.f k x7 x1).bind fun t401 => (some t401)) else (some false))
end
def arrearslaw1_MoneyShares.f (k : Nat) (a0 : Int) (l1 : List Int) : Option (Bool) := (money_Split.f k a0 (([1] : List Int))).bind fun bt383 => (if a0 ≥ 0 then (if bt383.2 = true then (if (bt383.1.length : Int) = 1 then (if 0 < (bt383.1.length : Int) then (if (rd bt383.1 0) = a0 then (if a0 < 0 then (arrearslaw1_MoneyShares.j0 k a0 l1 bt383.2) else (arrearslaw1_MoneyShares.j0 k a0 l1 false)) else (arrearslaw1_MoneyShares.j0 k a0 l1 true)) else (none)) else (arrearslaw1_MoneyShares.j0 k a0 l1 true)) else (arrearslaw1_MoneyShares.j0 k a0 l1 true)) else (if a0 < 0 then (arrearslaw1_MoneyShares.j0 k a0 l1 bt383.2) else (arrearslaw1_MoneyShares.j0 k a0 l1 false)))
theorem arrearslaw1_MoneyShares.mono_l : ∀ k, (∀ y0 y1 y2, LeO (arrearslaw1_MoneyShares.j0 k y0 y1 y2) (arrearslaw1_MoneyShares.j0 (k + 1) y0 y1 y2)) ∧ (∀ y0 y1 y2 y3, LeO (arrearslaw1_MoneyShares.l0 k y0 y1 y2 y3) (arrearslaw1_MoneyShares.l0 (k + 1) y0 y1 y2 y3))
  | 0 => ⟨fun _ _ _ r h => by simp [arrearslaw1_MoneyShares.j0] at h, fun _ _ _ _ r h => by simp [arrearslaw1_MoneyShares.l0] at h⟩
  | k + 1 => by
    obtain ⟨ih0, ih1⟩ := arrearslaw1_MoneyShares.mono_l k
    refine ⟨?_, ?_⟩
    · intro y0 y1 y2
      unfold arrearslaw1_MoneyShares.j0
      repeat' first
      | (with_reducible exact ih0 _ _ _)
      | (with_reducible exact ih1 _ _ _ _)
      | (with_reducible exact arrearslaw1_copied.mono _ _)
      | (with_reducible exact arrearslaw1_fair.mono _ _ _)
      | (with_reducible exact money_Split.mono _ _ _)
      | (with_reducible exact LeO.refl _)
      | (with_reducible exact LeO.none _)
      | (with_reducible refine LeO.ite ?_ ?_)
      | (with_reducible refine LeO.bind ?_ (fun _ => ?_))
      | exact ih0 _ _ _
      | exact ih1 _ _ _ _
      | exact arrearslaw1_copied.mono _ _
      | exact arrearslaw1_fair.mono _ _ _
      | exact money_Split.mono _ _ _
      | exact LeO.none _
      | refine LeO.ite ?_ ?_
      | refine LeO.bind ?_ (fun _ => ?_)
    · intro y0 y1 y2 y3
      unfold arrearslaw1_MoneyShares.l0
      repeat' first
      | (with_reducible exact ih0 _ _ _)
      | (with_reducible exact ih1 _ _ _ _)
      | (with_reducible exact arrearslaw1_copied.mono _ _)
      | (with_reducible exact arrearslaw1_fair.mono _ _ _)
      | (with_reducible exact money_Split.mono _ _ _)
      | (with_reducible exact LeO.refl _)
      | (with_reducible exact LeO.none _)
      | (with_reducible refine LeO.ite ?_ ?_)
      | (with_reducible refine LeO.bind ?_ (fun _ => ?_))
      | exact ih0 _ _ _
      | exact ih1 _ _ _ _
      | exact arrearslaw1_copied.mono _ _
      | exact arrearslaw1_fair.mono _ _ _
      | exact money_Split.mono _ _ _
      | exact LeO.none _
      | refine LeO.ite ?_ ?_
      | refine LeO.bind ?_ (fun _ => ?_)
theorem arrearslaw1_MoneyShares.mono : ∀ a0 a1 k, LeO (arrearslaw1_MoneyShares.f k a0 a1) (arrearslaw1_MoneyShares.f (k + 1) a0 a1) := by
  intro a0 a1 k
  obtain ⟨ih0, ih1⟩ := arrearslaw1_MoneyShares.mono_l k
  unfold arrearslaw1_MoneyShares.f
  repeat' first
      | (with_reducible exact ih0 _ _ _)
      | (with_reducible exact ih1 _ _ _ _)
      | (with_reducible exact arrearslaw1_copied.mono _ _)
      | (with_reducible exact arrearslaw1_fair.mono _ _ _)
      | (with_reducible exact money_Split.mono _ _ _)
      | (with_reducible exact LeO.refl _)
      | (with_reducible exact LeO.none _)
      | (with_reducible refine LeO.ite ?_ ?_)
      | (with_reducible refine LeO.bind ?_ (fun _ => ?_))
      | exact ih0 _ _ _
      | exact ih1 _ _ _ _
      | exact arrearslaw1_copied.mono _ _
      | exact arrearslaw1_fair.mono _ _ _
      | exact money_Split.mono _ _ _
      | exact LeO.none _
      | refine LeO.ite ?_ ?_
      | refine LeO.bind ?_ (fun _ => ?_)
set_option maxHeartbeats 8000000 in
set_option maxRecDepth 100000 in
theorem arrearslaw1_MoneyShares.calls (k : Nat) (a0 : Int) (A1 : Option Addr) (c1 : Nat) (l1 : List Int) (r : Bool) (w : World) (hr1 : Kd.C (Kd.int .i64) w A1 l1.length l1) (hc1 : l1.length ≤ c1) (h : arrearslaw1_MoneyShares.f k a0 l1 = some r) :
    Calls Try.prog 10 #[.int .i64 a0, .slice A1 l1.length c1] w fun e w' => e = .returned (.bool r) ∧ Below w.heap.size w w' := by
  have HR1 := Aside0.mk hr1
  have HC1 := Aside0.mk hc1
  clear hr1 hc1
  have HB := Aside0.mk (Below.refl w.heap.size w)
  have H : ((money_Split.f k a0 (([1] : List Int))).bind fun bt383 => (if a0 ≥ 0 then (if bt383.2 = true then (if (bt383.1.length : Int) = 1 then (if 0 < (bt383.1.length : Int) then (if (rd bt383.1 0) = a0 then (if a0 < 0 then (arrearslaw1_MoneyShares.j0 k a0 l1 bt383.2) else (arrearslaw1_MoneyShares.j0 k a0 l1 false)) else (arrearslaw1_MoneyShares.j0 k a0 l1 true)) else (none)) else (arrearslaw1_MoneyShares.j0 k a0 l1 true)) else (arrearslaw1_MoneyShares.j0 k a0 l1 true)) else (if a0 < 0 then (arrearslaw1_MoneyShares.j0 k a0 l1 bt383.2) else (arrearslaw1_MoneyShares.j0 k a0 l1 false)))) = some r := h
  clear h
  obtain ⟨y380, hy380⟩ : ∃ y_ : List Int, y_ = (([1] : List Int)) := ⟨_, rfl⟩
  replace H : ((money_Split.f k a0 y380).bind fun bt383 => (if a0 ≥ 0 then (if bt383.2 = true then (if (bt383.1.length : Int) = 1 then (if 0 < (bt383.1.length : Int) then (if (rd bt383.1 0) = a0 then (if a0 < 0 then (arrearslaw1_MoneyShares.j0 k a0 l1 bt383.2) else (arrearslaw1_MoneyShares.j0 k a0 l1 false)) else (arrearslaw1_MoneyShares.j0 k a0 l1 true)) else (none)) else (arrearslaw1_MoneyShares.j0 k a0 l1 true)) else (arrearslaw1_MoneyShares.j0 k a0 l1 true)) else (if a0 < 0 then (arrearslaw1_MoneyShares.j0 k a0 l1 bt383.2) else (arrearslaw1_MoneyShares.j0 k a0 l1 false)))) = some r := by first | (rw [hy380]; with_reducible exact H) | (have H2_ := (Option.bind_some _ _).symm.trans H; rw [hy380]; with_reducible exact H2_) | (have H2_ := (Option.bind_some _ _).symm.trans H; with_reducible exact H2_) | with_reducible exact H | (rw [hy380]; exact H) | exact H
  have Ny380 := Aside0.mk hy380
  clear hy380
  replace H := Option.bind_eq_some_iff.mp H
  obtain ⟨⟨t383, t384⟩, A30, H⟩ := H
  replace H : (if a0 ≥ 0 then (if t384 = true then (if (t383.length : Int) = 1 then (if 0 < (t383.length : Int) then (if (rd t383 0) = a0 then (if a0 < 0 then (arrearslaw1_MoneyShares.j0 k a0 l1 t384) else (arrearslaw1_MoneyShares.j0 k a0 l1 false)) else (arrearslaw1_MoneyShares.j0 k a0 l1 true)) else (none)) else (arrearslaw1_MoneyShares.j0 k a0 l1 true)) else (arrearslaw1_MoneyShares.j0 k a0 l1 true)) else (if a0 < 0 then (arrearslaw1_MoneyShares.j0 k a0 l1 t384) else (arrearslaw1_MoneyShares.j0 k a0 l1 false))) = some r := H
  have A3 := Aside0.mk A30
  clear A30
  have HC4 := Aside0.mk H
  clear H
  go_enter Try.func10, Try.ntmps10
  go_upto_region 2 with (first | ((with_reducible refine gate_dst (N := 12) rfl ?_); (try (refine gate_guard (by rfl) ?_; dsimp only)); refine Kd.R_lit (Kd.int .i64) _ 2 ?hg (N := 12) ?hd (xs := ([1] : List Int)) (inner := [.int .i64 1]) (ok := fun _ => True) (okp := fun _ => True) ?hr ?hp (fun _ hk => hk) trivial (Below.refl _ _) (Nat.le_refl _) (by simp) ?_; (case hd => rfl); (case hg => rfl); (case hr => first | (go_simp; done) | (go_simp; rfl)); (case hp => exact (Reps.one (show Kd.M (Kd.int .i64) _ _ _ 1 [.int .i64 1] from rfl) (Reps.none _ _))); intro v381 w5 ho6 hb hg_ hnew_; clear hg_ hnew_; (first | rw [← Ny380.out] at ho6 | (simp only [Int.reduceToNat] at ho6; rw [← Ny380.out] at ho6)); have n0_ := Aside0.mk (Kd.R_lower ho6 (below_size (by repeat (first | (with_reducible first | exact HB.out | apply below_alloc | apply pw_below_drewN | apply below_drew1) | exact HB.out)))); have n1_ := Aside0.mk (below_step (by repeat (first | (with_reducible first | exact HB.out | apply below_alloc | apply pw_below_drewN | apply below_drew1) | exact HB.out)) hb); clear HB; have HO382 := n0_; have HB := n1_; clear n0_ n1_; clear hb ho6; obtain ⟨Ao7, co7, eo7⟩ := Kd.R_slice HO382.out; subst eo7) | ((with_reducible refine gate_callee (f := 25) rfl ?_); refine goesL_ (some 13) rfl rfl Try.func25 (by kernel_rfl) rfl #[.int .i64 a0, .slice Ao7 y380.length co7] rfl (by (try simp only [List.map_toArray, List.map_cons, List.map_nil]); first | done | rfl | (simp only [List.length_drop, List.length_take]; rfl)) ?_; (with_reducible refine (money_Split.calls k a0 _ _ y380 t383 t384 _ ?side1 ?side2 A3.out).mono ?_); (case side1 => repeat (first | exact (Kd.R_reads' HO382.out).2.2 | (with_reducible refine Kd.C_alloc ?_ _) | (with_reducible refine Kd.C_drewN ?_ _) | (with_reducible refine Kd.C_drew ?_))); (case side2 => exact (Kd.R_reads' HO382.out).2.1); rintro e w8 ⟨v385, rfl, ho0, hb⟩; refine ⟨_, rfl, ?_⟩; have n0_ := Aside0.mk (Kd.R_elder' (by (with_reducible repeat (first | apply Kd.R_alloc | apply Kd.R_drewN | apply Kd.R_drew)); exact HO382.out) (Kd.R_base ho0) hb); have n1_ := Aside0.mk (Kd.R_lower (Kd.R_new' ho0 (Kd.R_lt (by (with_reducible repeat (first | apply Kd.R_alloc | apply Kd.R_drewN | apply Kd.R_drew)); exact HO382.out))) (below_size (by repeat (first | (with_reducible first | exact HB.out | apply below_alloc | apply pw_below_drewN | apply below_drew1) | exact HB.out)))); have n2_ := Aside0.mk (below_step (by repeat (first | (with_reducible first | exact HB.out | apply below_alloc | apply pw_below_drewN | apply below_drew1) | exact HB.out)) hb); clear HO382; clear HB; have HO382 := n0_; have HO386 := n1_; have HB := n2_; clear n0_ n1_ n2_; (try clear hb); (try clear hb2); (try clear hk); (try clear hi); (try clear ho0)))
  (try simp only [Act.put, List.setIfInBounds_toArray, List.set_cons_zero, List.set_cons_succ])
  go_cut [40] (fun v40 wc => ∃ (kq : Nat) (x40_3 : Bool), v40 = .bool x40_3 ∧ Aside0 (arrearslaw1_MoneyShares.j0 kq a0 l1 x40_3 = some r) ∧ Aside0 (kq ≤ k) ∧ Aside0 (Below w.heap.size w wc))
  case first =>
    have H := HC4.out
    clear HC4
    by_cases c9 : a0 ≥ 0
    · rw [if_pos c9] at H
      have c9b0 : decide (0 ≤ a0) = true := decide_eq_true c9
      clear c9
      (first | rw [c9b0] | (simp only [i64_w, i32_w]; rw [c9b0]) | skip)
      by_cases c10 : t384 = true
      · subst c10
        have H1 : (if (t383.length : Int) = 1 then (if 0 < (t383.length : Int) then (if (rd t383 0) = a0 then (if a0 < 0 then (arrearslaw1_MoneyShares.j0 k a0 l1 true) else (arrearslaw1_MoneyShares.j0 k a0 l1 false)) else (arrearslaw1_MoneyShares.j0 k a0 l1 true)) else (none)) else (arrearslaw1_MoneyShares.j0 k a0 l1 true)) = some r := by rw [if_pos rfl] at H; exact H
        clear H
        have H := H1
        clear H1
        by_cases c11 : (t383.length : Int) = 1
        · rw [if_pos c11] at H
          have c11b0 : ((t383.length : Int) == 1) = true := beq_iff_eq.mpr c11
          have c11b1 : ((t383.length : Int) != 1) = false := bne_eq_false_iff_eq.mpr c11
          clear c11
          by_cases c12 : 0 < (t383.length : Int)
          · rw [if_pos c12] at H
            have c12b0 : decide (0 < (t383.length : Int)) = true := decide_eq_true c12
            have c12b1 : decide (0 < t383.length) = true := decide_eq_true (by omega)
            clear c12
            by_cases c13 : (rd t383 0) = a0
            · rw [if_pos c13] at H
              have c13b0 : ((rd t383 0) == a0) = true := beq_iff_eq.mpr c13
              have c13b1 : ((rd t383 0) != a0) = false := bne_eq_false_iff_eq.mpr c13
              clear c13
              by_cases c14 : a0 < 0
              · rw [if_pos c14] at H
                have c14b0 : decide (a0 < 0) = true := decide_eq_true c14
                clear c14
                have H' := Aside0.mk H
                clear H
                obtain ⟨Ao15, co15, eo15⟩ := Kd.R_slice HO386.out
                subst eo15
                have p387 : 0 ≤ (0 : Int) := (by omega)
                have q387 : 0 < (t383.length : Int) := of_decide_eq_true (by first | (with_reducible assumption) | assumption)
                obtain ⟨ad387, e387, hx387_0⟩ := Kd.at_int (Kd.R_reads' HO386.out).2.2 0 p387 q387
                cases e387
                have qi387 : (0 < t383.length) = True := eq_true (by omega)
                (try rw [show ((0 : Int)).toNat = 0 from rfl] at hx387_0)
                (try rw [Addr.add_zero'] at hx387_0)
                replace p387 := eq_true p387
                replace q387 := eq_true q387
                go_wp2
                go_meet
                case rel => exact ⟨_, (true), (by first | rfl | (simp; done) | (simp [*]; done)), H', ⟨by first | omega | exact Nat.le_refl _⟩, ⟨by repeat (first | (with_reducible first | exact HB.out | apply below_alloc | apply pw_below_drewN | apply below_drew1) | exact HB.out)⟩⟩
              · rw [if_neg c14] at H
                have c14b0 : decide (a0 < 0) = false := decide_eq_false c14
                clear c14
                have H' := Aside0.mk H
                clear H
                obtain ⟨Ao16, co16, eo16⟩ := Kd.R_slice HO386.out
                subst eo16
                have p387 : 0 ≤ (0 : Int) := (by omega)
                have q387 : 0 < (t383.length : Int) := of_decide_eq_true (by first | (with_reducible assumption) | assumption)
                obtain ⟨ad387, e387, hx387_0⟩ := Kd.at_int (Kd.R_reads' HO386.out).2.2 0 p387 q387
                cases e387
                have qi387 : (0 < t383.length) = True := eq_true (by omega)
                (try rw [show ((0 : Int)).toNat = 0 from rfl] at hx387_0)
                (try rw [Addr.add_zero'] at hx387_0)
                replace p387 := eq_true p387
                replace q387 := eq_true q387
                go_wp2
                go_meet
                case rel => exact ⟨_, (false), (by first | rfl | (simp; done) | (simp [*]; done)), H', ⟨by first | omega | exact Nat.le_refl _⟩, ⟨by repeat (first | (with_reducible first | exact HB.out | apply below_alloc | apply pw_below_drewN | apply below_drew1) | exact HB.out)⟩⟩
            · rw [if_neg c13] at H
              have c13b0 : ((rd t383 0) == a0) = false := beq_eq_false_iff_ne.mpr c13
              have c13b1 : ((rd t383 0) != a0) = true := bne_iff_ne.mpr c13
              have H' := Aside0.mk H
              clear H
              obtain ⟨Ao17, co17, eo17⟩ := Kd.R_slice HO386.out
              subst eo17
              have p387 : 0 ≤ (0 : Int) := (by omega)
              have q387 : 0 < (t383.length : Int) := of_decide_eq_true (by first | (with_reducible assumption) | assumption)
              obtain ⟨ad387, e387, hx387_0⟩ := Kd.at_int (Kd.R_reads' HO386.out).2.2 0 p387 q387
              cases e387
              have qi387 : (0 < t383.length) = True := eq_true (by omega)
              (try rw [show ((0 : Int)).toNat = 0 from rfl] at hx387_0)
              (try rw [Addr.add_zero'] at hx387_0)
              replace p387 := eq_true p387
              replace q387 := eq_true q387
              go_wp2
              go_meet
              case rel => exact ⟨_, (true), (by first | rfl | (simp; done) | (simp [*]; done)), H', ⟨by first | omega | exact Nat.le_refl _⟩, ⟨by repeat (first | (with_reducible first | exact HB.out | apply below_alloc | apply pw_below_drewN | apply below_drew1) | exact HB.out)⟩⟩
          · rw [if_neg c12] at H
            exact absurd H (by simp)
        · rw [if_neg c11] at H
          have c11b0 : ((t383.length : Int) == 1) = false := beq_eq_false_iff_ne.mpr c11
          have c11b1 : ((t383.length : Int) != 1) = true := bne_iff_ne.mpr c11
          have H' := Aside0.mk H
          clear H
          obtain ⟨Ao18, co18, eo18⟩ := Kd.R_slice HO386.out
          subst eo18
          go_wp2
          go_meet
          case rel => exact ⟨_, (true), (by first | rfl | (simp; done) | (simp [*]; done)), H', ⟨by first | omega | exact Nat.le_refl _⟩, ⟨by repeat (first | (with_reducible first | exact HB.out | apply below_alloc | apply pw_below_drewN | apply below_drew1) | exact HB.out)⟩⟩
      · replace c10 := Bool.eq_false_iff.mpr c10
        subst c10
        have H1 : (arrearslaw1_MoneyShares.j0 k a0 l1 true) = some r := by rw [if_neg (show ¬ (false = true) by decide)] at H; exact H
        clear H
        have H := H1
        clear H1
        have H' := Aside0.mk H
        clear H
        go_wp2
        go_meet
        case rel => exact ⟨_, (true), (by first | rfl | (simp; done) | (simp [*]; done)), H', ⟨by first | omega | exact Nat.le_refl _⟩, ⟨by repeat (first | (with_reducible first | exact HB.out | apply below_alloc | apply pw_below_drewN | apply below_drew1) | exact HB.out)⟩⟩
    · rw [if_neg c9] at H
      have c9b0 : decide (0 ≤ a0) = false := decide_eq_false c9
      clear c9
      (first | rw [c9b0] | (simp only [i64_w, i32_w]; rw [c9b0]) | skip)
      by_cases c19 : a0 < 0
      · rw [if_pos c19] at H
        have c19b0 : decide (a0 < 0) = true := decide_eq_true c19
        clear c19
        have H' := Aside0.mk H
        clear H
        go_wp2
        go_meet
        case rel => exact ⟨_, (t384), (by first | rfl | (simp; done) | (simp [*]; done)), H', ⟨by first | omega | exact Nat.le_refl _⟩, ⟨by repeat (first | (with_reducible first | exact HB.out | apply below_alloc | apply pw_below_drewN | apply below_drew1) | exact HB.out)⟩⟩
      · rw [if_neg c19] at H
        have c19b0 : decide (a0 < 0) = false := decide_eq_false c19
        clear c19
        have H' := Aside0.mk H
        clear H
        go_wp2
        go_meet
        case rel => exact ⟨_, (false), (by first | rfl | (simp; done) | (simp [*]; done)), H', ⟨by first | omega | exact Nat.le_refl _⟩, ⟨by repeat (first | (with_reducible first | exact HB.out | apply below_alloc | apply pw_below_drewN | apply below_drew1) | exact HB.out)⟩⟩
  case rest =>
    clear HC4
    try clear c1
    try clear c2
    try clear p2
    try clear p3
    try clear q3
    try clear hx3
    try clear qi3
    try clear c9
    try clear c9b0
    try clear c10
    try clear c11
    try clear c11b0
    try clear c11b1
    try clear c12
    try clear c12b0
    try clear c12b1
    try clear c13
    try clear c13b0
    try clear c13b1
    try clear c14
    try clear c14b0
    try clear c19
    try clear c19b0
    try clear hx387_0
    try clear p387
    try clear q387
    obtain ⟨kq, x40_3, rfl, HA, HJ3, HB⟩ := hcut
    cases kq with
    | zero => exact absurd HA.out (by simp [arrearslaw1_MoneyShares.j0])
    | succ kj3 =>
      have H := HA.out
      clear HA
      simp only [arrearslaw1_MoneyShares.j0] at H
      by_cases c20 : x40_3 = true
      · subst c20
        have H1 : (some false) = some r := by rw [if_pos rfl] at H; exact H
        clear H
        have H := H1
        clear H1
        obtain rfl := Option.some.inj H
        go_wp2
        go_ret
        exact ⟨by first | rfl | (simp [errW_none, errW_some] <;> rfl) | (simp [*, errW_none, errW_some] <;> rfl), by repeat (first | (with_reducible first | exact HB.out | apply below_alloc | apply pw_below_drewN | apply below_drew1) | exact HB.out)⟩
      · replace c20 := Bool.eq_false_iff.mpr c20
        subst c20
        have H1 : (if (l1.length : Int) > 4096 then (some true) else ((arrearslaw1_copied.f kj3 l1).bind fun t388 => ((money_Split.f kj3 a0 t388).bind fun bt391 => (if bt391.2 = true then (if (bt391.1.length : Int) = (l1.length : Int) then (arrearslaw1_MoneyShares.l0 kj3 l1 bt391.1 a0 0) else (some false)) else (some ((bt391.1.length : Int) == 0)))))) = some r := by rw [if_neg (show ¬ (false = true) by decide)] at H; exact H
        clear H
        have H := H1
        clear H1
        by_cases c21 : (l1.length : Int) > 4096
        · rw [if_pos c21] at H
          have c21b0 : decide (4096 < (l1.length : Int)) = true := decide_eq_true c21
          have c21b1 : decide (4096 < l1.length) = true := decide_eq_true (by omega)
          clear c21
          obtain rfl := Option.some.inj H
          go_wp2
          go_ret
          exact ⟨by first | rfl | (simp [errW_none, errW_some] <;> rfl) | (simp [*, errW_none, errW_some] <;> rfl), by repeat (first | (with_reducible first | exact HB.out | apply below_alloc | apply pw_below_drewN | apply below_drew1) | exact HB.out)⟩
        · rw [if_neg c21] at H
          have c21b0 : decide (4096 < (l1.length : Int)) = false := decide_eq_false c21
          have c21b1 : decide (4096 < l1.length) = false := decide_eq_false (by omega)
          clear c21
          replace H := Option.bind_eq_some_iff.mp H
          obtain ⟨t388, A220, H⟩ := H
          replace H : ((money_Split.f kj3 a0 t388).bind fun bt391 => (if bt391.2 = true then (if (bt391.1.length : Int) = (l1.length : Int) then (arrearslaw1_MoneyShares.l0 kj3 l1 bt391.1 a0 0) else (some false)) else (some ((bt391.1.length : Int) == 0)))) = some r := H
          have A22 := Aside0.mk A220
          clear A220
          replace H := Option.bind_eq_some_iff.mp H
          obtain ⟨⟨t391, t392⟩, A230, H⟩ := H
          replace H : (if t392 = true then (if (t391.length : Int) = (l1.length : Int) then (arrearslaw1_MoneyShares.l0 kj3 l1 t391 a0 0) else (some false)) else (some ((t391.length : Int) == 0))) = some r := H
          have A23 := Aside0.mk A230
          clear A230
          by_cases c24 : t392 = true
          · subst c24
            have H1 : (if (t391.length : Int) = (l1.length : Int) then (arrearslaw1_MoneyShares.l0 kj3 l1 t391 a0 0) else (some false)) = some r := by rw [if_pos rfl] at H; exact H
            clear H
            have H := H1
            clear H1
            by_cases c25 : (t391.length : Int) = (l1.length : Int)
            · rw [if_pos c25] at H
              have c25b0 : ((t391.length : Int) == (l1.length : Int)) = true := beq_iff_eq.mpr c25
              have c25b1 : ((t391.length : Int) != (l1.length : Int)) = false := bne_eq_false_iff_eq.mpr c25
              have c25b2 : (t391.length == l1.length) = true := by first | simpa using c25 | (simp at c25 ⊢; omega)
              clear c25
              have H' := Aside0.mk H
              clear H
              go_wp2_with (first | ((with_reducible refine gate_callee (f := 12) rfl ?_); refine goesL_ (some 47) rfl rfl Try.func12 (by kernel_rfl) rfl #[.slice A1 l1.length c1] rfl (by (try simp only [List.map_toArray, List.map_cons, List.map_nil]); first | done | rfl | (simp only [List.length_drop, List.length_take]; rfl)) ?_; (with_reducible refine (arrearslaw1_copied.calls kj3 _ _ l1 t388 _ ?side1 ?side2 A22.out).mono ?_); (case side1 => repeat (first | exact (Kd.C_below HR1.out HB.out) | (with_reducible refine Kd.C_alloc ?_ _) | (with_reducible refine Kd.C_drewN ?_ _) | (with_reducible refine Kd.C_drew ?_))); (case side2 => exact HC1.out); rintro e w26 ⟨v389, rfl, ho0, hb⟩; refine ⟨_, rfl, ?_⟩; have n0_ := Aside0.mk (Kd.R_lower ho0 (below_size (by repeat (first | (with_reducible first | exact HB.out | apply below_alloc | apply pw_below_drewN | apply below_drew1) | exact HB.out)))); have n1_ := Aside0.mk (below_step (by repeat (first | (with_reducible first | exact HB.out | apply below_alloc | apply pw_below_drewN | apply below_drew1) | exact HB.out)) hb); clear HB; have HO390 := n0_; have HB := n1_; clear n0_ n1_; (try clear hb); (try clear hb2); (try clear hk); (try clear hi); (try clear ho0); obtain ⟨Ao27, co27, eo27⟩ := Kd.R_slice HO390.out; subst eo27) | ((with_reducible refine gate_callee (f := 25) rfl ?_); refine goesL_ (some 48) rfl rfl Try.func25 (by kernel_rfl) rfl #[.int .i64 a0, .slice Ao27 t388.length co27] rfl (by (try simp only [List.map_toArray, List.map_cons, List.map_nil]); first | done | rfl | (simp only [List.length_drop, List.length_take]; rfl)) ?_; (with_reducible refine (money_Split.calls kj3 a0 _ _ t388 t391 true _ ?side1 ?side2 A23.out).mono ?_); (case side1 => repeat (first | exact (Kd.R_reads' HO390.out).2.2 | (with_reducible refine Kd.C_alloc ?_ _) | (with_reducible refine Kd.C_drewN ?_ _) | (with_reducible refine Kd.C_drew ?_))); (case side2 => exact (Kd.R_reads' HO390.out).2.1); rintro e w28 ⟨v393, rfl, ho0, hb⟩; refine ⟨_, rfl, ?_⟩; have n0_ := Aside0.mk (Kd.R_elder' (by (with_reducible repeat (first | apply Kd.R_alloc | apply Kd.R_drewN | apply Kd.R_drew)); exact HO390.out) (Kd.R_base ho0) hb); have n1_ := Aside0.mk (Kd.R_lower (Kd.R_new' ho0 (Kd.R_lt (by (with_reducible repeat (first | apply Kd.R_alloc | apply Kd.R_drewN | apply Kd.R_drew)); exact HO390.out))) (below_size (by repeat (first | (with_reducible first | exact HB.out | apply below_alloc | apply pw_below_drewN | apply below_drew1) | exact HB.out)))); have n2_ := Aside0.mk (below_step (by repeat (first | (with_reducible first | exact HB.out | apply below_alloc | apply pw_below_drewN | apply below_drew1) | exact HB.out)) hb); clear HO390; clear HB; have HO390 := n0_; have HO394 := n1_; have HB := n2_; clear n0_ n1_ n2_; (try clear hb); (try clear hb2); (try clear hk); (try clear hi); (try clear ho0); obtain ⟨Ao29, co29, eo29⟩ := Kd.R_slice HO394.out; subst eo29))
              go_loopg [8, 9] kj3 (fun kq v8 v9 w' => ∃ (x8_2 : Int) (x9_2 : Int), v8 = .int .i64 x8_2 ∧ v9 = .int .i64 x9_2 ∧ Aside0 (arrearslaw1_MoneyShares.l0 kq l1 t391 x8_2 x9_2 = some r) ∧ Aside0 (kq ≤ kj3) ∧ Aside0 (Kd.R (Kd.int .i64) 2 w' w.heap.size (fun _ => True) (.slice Ao29 t391.length co29) t391) ∧ Aside0 (Below w.heap.size w w'))
              case atStart => exact ⟨(a0), (0), (by first | rfl | (simp; done) | (simp [*]; done)), (by first | rfl | (simp; done) | (simp [*]; done)), H', ⟨Nat.le_refl _⟩, ⟨by (with_reducible repeat (first | apply Kd.R_alloc | apply Kd.R_drewN | apply Kd.R_drew)); exact Kd.R_mono HO394.out (fun _ hk => trivial)⟩, ⟨by repeat (first | (with_reducible first | exact HB.out | apply below_alloc | apply pw_below_drewN | apply below_drew1) | exact HB.out)⟩⟩
              case round =>
                clear H'
                try clear c1
                try clear c2
                try clear p2
                try clear p3
                try clear q3
                try clear hx3
                try clear qi3
                try clear c9
                try clear c9b0
                try clear c10
                try clear c11
                try clear c11b0
                try clear c11b1
                try clear c12
                try clear c12b0
                try clear c12b1
                try clear c13
                try clear c13b0
                try clear c13b1
                try clear c14
                try clear c14b0
                try clear c19
                try clear c19b0
                try clear c20
                try clear c21
                try clear c21b0
                try clear c21b1
                try clear c24
                try clear c25
                try clear c25b0
                try clear c25b1
                try clear c25b2
                try clear hx387_0
                try clear p2
                try clear p3
                try clear p387
                try clear q3
                try clear q387
                obtain ⟨x8_2, x9_2, rfl, rfl, HA, HK2, HO_7, HB⟩ := hrel
                cases gk with
                | zero => exact absurd HA.out (by simp [arrearslaw1_MoneyShares.l0])
                | succ k2 =>
                  have H := HA.out
                  clear HA
                  simp only [arrearslaw1_MoneyShares.l0] at H
                  by_cases c30 : x9_2 < (t391.length : Int)
                  · rw [if_pos c30] at H
                    have c30b0 : decide (x9_2 < (t391.length : Int)) = true := decide_eq_true c30
                    clear c30
                    by_cases c31 : 0 ≤ x9_2
                    · rw [if_pos c31] at H
                      have c31b0 : decide (0 ≤ x9_2) = true := decide_eq_true c31
                      clear c31
                      by_cases c32 : (rd t391 x9_2) < 0
                      · rw [if_pos c32] at H
                        have c32b0 : decide ((rd t391 x9_2) < 0) = true := decide_eq_true c32
                        clear c32
                        obtain rfl := Option.some.inj H
                        have p395 : 0 ≤ (x9_2 : Int) := of_decide_eq_true (by first | (with_reducible assumption) | assumption)
                        have q395 : x9_2 < (t391.length : Int) := of_decide_eq_true (by first | (with_reducible assumption) | assumption)
                        obtain ⟨ad395, e395, hx395_0⟩ := Kd.at_int (Kd.R_reads' HO_7.out).2.2 x9_2 p395 q395
                        cases e395
                        replace p395 := eq_true p395
                        replace q395 := eq_true q395
                        go_wp2
                        go_ret
                        exact ⟨by first | rfl | (simp [errW_none, errW_some] <;> rfl) | (simp [*, errW_none, errW_some] <;> rfl), by repeat (first | (with_reducible first | exact HB.out | apply below_alloc | apply pw_below_drewN | apply below_drew1) | exact HB.out)⟩
                      · rw [if_neg c32] at H
                        have c32b0 : decide ((rd t391 x9_2) < 0) = false := decide_eq_false c32
                        clear c32
                        by_cases c33 : (rd t391 x9_2) > x8_2
                        · rw [if_pos c33] at H
                          have c33b0 : decide (x8_2 < (rd t391 x9_2)) = true := decide_eq_true c33
                          clear c33
                          obtain rfl := Option.some.inj H
                          have p395 : 0 ≤ (x9_2 : Int) := of_decide_eq_true (by first | (with_reducible assumption) | assumption)
                          have q395 : x9_2 < (t391.length : Int) := of_decide_eq_true (by first | (with_reducible assumption) | assumption)
                          obtain ⟨ad395, e395, hx395_0⟩ := Kd.at_int (Kd.R_reads' HO_7.out).2.2 x9_2 p395 q395
                          cases e395
                          replace p395 := eq_true p395
                          replace q395 := eq_true q395
                          have p396 : 0 ≤ (x9_2 : Int) := of_decide_eq_true (by first | (with_reducible assumption) | assumption)
                          have q396 : x9_2 < (t391.length : Int) := of_decide_eq_true (by first | (with_reducible assumption) | assumption)
                          obtain ⟨ad396, e396, hx396_0⟩ := Kd.at_int (Kd.R_reads' HO_7.out).2.2 x9_2 p396 q396
                          obtain rfl : ad395 = ad396 := (by injection e396)
                          replace p396 := eq_true p396
                          replace q396 := eq_true q396
                          go_wp2
                          go_ret
                          exact ⟨by first | rfl | (simp [errW_none, errW_some] <;> rfl) | (simp [*, errW_none, errW_some] <;> rfl), by repeat (first | (with_reducible first | exact HB.out | apply below_alloc | apply pw_below_drewN | apply below_drew1) | exact HB.out)⟩
                        · rw [if_neg c33] at H
                          have c33b0 : decide (x8_2 < (rd t391 x9_2)) = false := decide_eq_false c33
                          clear c33
                          by_cases c34 : x9_2 < (l1.length : Int)
                          · rw [if_pos c34] at H
                            have c34b0 : decide (x9_2 < (l1.length : Int)) = true := decide_eq_true c34
                            clear c34
                            by_cases c35 : (rd l1 x9_2) = 0
                            · rw [if_pos c35] at H
                              have c35b0 : ((rd l1 x9_2) == 0) = true := beq_iff_eq.mpr c35
                              have c35b1 : ((rd l1 x9_2) != 0) = false := bne_eq_false_iff_eq.mpr c35
                              clear c35
                              by_cases c36 : (rd t391 x9_2) = 0
                              · rw [if_pos c36] at H
                                have c36b0 : ((rd t391 x9_2) == 0) = true := beq_iff_eq.mpr c36
                                have c36b1 : ((rd t391 x9_2) != 0) = false := bne_eq_false_iff_eq.mpr c36
                                clear c36
                                have H' := Aside0.mk H
                                clear H
                                have p395 : 0 ≤ (x9_2 : Int) := of_decide_eq_true (by first | (with_reducible assumption) | assumption)
                                have q395 : x9_2 < (t391.length : Int) := of_decide_eq_true (by first | (with_reducible assumption) | assumption)
                                obtain ⟨ad395, e395, hx395_0⟩ := Kd.at_int (Kd.R_reads' HO_7.out).2.2 x9_2 p395 q395
                                cases e395
                                replace p395 := eq_true p395
                                replace q395 := eq_true q395
                                have p396 : 0 ≤ (x9_2 : Int) := of_decide_eq_true (by first | (with_reducible assumption) | assumption)
                                have q396 : x9_2 < (t391.length : Int) := of_decide_eq_true (by first | (with_reducible assumption) | assumption)
                                obtain ⟨ad396, e396, hx396_0⟩ := Kd.at_int (Kd.R_reads' HO_7.out).2.2 x9_2 p396 q396
                                obtain rfl : ad395 = ad396 := (by injection e396)
                                replace p396 := eq_true p396
                                replace q396 := eq_true q396
                                have p397 : 0 ≤ (x9_2 : Int) := of_decide_eq_true (by first | (with_reducible assumption) | assumption)
                                have q397 : x9_2 < (l1.length : Int) := of_decide_eq_true (by first | (with_reducible assumption) | assumption)
                                obtain ⟨ad397, e397, hx397_0⟩ := Kd.at_int HR1.out x9_2 p397 q397
                                cases e397
                                replace hx397_0 := (HB.out.cell (World.block_lt_of_cell? w _ hx397_0)).trans hx397_0
                                replace p397 := eq_true p397
                                replace q397 := eq_true q397
                                have p398 : 0 ≤ (x9_2 : Int) := of_decide_eq_true (by first | (with_reducible assumption) | assumption)
                                have q398 : x9_2 < (t391.length : Int) := of_decide_eq_true (by first | (with_reducible assumption) | assumption)
                                obtain ⟨ad398, e398, hx398_0⟩ := Kd.at_int (Kd.R_reads' HO_7.out).2.2 x9_2 p398 q398
                                obtain rfl : ad395 = ad398 := (by injection e398)
                                replace p398 := eq_true p398
                                replace q398 := eq_true q398
                                have p399 : 0 ≤ (x9_2 : Int) := of_decide_eq_true (by first | (with_reducible assumption) | assumption)
                                have q399 : x9_2 < (t391.length : Int) := of_decide_eq_true (by first | (with_reducible assumption) | assumption)
                                obtain ⟨ad399, e399, hx399_0⟩ := Kd.at_int (Kd.R_reads' HO_7.out).2.2 x9_2 p399 q399
                                obtain rfl : ad395 = ad399 := (by injection e399)
                                replace p399 := eq_true p399
                                replace q399 := eq_true q399
                                go_wp2
                                go_roundg k2
                                case measure => have := HJ3.out; have := HK2.out; omega
                                case rel => exact ⟨(wrap64 (x8_2 - (rd t391 x9_2))), (wrap64 (x9_2 + 1)), (by first | rfl | (simp; done) | (simp [*]; done)), (by first | rfl | (simp; done) | (simp [*]; done)), H', ⟨by have := HJ3.out; have := HK2.out; omega⟩, ⟨by (with_reducible repeat (first | apply Kd.R_alloc | apply Kd.R_drewN | apply Kd.R_drew)); exact HO_7.out⟩, ⟨by repeat (first | (with_reducible first | exact HB.out | apply below_alloc | apply pw_below_drewN | apply below_drew1) | exact HB.out)⟩⟩
                              · rw [if_neg c36] at H
                                have c36b0 : ((rd t391 x9_2) == 0) = false := beq_eq_false_iff_ne.mpr c36
                                have c36b1 : ((rd t391 x9_2) != 0) = true := bne_iff_ne.mpr c36
                                obtain rfl := Option.some.inj H
                                have p395 : 0 ≤ (x9_2 : Int) := of_decide_eq_true (by first | (with_reducible assumption) | assumption)
                                have q395 : x9_2 < (t391.length : Int) := of_decide_eq_true (by first | (with_reducible assumption) | assumption)
                                obtain ⟨ad395, e395, hx395_0⟩ := Kd.at_int (Kd.R_reads' HO_7.out).2.2 x9_2 p395 q395
                                cases e395
                                replace p395 := eq_true p395
                                replace q395 := eq_true q395
                                have p396 : 0 ≤ (x9_2 : Int) := of_decide_eq_true (by first | (with_reducible assumption) | assumption)
                                have q396 : x9_2 < (t391.length : Int) := of_decide_eq_true (by first | (with_reducible assumption) | assumption)
                                obtain ⟨ad396, e396, hx396_0⟩ := Kd.at_int (Kd.R_reads' HO_7.out).2.2 x9_2 p396 q396
                                obtain rfl : ad395 = ad396 := (by injection e396)
                                replace p396 := eq_true p396
                                replace q396 := eq_true q396
                                have p397 : 0 ≤ (x9_2 : Int) := of_decide_eq_true (by first | (with_reducible assumption) | assumption)
                                have q397 : x9_2 < (l1.length : Int) := of_decide_eq_true (by first | (with_reducible assumption) | assumption)
                                obtain ⟨ad397, e397, hx397_0⟩ := Kd.at_int HR1.out x9_2 p397 q397
                                cases e397
                                replace hx397_0 := (HB.out.cell (World.block_lt_of_cell? w _ hx397_0)).trans hx397_0
                                replace p397 := eq_true p397
                                replace q397 := eq_true q397
                                have p398 : 0 ≤ (x9_2 : Int) := of_decide_eq_true (by first | (with_reducible assumption) | assumption)
                                have q398 : x9_2 < (t391.length : Int) := of_decide_eq_true (by first | (with_reducible assumption) | assumption)
                                obtain ⟨ad398, e398, hx398_0⟩ := Kd.at_int (Kd.R_reads' HO_7.out).2.2 x9_2 p398 q398
                                obtain rfl : ad395 = ad398 := (by injection e398)
                                replace p398 := eq_true p398
                                replace q398 := eq_true q398
                                go_wp2
                                go_ret
                                exact ⟨by first | rfl | (simp [errW_none, errW_some] <;> rfl) | (simp [*, errW_none, errW_some] <;> rfl), by repeat (first | (with_reducible first | exact HB.out | apply below_alloc | apply pw_below_drewN | apply below_drew1) | exact HB.out)⟩
                            · rw [if_neg c35] at H
                              have c35b0 : ((rd l1 x9_2) == 0) = false := beq_eq_false_iff_ne.mpr c35
                              have c35b1 : ((rd l1 x9_2) != 0) = true := bne_iff_ne.mpr c35
                              have H' := Aside0.mk H
                              clear H
                              have p395 : 0 ≤ (x9_2 : Int) := of_decide_eq_true (by first | (with_reducible assumption) | assumption)
                              have q395 : x9_2 < (t391.length : Int) := of_decide_eq_true (by first | (with_reducible assumption) | assumption)
                              obtain ⟨ad395, e395, hx395_0⟩ := Kd.at_int (Kd.R_reads' HO_7.out).2.2 x9_2 p395 q395
                              cases e395
                              replace p395 := eq_true p395
                              replace q395 := eq_true q395
                              have p396 : 0 ≤ (x9_2 : Int) := of_decide_eq_true (by first | (with_reducible assumption) | assumption)
                              have q396 : x9_2 < (t391.length : Int) := of_decide_eq_true (by first | (with_reducible assumption) | assumption)
                              obtain ⟨ad396, e396, hx396_0⟩ := Kd.at_int (Kd.R_reads' HO_7.out).2.2 x9_2 p396 q396
                              obtain rfl : ad395 = ad396 := (by injection e396)
                              replace p396 := eq_true p396
                              replace q396 := eq_true q396
                              have p397 : 0 ≤ (x9_2 : Int) := of_decide_eq_true (by first | (with_reducible assumption) | assumption)
                              have q397 : x9_2 < (l1.length : Int) := of_decide_eq_true (by first | (with_reducible assumption) | assumption)
                              obtain ⟨ad397, e397, hx397_0⟩ := Kd.at_int HR1.out x9_2 p397 q397
                              cases e397
                              replace hx397_0 := (HB.out.cell (World.block_lt_of_cell? w _ hx397_0)).trans hx397_0
                              replace p397 := eq_true p397
                              replace q397 := eq_true q397
                              have p400 : 0 ≤ (x9_2 : Int) := of_decide_eq_true (by first | (with_reducible assumption) | assumption)
                              have q400 : x9_2 < (t391.length : Int) := of_decide_eq_true (by first | (with_reducible assumption) | assumption)
                              obtain ⟨ad400, e400, hx400_0⟩ := Kd.at_int (Kd.R_reads' HO_7.out).2.2 x9_2 p400 q400
                              obtain rfl : ad395 = ad400 := (by injection e400)
                              replace p400 := eq_true p400
                              replace q400 := eq_true q400
                              go_wp2
                              go_roundg k2
                              case measure => have := HJ3.out; have := HK2.out; omega
                              case rel => exact ⟨(wrap64 (x8_2 - (rd t391 x9_2))), (wrap64 (x9_2 + 1)), (by first | rfl | (simp; done) | (simp [*]; done)), (by first | rfl | (simp; done) | (simp [*]; done)), H', ⟨by have := HJ3.out; have := HK2.out; omega⟩, ⟨by (with_reducible repeat (first | apply Kd.R_alloc | apply Kd.R_drewN | apply Kd.R_drew)); exact HO_7.out⟩, ⟨by repeat (first | (with_reducible first | exact HB.out | apply below_alloc | apply pw_below_drewN | apply below_drew1) | exact HB.out)⟩⟩
                          · rw [if_neg c34] at H
                            exact absurd H (by simp)
                    · rw [if_neg c31] at H
                      exact absurd H (by simp)
                  · rw [if_neg c30] at H
                    have c30b0 : decide (x9_2 < (t391.length : Int)) = false := decide_eq_false c30
                    clear c30
                    by_cases c37 : x8_2 = 0
                    · rw [if_pos c37] at H
                      have c37b0 : (x8_2 == 0) = true := beq_iff_eq.mpr c37
                      have c37b1 : (x8_2 != 0) = false := bne_eq_false_iff_eq.mpr c37
                      clear c37
                      replace H := Option.bind_eq_some_iff.mp H
                      obtain ⟨t401, A380, H⟩ := H
                      replace H : (some t401) = some r := H
                      have A38 := Aside0.mk A380
                      clear A380
                      obtain rfl := Option.some.inj H
                      go_wp2_with (first | (go_at_call 27; (with_reducible refine (arrearslaw1_fair.calls k2 _ _ t391 _ _ l1 t401 _ ?side1 ?side2 ?side3 ?side4 A38.out).mono ?_); (case side1 => repeat (first | exact (Kd.R_reads' HO_7.out).2.2 | (with_reducible refine Kd.C_alloc ?_ _) | (with_reducible refine Kd.C_drewN ?_ _) | (with_reducible refine Kd.C_drew ?_))); (case side2 => exact (Kd.R_reads' HO_7.out).2.1); (case side3 => repeat (first | exact (Kd.C_below HR1.out HB.out) | (with_reducible refine Kd.C_alloc ?_ _) | (with_reducible refine Kd.C_drewN ?_ _) | (with_reducible refine Kd.C_drew ?_))); (case side4 => exact HC1.out); rintro e w' ⟨rfl, ⟨nd, rfl⟩⟩))
                      go_ret
                      exact ⟨by first | rfl | (simp [errW_none, errW_some] <;> rfl) | (simp [*, errW_none, errW_some] <;> rfl), by repeat (first | (with_reducible first | exact HB.out | apply below_alloc | apply pw_below_drewN | apply below_drew1) | exact HB.out)⟩
                    · rw [if_neg c37] at H
                      have c37b0 : (x8_2 == 0) = false := beq_eq_false_iff_ne.mpr c37
                      have c37b1 : (x8_2 != 0) = true := bne_iff_ne.mpr c37
                      obtain rfl := Option.some.inj H
                      go_wp2
                      go_ret
                      exact ⟨by first | rfl | (simp [errW_none, errW_some] <;> rfl) | (simp [*, errW_none, errW_some] <;> rfl), by repeat (first | (with_reducible first | exact HB.out | apply below_alloc | apply pw_below_drewN | apply below_drew1) | exact HB.out)⟩
            · rw [if_neg c25] at H
              have c25b0 : ((t391.length : Int) == (l1.length : Int)) = false := beq_eq_false_iff_ne.mpr c25
              have c25b1 : ((t391.length : Int) != (l1.length : Int)) = true := bne_iff_ne.mpr c25
              have c25b2 : (t391.length == l1.length) = false := by first | simpa using c25 | (simp at c25 ⊢; omega)
              obtain rfl := Option.some.inj H
              go_wp2_with (first | ((with_reducible refine gate_callee (f := 12) rfl ?_); refine goesL_ (some 47) rfl rfl Try.func12 (by kernel_rfl) rfl #[.slice A1 l1.length c1] rfl (by (try simp only [List.map_toArray, List.map_cons, List.map_nil]); first | done | rfl | (simp only [List.length_drop, List.length_take]; rfl)) ?_; (with_reducible refine (arrearslaw1_copied.calls kj3 _ _ l1 t388 _ ?side1 ?side2 A22.out).mono ?_); (case side1 => repeat (first | exact (Kd.C_below HR1.out HB.out) | (with_reducible refine Kd.C_alloc ?_ _) | (with_reducible refine Kd.C_drewN ?_ _) | (with_reducible refine Kd.C_drew ?_))); (case side2 => exact HC1.out); rintro e w39 ⟨v389, rfl, ho0, hb⟩; refine ⟨_, rfl, ?_⟩; have n0_ := Aside0.mk (Kd.R_lower ho0 (below_size (by repeat (first | (with_reducible first | exact HB.out | apply below_alloc | apply pw_below_drewN | apply below_drew1) | exact HB.out)))); have n1_ := Aside0.mk (below_step (by repeat (first | (with_reducible first | exact HB.out | apply below_alloc | apply pw_below_drewN | apply below_drew1) | exact HB.out)) hb); clear HB; have HO390 := n0_; have HB := n1_; clear n0_ n1_; (try clear hb); (try clear hb2); (try clear hk); (try clear hi); (try clear ho0); obtain ⟨Ao40, co40, eo40⟩ := Kd.R_slice HO390.out; subst eo40) | ((with_reducible refine gate_callee (f := 25) rfl ?_); refine goesL_ (some 48) rfl rfl Try.func25 (by kernel_rfl) rfl #[.int .i64 a0, .slice Ao40 t388.length co40] rfl (by (try simp only [List.map_toArray, List.map_cons, List.map_nil]); first | done | rfl | (simp only [List.length_drop, List.length_take]; rfl)) ?_; (with_reducible refine (money_Split.calls kj3 a0 _ _ t388 t391 true _ ?side1 ?side2 A23.out).mono ?_); (case side1 => repeat (first | exact (Kd.R_reads' HO390.out).2.2 | (with_reducible refine Kd.C_alloc ?_ _) | (with_reducible refine Kd.C_drewN ?_ _) | (with_reducible refine Kd.C_drew ?_))); (case side2 => exact (Kd.R_reads' HO390.out).2.1); rintro e w41 ⟨v393, rfl, ho0, hb⟩; refine ⟨_, rfl, ?_⟩; have n0_ := Aside0.mk (Kd.R_elder' (by (with_reducible repeat (first | apply Kd.R_alloc | apply Kd.R_drewN | apply Kd.R_drew)); exact HO390.out) (Kd.R_base ho0) hb); have n1_ := Aside0.mk (Kd.R_lower (Kd.R_new' ho0 (Kd.R_lt (by (with_reducible repeat (first | apply Kd.R_alloc | apply Kd.R_drewN | apply Kd.R_drew)); exact HO390.out))) (below_size (by repeat (first | (with_reducible first | exact HB.out | apply below_alloc | apply pw_below_drewN | apply below_drew1) | exact HB.out)))); have n2_ := Aside0.mk (below_step (by repeat (first | (with_reducible first | exact HB.out | apply below_alloc | apply pw_below_drewN | apply below_drew1) | exact HB.out)) hb); clear HO390; clear HB; have HO390 := n0_; have HO394 := n1_; have HB := n2_; clear n0_ n1_ n2_; (try clear hb); (try clear hb2); (try clear hk); (try clear hi); (try clear ho0); obtain ⟨Ao42, co42, eo42⟩ := Kd.R_slice HO394.out; subst eo42))
              go_ret
              exact ⟨by first | rfl | (simp [errW_none, errW_some] <;> rfl) | (simp [*, errW_none, errW_some] <;> rfl), by repeat (first | (with_reducible first | exact HB.out | apply below_alloc | apply pw_below_drewN | apply below_drew1) | exact HB.out)⟩
          · replace c24 := Bool.eq_false_iff.mpr c24
            subst c24
            have H1 : (some ((t391.length : Int) == 0)) = some r := by rw [if_neg (show ¬ (false = true) by decide)] at H; exact H
            clear H
            have H := H1
            clear H1
            obtain rfl := Option.some.inj H
            go_wp2_with (first | ((with_reducible refine gate_callee (f := 12) rfl ?_); refine goesL_ (some 47) rfl rfl Try.func12 (by kernel_rfl) rfl #[.slice A1 l1.length c1] rfl (by (try simp only [List.map_toArray, List.map_cons, List.map_nil]); first | done | rfl | (simp only [List.length_drop, List.length_take]; rfl)) ?_; (with_reducible refine (arrearslaw1_copied.calls kj3 _ _ l1 t388 _ ?side1 ?side2 A22.out).mono ?_); (case side1 => repeat (first | exact (Kd.C_below HR1.out HB.out) | (with_reducible refine Kd.C_alloc ?_ _) | (with_reducible refine Kd.C_drewN ?_ _) | (with_reducible refine Kd.C_drew ?_))); (case side2 => exact HC1.out); rintro e w43 ⟨v389, rfl, ho0, hb⟩; refine ⟨_, rfl, ?_⟩; have n0_ := Aside0.mk (Kd.R_lower ho0 (below_size (by repeat (first | (with_reducible first | exact HB.out | apply below_alloc | apply pw_below_drewN | apply below_drew1) | exact HB.out)))); have n1_ := Aside0.mk (below_step (by repeat (first | (with_reducible first | exact HB.out | apply below_alloc | apply pw_below_drewN | apply below_drew1) | exact HB.out)) hb); clear HB; have HO390 := n0_; have HB := n1_; clear n0_ n1_; (try clear hb); (try clear hb2); (try clear hk); (try clear hi); (try clear ho0); obtain ⟨Ao44, co44, eo44⟩ := Kd.R_slice HO390.out; subst eo44) | ((with_reducible refine gate_callee (f := 25) rfl ?_); refine goesL_ (some 48) rfl rfl Try.func25 (by kernel_rfl) rfl #[.int .i64 a0, .slice Ao44 t388.length co44] rfl (by (try simp only [List.map_toArray, List.map_cons, List.map_nil]); first | done | rfl | (simp only [List.length_drop, List.length_take]; rfl)) ?_; (with_reducible refine (money_Split.calls kj3 a0 _ _ t388 t391 false _ ?side1 ?side2 A23.out).mono ?_); (case side1 => repeat (first | exact (Kd.R_reads' HO390.out).2.2 | (with_reducible refine Kd.C_alloc ?_ _) | (with_reducible refine Kd.C_drewN ?_ _) | (with_reducible refine Kd.C_drew ?_))); (case side2 => exact (Kd.R_reads' HO390.out).2.1); rintro e w45 ⟨v393, rfl, ho0, hb⟩; refine ⟨_, rfl, ?_⟩; have n0_ := Aside0.mk (Kd.R_elder' (by (with_reducible repeat (first | apply Kd.R_alloc | apply Kd.R_drewN | apply Kd.R_drew)); exact HO390.out) (Kd.R_base ho0) hb); have n1_ := Aside0.mk (Kd.R_lower (Kd.R_new' ho0 (Kd.R_lt (by (with_reducible repeat (first | apply Kd.R_alloc | apply Kd.R_drewN | apply Kd.R_drew)); exact HO390.out))) (below_size (by repeat (first | (with_reducible first | exact HB.out | apply below_alloc | apply pw_below_drewN | apply below_drew1) | exact HB.out)))); have n2_ := Aside0.mk (below_step (by repeat (first | (with_reducible first | exact HB.out | apply below_alloc | apply pw_below_drewN | apply below_drew1) | exact HB.out)) hb); clear HO390; clear HB; have HO390 := n0_; have HO394 := n1_; have HB := n2_; clear n0_ n1_ n2_; (try clear hb); (try clear hb2); (try clear hk); (try clear hi); (try clear ho0); obtain ⟨Ao46, co46, eo46⟩ := Kd.R_slice HO394.out; subst eo46))
            go_ret
            exact ⟨by first | rfl | (simp [errW_none, errW_some] <;> rfl) | (simp [*, errW_none, errW_some] <;> rfl), by repeat (first | (with_reducible first | exact HB.out | apply below_alloc | apply pw_below_drewN | apply below_drew1) | exact HB.out)⟩

/-- THE ONE PURE STATEMENT of arrearslaw1_MoneyShares: yours. -/
def arrearslaw1_MoneyShares.Pure : Prop := ∀ (a0 : Int) (l1 : List Int), (Lit.int .i64 a0).wf = true → l1.length ≤ maxLen → l1.length * 8 ≤ 140737488351232 → (∀ x ∈ l1, (Lit.int .i64 x).wf = true) → ∃ k, arrearslaw1_MoneyShares.f k a0 l1 = some true
theorem arrearslaw1_MoneyShares.walk (P : arrearslaw1_MoneyShares.Pure) (a0 : Int) (a1 : Option Addr) (len1 cap1 : Nat) (z1 : List Int) (w : World) (w0 : (Lit.int .i64 a0).wf = true) (w1 : (a1 = none ∧ len1 = 0 ∧ cap1 = 0 ∧ z1 = []) ∨ ∃ x, a1 = some x ∧ len1 ≤ cap1 ∧ cap1 ≤ maxLen ∧ z1.length = cap1 ∧ (∀ i, i < z1.length → w.cell? (x.add i) = some (.int .i64 (z1.getD i 0))) ∧ ∀ n ∈ z1, (Lit.int .i64 n).wf = true) (y1 : len1 * 8 ≤ 140737488351232) :
    Calls Try.prog 10 #[.int .i64 a0, .slice a1 len1 cap1] w fun e w' => e = .returned (.bool true) ∧ Below w.heap.size w w' := by
  obtain ⟨l1, rfl, hr1, hm1, hw1, hc1⟩ := ReadsInt.ofRowC w1
  obtain ⟨k, h⟩ := P a0 l1 w0 hm1 y1 hw1
  refine (arrearslaw1_MoneyShares.calls k a0 _ _ l1 true w (Kd.C_of_reads (d := (0 : Int)) (h1 := fun _ => rfl) hr1) hc1 h).mono ?_
  rintro e w' ⟨rfl, hd⟩
  exact ⟨rfl, hd⟩

end Go.Proofs.Ytfofcgflamidhaa.PAll
