-- Laid by wip/myprint.py, a driver over the kit's print, for this claim: a lemma's text, not read by a person.
import Derived.Test.YtcaeaklbglhghaaPAx0
import Derived.Test.YtcaeaklbglhghaaPAx2
import Derived.Test.YtcaeaklbglhghaaPAx3
namespace Go.Proofs.Ytcaeaklbglhghaa.PA
open Go.RowKit Go.Proofs.YtcaeaklbglhghaaW.PrintWords Go.Proofs.YtcaeaklbglhghaaW.PrintLast Go.Proofs.YtcaeaklbglhghaaW.PrintMore
attribute [local go_sem] max2_int min2_int max_two min_two max_three min_three max_four min_four   -- for this text's walks alone
set_option linter.unusedVariables false
set_option linter.unusedSimpArgs false

/-! ### arrearslaw3_InterestYear: function 6 -/
def arrearslaw3_InterestYear.j0 : Nat → Int → Int → Bool → Option (Bool)
  | 0, _, _, _ => none
  | k + 1, x0, x1, x32 => if x32 = true then (some false) else ((interest_Span.f k x0 x1 0 365).bind fun bt155 => ((money_MulDivFloor.f k x0 x1 10000).bind fun bt158 => (if bt158.2.2 = true then (if bt155.2.2 = true then (if bt155.1 = bt158.1 then (some (bt155.2.1 == (wrap64 (bt158.2.1 * 365)))) else (some false)) else (some false)) else (some (!bt155.2.2)))))
def arrearslaw3_InterestYear.f (k : Nat) (a0 : Int) (a1 : Int) : Option (Bool) := (arrearslaw3_earning.f a0 a1 0).bind fun t151 => (if t151 = true then ((interest_Span.f k 1234567 1000 0 365).bind fun bt152 => (if bt152.2.2 = true then (if bt152.1 = 123456 then (arrearslaw3_InterestYear.j0 k a0 a1 (bt152.2.1 != 2555000)) else (arrearslaw3_InterestYear.j0 k a0 a1 true)) else (arrearslaw3_InterestYear.j0 k a0 a1 true))) else (some true))
theorem arrearslaw3_InterestYear.mono_l : ∀ k, (∀ y0 y1 y2, LeO (arrearslaw3_InterestYear.j0 k y0 y1 y2) (arrearslaw3_InterestYear.j0 (k + 1) y0 y1 y2))
  | 0 => fun _ _ _ r h => by simp [arrearslaw3_InterestYear.j0] at h
  | k + 1 => by
    have ih0 := arrearslaw3_InterestYear.mono_l k
    · intro y0 y1 y2
      unfold arrearslaw3_InterestYear.j0
      repeat' first
      | (with_reducible exact ih0 _ _ _)
      | (with_reducible exact interest_Span.mono _ _ _ _ _)
      | (with_reducible exact money_MulDivFloor.mono _ _ _ _)
      | (with_reducible exact LeO.refl _)
      | (with_reducible exact LeO.none _)
      | (with_reducible refine LeO.ite ?_ ?_)
      | (with_reducible refine LeO.bind ?_ (fun _ => ?_))
      | exact ih0 _ _ _
      | exact interest_Span.mono _ _ _ _ _
      | exact money_MulDivFloor.mono _ _ _ _
      | exact LeO.none _
      | refine LeO.ite ?_ ?_
      | refine LeO.bind ?_ (fun _ => ?_)
theorem arrearslaw3_InterestYear.mono : ∀ a0 a1 k, LeO (arrearslaw3_InterestYear.f k a0 a1) (arrearslaw3_InterestYear.f (k + 1) a0 a1) := by
  intro a0 a1 k
  have ih0 := arrearslaw3_InterestYear.mono_l k
  unfold arrearslaw3_InterestYear.f
  repeat' first
      | (with_reducible exact ih0 _ _ _)
      | (with_reducible exact interest_Span.mono _ _ _ _ _)
      | (with_reducible exact money_MulDivFloor.mono _ _ _ _)
      | (with_reducible exact LeO.refl _)
      | (with_reducible exact LeO.none _)
      | (with_reducible refine LeO.ite ?_ ?_)
      | (with_reducible refine LeO.bind ?_ (fun _ => ?_))
      | exact ih0 _ _ _
      | exact interest_Span.mono _ _ _ _ _
      | exact money_MulDivFloor.mono _ _ _ _
      | exact LeO.none _
      | refine LeO.ite ?_ ?_
      | refine LeO.bind ?_ (fun _ => ?_)
set_option maxHeartbeats 8000000 in
set_option maxRecDepth 100000 in
theorem arrearslaw3_InterestYear.calls (k : Nat) (a0 : Int) (a1 : Int) (r : Bool) (w : World) (h : arrearslaw3_InterestYear.f k a0 a1 = some r) :
    Calls Try.prog 6 #[.int .i64 a0, .int .i64 a1] w fun e w' => e = .returned (.bool r) ∧ Drawn0 w w' := by
  have H : ((arrearslaw3_earning.f a0 a1 0).bind fun t151 => (if t151 = true then ((interest_Span.f k 1234567 1000 0 365).bind fun bt152 => (if bt152.2.2 = true then (if bt152.1 = 123456 then (arrearslaw3_InterestYear.j0 k a0 a1 (bt152.2.1 != 2555000)) else (arrearslaw3_InterestYear.j0 k a0 a1 true)) else (arrearslaw3_InterestYear.j0 k a0 a1 true))) else (some true))) = some r := h
  clear h
  replace H := Option.bind_eq_some_iff.mp H
  obtain ⟨t151, A30, H⟩ := H
  replace H : (if t151 = true then ((interest_Span.f k 1234567 1000 0 365).bind fun bt152 => (if bt152.2.2 = true then (if bt152.1 = 123456 then (arrearslaw3_InterestYear.j0 k a0 a1 (bt152.2.1 != 2555000)) else (arrearslaw3_InterestYear.j0 k a0 a1 true)) else (arrearslaw3_InterestYear.j0 k a0 a1 true))) else (some true)) = some r := H
  have A3 := Aside0.mk A30
  clear A30
  by_cases c4 : t151 = true
  · subst c4
    have H1 : ((interest_Span.f k 1234567 1000 0 365).bind fun bt152 => (if bt152.2.2 = true then (if bt152.1 = 123456 then (arrearslaw3_InterestYear.j0 k a0 a1 (bt152.2.1 != 2555000)) else (arrearslaw3_InterestYear.j0 k a0 a1 true)) else (arrearslaw3_InterestYear.j0 k a0 a1 true))) = some r := by rw [if_pos rfl] at H; exact H
    clear H
    have H := H1
    clear H1
    replace H := Option.bind_eq_some_iff.mp H
    obtain ⟨⟨t152, t153, t154⟩, A50, H⟩ := H
    replace H : (if t154 = true then (if t152 = 123456 then (arrearslaw3_InterestYear.j0 k a0 a1 (t153 != 2555000)) else (arrearslaw3_InterestYear.j0 k a0 a1 true)) else (arrearslaw3_InterestYear.j0 k a0 a1 true)) = some r := H
    have A5 := Aside0.mk A50
    clear A50
    have HC6 := Aside0.mk H
    clear H
    go_enter Try.func6, Try.ntmps6
    go_upto_region 4 with (first | ((with_reducible refine gate_callee (f := 14) rfl ?_); refine goesL_ (some 16) rfl rfl Try.func14 (by kernel_rfl) rfl #[.int .i64 a0, .int .i64 a1, .int .i64 0] rfl (by (try simp only [List.map_toArray, List.map_cons, List.map_nil]); first | done | rfl | (simp only [List.length_drop, List.length_take]; rfl)) ?_; (with_reducible refine (arrearslaw3_earning.calls a0 a1 0 true _ A3.out).mono ?_); rintro e w' ⟨rfl, ⟨nd, rfl⟩⟩; refine ⟨_, rfl, ?_⟩) | ((with_reducible refine gate_callee (f := 15) rfl ?_); refine goesL_ (some 19) rfl rfl Try.func15 (by kernel_rfl) rfl #[.int .i64 1234567, .int .i64 1000, .int .i64 0, .int .i64 365] rfl (by (try simp only [List.map_toArray, List.map_cons, List.map_nil]); first | done | rfl | (simp only [List.length_drop, List.length_take]; rfl)) ?_; (with_reducible refine (interest_Span.calls k 1234567 1000 0 365 t152 t153 t154 _ A5.out).mono ?_); rintro e w' ⟨rfl, ⟨nd, rfl⟩⟩; refine ⟨_, rfl, ?_⟩))
    (try simp only [Act.put, List.setIfInBounds_toArray, List.set_cons_zero, List.set_cons_succ])
    go_cut [32] (fun v32 wc => ∃ (kq : Nat) (x32_5 : Bool), v32 = .bool x32_5 ∧ Aside0 (arrearslaw3_InterestYear.j0 kq a0 a1 x32_5 = some r) ∧ Aside0 (kq ≤ k) ∧ Drawn0 w wc)
    case first =>
      have H := HC6.out
      clear HC6
      by_cases c7 : t154 = true
      · subst c7
        have H1 : (if t152 = 123456 then (arrearslaw3_InterestYear.j0 k a0 a1 (t153 != 2555000)) else (arrearslaw3_InterestYear.j0 k a0 a1 true)) = some r := by rw [if_pos rfl] at H; exact H
        clear H
        have H := H1
        clear H1
        by_cases c8 : t152 = 123456
        · rw [if_pos c8] at H
          have c8b0 : (t152 == 123456) = true := beq_iff_eq.mpr c8
          have c8b1 : (t152 != 123456) = false := bne_eq_false_iff_eq.mpr c8
          clear c8
          (first | rw [c8b0] | (simp only [i64_w, i32_w]; rw [c8b0]) | skip)
          have H' := Aside0.mk H
          clear H
          go_wp2
          go_meet
          case rel => exact ⟨_, ((t153 != 2555000)), (by first | rfl | (simp; done) | (simp [*]; done)), H', ⟨by first | omega | exact Nat.le_refl _⟩, by repeat (first | exact Drawn0.refl _ | apply Drawn0.step)⟩
        · rw [if_neg c8] at H
          have c8b0 : (t152 == 123456) = false := beq_eq_false_iff_ne.mpr c8
          have c8b1 : (t152 != 123456) = true := bne_iff_ne.mpr c8
          (first | rw [c8b0] | (simp only [i64_w, i32_w]; rw [c8b0]) | skip)
          have H' := Aside0.mk H
          clear H
          go_wp2
          go_meet
          case rel => exact ⟨_, (true), (by first | rfl | (simp; done) | (simp [*]; done)), H', ⟨by first | omega | exact Nat.le_refl _⟩, by repeat (first | exact Drawn0.refl _ | apply Drawn0.step)⟩
      · replace c7 := Bool.eq_false_iff.mpr c7
        subst c7
        have H1 : (arrearslaw3_InterestYear.j0 k a0 a1 true) = some r := by rw [if_neg (show ¬ (false = true) by decide)] at H; exact H
        clear H
        have H := H1
        clear H1
        have H' := Aside0.mk H
        clear H
        go_wp2
        go_meet
        case rel => exact ⟨_, (true), (by first | rfl | (simp; done) | (simp [*]; done)), H', ⟨by first | omega | exact Nat.le_refl _⟩, by repeat (first | exact Drawn0.refl _ | apply Drawn0.step)⟩
    case rest =>
      clear HC6
      try clear c1
      try clear p2
      try clear c4
      try clear c6
      try clear c7
      try clear c8
      try clear c8b0
      try clear c8b1
      obtain ⟨kq, x32_5, rfl, HA, HJ5, ⟨mc5, rfl⟩⟩ := hcut
      cases kq with
      | zero => exact absurd HA.out (by simp [arrearslaw3_InterestYear.j0])
      | succ kj5 =>
        have H := HA.out
        clear HA
        simp only [arrearslaw3_InterestYear.j0] at H
        by_cases c9 : x32_5 = true
        · subst c9
          have H1 : (some false) = some r := by rw [if_pos rfl] at H; exact H
          clear H
          have H := H1
          clear H1
          obtain rfl := Option.some.inj H
          go_wp2
          go_ret
          exact ⟨by first | rfl | (simp; done) | (simp [*]; done), by repeat (first | exact Drawn0.refl _ | apply Drawn0.step)⟩
        · replace c9 := Bool.eq_false_iff.mpr c9
          subst c9
          have H1 : ((interest_Span.f kj5 a0 a1 0 365).bind fun bt155 => ((money_MulDivFloor.f kj5 a0 a1 10000).bind fun bt158 => (if bt158.2.2 = true then (if bt155.2.2 = true then (if bt155.1 = bt158.1 then (some (bt155.2.1 == (wrap64 (bt158.2.1 * 365)))) else (some false)) else (some false)) else (some (!bt155.2.2))))) = some r := by rw [if_neg (show ¬ (false = true) by decide)] at H; exact H
          clear H
          have H := H1
          clear H1
          replace H := Option.bind_eq_some_iff.mp H
          obtain ⟨⟨t155, t156, t157⟩, A100, H⟩ := H
          replace H : ((money_MulDivFloor.f kj5 a0 a1 10000).bind fun bt158 => (if bt158.2.2 = true then (if t157 = true then (if t155 = bt158.1 then (some (t156 == (wrap64 (bt158.2.1 * 365)))) else (some false)) else (some false)) else (some (!t157)))) = some r := H
          have A10 := Aside0.mk A100
          clear A100
          replace H := Option.bind_eq_some_iff.mp H
          obtain ⟨⟨t158, t159, t160⟩, A110, H⟩ := H
          replace H : (if t160 = true then (if t157 = true then (if t155 = t158 then (some (t156 == (wrap64 (t159 * 365)))) else (some false)) else (some false)) else (some (!t157))) = some r := H
          have A11 := Aside0.mk A110
          clear A110
          by_cases c12 : t160 = true
          · subst c12
            have H1 : (if t157 = true then (if t155 = t158 then (some (t156 == (wrap64 (t159 * 365)))) else (some false)) else (some false)) = some r := by rw [if_pos rfl] at H; exact H
            clear H
            have H := H1
            clear H1
            by_cases c13 : t157 = true
            · subst c13
              have H1 : (if t155 = t158 then (some (t156 == (wrap64 (t159 * 365)))) else (some false)) = some r := by rw [if_pos rfl] at H; exact H
              clear H
              have H := H1
              clear H1
              by_cases c14 : t155 = t158
              · rw [if_pos c14] at H
                have c14b0 : (t155 == t158) = true := beq_iff_eq.mpr c14
                have c14b1 : (t155 != t158) = false := bne_eq_false_iff_eq.mpr c14
                clear c14
                obtain rfl := Option.some.inj H
                go_wp2_with (first | ((with_reducible refine gate_callee (f := 15) rfl ?_); refine goesL_ (some 36) rfl rfl Try.func15 (by kernel_rfl) rfl #[.int .i64 a0, .int .i64 a1, .int .i64 0, .int .i64 365] rfl (by (try simp only [List.map_toArray, List.map_cons, List.map_nil]); first | done | rfl | (simp only [List.length_drop, List.length_take]; rfl)) ?_; (with_reducible refine (interest_Span.calls kj5 a0 a1 0 365 t155 t156 true _ A10.out).mono ?_); rintro e w' ⟨rfl, ⟨nd, rfl⟩⟩; refine ⟨_, rfl, ?_⟩) | ((with_reducible refine gate_callee (f := 16) rfl ?_); refine goesL_ (some 43) rfl rfl Try.func16 (by kernel_rfl) rfl #[.int .i64 a0, .int .i64 a1, .int .i64 10000] rfl (by (try simp only [List.map_toArray, List.map_cons, List.map_nil]); first | done | rfl | (simp only [List.length_drop, List.length_take]; rfl)) ?_; (with_reducible refine (money_MulDivFloor.calls kj5 a0 a1 10000 t158 t159 true _ A11.out).mono ?_); rintro e w' ⟨rfl, ⟨nd, rfl⟩⟩; refine ⟨_, rfl, ?_⟩))
                go_ret
                exact ⟨by first | rfl | (simp; done) | (simp [*]; done), by repeat (first | exact Drawn0.refl _ | apply Drawn0.step)⟩
              · rw [if_neg c14] at H
                have c14b0 : (t155 == t158) = false := beq_eq_false_iff_ne.mpr c14
                have c14b1 : (t155 != t158) = true := bne_iff_ne.mpr c14
                obtain rfl := Option.some.inj H
                go_wp2_with (first | ((with_reducible refine gate_callee (f := 15) rfl ?_); refine goesL_ (some 36) rfl rfl Try.func15 (by kernel_rfl) rfl #[.int .i64 a0, .int .i64 a1, .int .i64 0, .int .i64 365] rfl (by (try simp only [List.map_toArray, List.map_cons, List.map_nil]); first | done | rfl | (simp only [List.length_drop, List.length_take]; rfl)) ?_; (with_reducible refine (interest_Span.calls kj5 a0 a1 0 365 t155 t156 true _ A10.out).mono ?_); rintro e w' ⟨rfl, ⟨nd, rfl⟩⟩; refine ⟨_, rfl, ?_⟩) | ((with_reducible refine gate_callee (f := 16) rfl ?_); refine goesL_ (some 43) rfl rfl Try.func16 (by kernel_rfl) rfl #[.int .i64 a0, .int .i64 a1, .int .i64 10000] rfl (by (try simp only [List.map_toArray, List.map_cons, List.map_nil]); first | done | rfl | (simp only [List.length_drop, List.length_take]; rfl)) ?_; (with_reducible refine (money_MulDivFloor.calls kj5 a0 a1 10000 t158 t159 true _ A11.out).mono ?_); rintro e w' ⟨rfl, ⟨nd, rfl⟩⟩; refine ⟨_, rfl, ?_⟩))
                go_ret
                exact ⟨by first | rfl | (simp; done) | (simp [*]; done), by repeat (first | exact Drawn0.refl _ | apply Drawn0.step)⟩
            · replace c13 := Bool.eq_false_iff.mpr c13
              subst c13
              have H1 : (some false) = some r := by rw [if_neg (show ¬ (false = true) by decide)] at H; exact H
              clear H
              have H := H1
              clear H1
              obtain rfl := Option.some.inj H
              go_wp2_with (first | ((with_reducible refine gate_callee (f := 15) rfl ?_); refine goesL_ (some 36) rfl rfl Try.func15 (by kernel_rfl) rfl #[.int .i64 a0, .int .i64 a1, .int .i64 0, .int .i64 365] rfl (by (try simp only [List.map_toArray, List.map_cons, List.map_nil]); first | done | rfl | (simp only [List.length_drop, List.length_take]; rfl)) ?_; (with_reducible refine (interest_Span.calls kj5 a0 a1 0 365 t155 t156 false _ A10.out).mono ?_); rintro e w' ⟨rfl, ⟨nd, rfl⟩⟩; refine ⟨_, rfl, ?_⟩) | ((with_reducible refine gate_callee (f := 16) rfl ?_); refine goesL_ (some 43) rfl rfl Try.func16 (by kernel_rfl) rfl #[.int .i64 a0, .int .i64 a1, .int .i64 10000] rfl (by (try simp only [List.map_toArray, List.map_cons, List.map_nil]); first | done | rfl | (simp only [List.length_drop, List.length_take]; rfl)) ?_; (with_reducible refine (money_MulDivFloor.calls kj5 a0 a1 10000 t158 t159 true _ A11.out).mono ?_); rintro e w' ⟨rfl, ⟨nd, rfl⟩⟩; refine ⟨_, rfl, ?_⟩))
              go_ret
              exact ⟨by first | rfl | (simp; done) | (simp [*]; done), by repeat (first | exact Drawn0.refl _ | apply Drawn0.step)⟩
          · replace c12 := Bool.eq_false_iff.mpr c12
            subst c12
            have H1 : (some (!t157)) = some r := by rw [if_neg (show ¬ (false = true) by decide)] at H; exact H
            clear H
            have H := H1
            clear H1
            obtain rfl := Option.some.inj H
            go_wp2_with (first | ((with_reducible refine gate_callee (f := 15) rfl ?_); refine goesL_ (some 36) rfl rfl Try.func15 (by kernel_rfl) rfl #[.int .i64 a0, .int .i64 a1, .int .i64 0, .int .i64 365] rfl (by (try simp only [List.map_toArray, List.map_cons, List.map_nil]); first | done | rfl | (simp only [List.length_drop, List.length_take]; rfl)) ?_; (with_reducible refine (interest_Span.calls kj5 a0 a1 0 365 t155 t156 t157 _ A10.out).mono ?_); rintro e w' ⟨rfl, ⟨nd, rfl⟩⟩; refine ⟨_, rfl, ?_⟩) | ((with_reducible refine gate_callee (f := 16) rfl ?_); refine goesL_ (some 43) rfl rfl Try.func16 (by kernel_rfl) rfl #[.int .i64 a0, .int .i64 a1, .int .i64 10000] rfl (by (try simp only [List.map_toArray, List.map_cons, List.map_nil]); first | done | rfl | (simp only [List.length_drop, List.length_take]; rfl)) ?_; (with_reducible refine (money_MulDivFloor.calls kj5 a0 a1 10000 t158 t159 false _ A11.out).mono ?_); rintro e w' ⟨rfl, ⟨nd, rfl⟩⟩; refine ⟨_, rfl, ?_⟩))
            go_ret
            exact ⟨by first | rfl | (simp; done) | (simp [*]; done), by repeat (first | exact Drawn0.refl _ | apply Drawn0.step)⟩
  · replace c4 := Bool.eq_false_iff.mpr c4
    subst c4
    have H1 : (some true) = some r := by rw [if_neg (show ¬ (false = true) by decide)] at H; exact H
    clear H
    have H := H1
    clear H1
    obtain rfl := Option.some.inj H
    go_enter Try.func6, Try.ntmps6
    go_wp2_with (first | ((with_reducible refine gate_callee (f := 14) rfl ?_); refine goesL_ (some 16) rfl rfl Try.func14 (by kernel_rfl) rfl #[.int .i64 a0, .int .i64 a1, .int .i64 0] rfl (by (try simp only [List.map_toArray, List.map_cons, List.map_nil]); first | done | rfl | (simp only [List.length_drop, List.length_take]; rfl)) ?_; (with_reducible refine (arrearslaw3_earning.calls a0 a1 0 false _ A3.out).mono ?_); rintro e w' ⟨rfl, ⟨nd, rfl⟩⟩; refine ⟨_, rfl, ?_⟩))
    go_ret
    exact ⟨by first | rfl | (simp; done) | (simp [*]; done), by repeat (first | exact Drawn0.refl _ | apply Drawn0.step)⟩

/-- THE ONE PURE STATEMENT of arrearslaw3_InterestYear: yours. -/
def arrearslaw3_InterestYear.Pure : Prop := ∀ (a0 : Int) (a1 : Int), (Lit.int .i64 a0).wf = true → (Lit.int .i64 a1).wf = true → ∃ k, arrearslaw3_InterestYear.f k a0 a1 = some true
theorem arrearslaw3_InterestYear.walk (P : arrearslaw3_InterestYear.Pure) (a0 : Int) (a1 : Int) (w : World) (w0 : (Lit.int .i64 a0).wf = true) (w1 : (Lit.int .i64 a1).wf = true) :
    Calls Try.prog 6 #[.int .i64 a0, .int .i64 a1] w fun e w' => e = .returned (.bool true) ∧ Below w.heap.size w w' := by
  obtain ⟨k, h⟩ := P a0 a1 w0 w1
  refine (arrearslaw3_InterestYear.calls k a0 a1 true w h).mono ?_
  rintro e w' ⟨rfl, hd⟩
  exact ⟨rfl, hd.below⟩

/-! ### interest_Daily: function 17 -/
def interest_Daily.f (k : Nat) (a0 : Int) (a1 : Int) (a2 : Int) : Option (Int × Int × Bool) := (interest_Span.f k a0 a1 a2 1).bind fun bt161 => (some (bt161.1, bt161.2.1, bt161.2.2))
theorem interest_Daily.mono : ∀ a0 a1 a2 k, LeO (interest_Daily.f k a0 a1 a2) (interest_Daily.f (k + 1) a0 a1 a2) := by
  intro a0 a1 a2 k
  unfold interest_Daily.f
  repeat' first
      | (with_reducible exact interest_Span.mono _ _ _ _ _)
      | (with_reducible exact LeO.refl _)
      | (with_reducible exact LeO.none _)
      | (with_reducible refine LeO.ite ?_ ?_)
      | (with_reducible refine LeO.bind ?_ (fun _ => ?_))
      | exact interest_Span.mono _ _ _ _ _
      | exact LeO.none _
      | refine LeO.ite ?_ ?_
      | refine LeO.bind ?_ (fun _ => ?_)
set_option maxHeartbeats 8000000 in
set_option maxRecDepth 100000 in
theorem interest_Daily.calls (k : Nat) (a0 : Int) (a1 : Int) (a2 : Int) (r1 : Int) (r2 : Int) (r3 : Bool) (w : World) (h : interest_Daily.f k a0 a1 a2 = some (r1, r2, r3)) :
    Calls Try.prog 17 #[.int .i64 a0, .int .i64 a1, .int .i64 a2] w fun e w' => e = .returned (.tuple #[.int .i64 r1, .int .i64 r2, .bool r3]) ∧ Drawn0 w w' := by
  have H : ((interest_Span.f k a0 a1 a2 1).bind fun bt161 => (some (bt161.1, bt161.2.1, bt161.2.2))) = some (r1, r2, r3) := h
  clear h
  replace H := Option.bind_eq_some_iff.mp H
  obtain ⟨⟨t161, t162, t163⟩, A40, H⟩ := H
  replace H : (some (t161, t162, t163)) = some (r1, r2, r3) := H
  have A4 := Aside0.mk A40
  clear A40
  simp only [Option.some.injEq, Prod.mk.injEq] at H
  obtain ⟨rfl, rfl, rfl⟩ := H
  go_enter Try.func17, Try.ntmps17
  go_wp2_with (first | ((with_reducible refine gate_callee (f := 15) rfl ?_); refine goesL_ (some 12) rfl rfl Try.func15 (by kernel_rfl) rfl #[.int .i64 a0, .int .i64 a1, .int .i64 a2, .int .i64 1] rfl (by (try simp only [List.map_toArray, List.map_cons, List.map_nil]); first | done | rfl | (simp only [List.length_drop, List.length_take]; rfl)) ?_; (with_reducible refine (interest_Span.calls k a0 a1 a2 1 t161 t162 t163 _ A4.out).mono ?_); rintro e w' ⟨rfl, ⟨nd, rfl⟩⟩; refine ⟨_, rfl, ?_⟩))
  go_ret3
  exact ⟨by first | rfl | (simp; done) | (simp [*]; done), by repeat (first | exact Drawn0.refl _ | apply Drawn0.step)⟩

/-! ### arrearsref3_Span: function 19 -/
def arrearsref3_Span.j0 : Nat → Int → Int → Int → Int → Bool → Option (Int × Int × Bool)
  | 0, _, _, _, _, _ => none
  | k + 1, x0, x1, x2, x3, x37 => if x37 = true then (some (0, 0, false)) else (if x3 > 0 then (if x3 = 0 then (none) else (if (wrap64 ((wrap64 (Int.tdiv x0 3650000)) * x1)) > (wrap64 (Int.tdiv (wrap64 (9223372036854775807 - (wrap64 (Int.tdiv (wrap64 ((wrap64 ((wrap64 ((Int.tmod x0 3650000) * x1)) * x3)) + x2)) 3650000)))) x3)) then (some (0, 0, false)) else (some (wrap64 ((wrap64 ((wrap64 ((wrap64 (Int.tdiv x0 3650000)) * x1)) * x3)) + (wrap64 (Int.tdiv (wrap64 ((wrap64 ((wrap64 ((Int.tmod x0 3650000) * x1)) * x3)) + x2)) 3650000))), Int.tmod (wrap64 ((wrap64 ((wrap64 ((Int.tmod x0 3650000) * x1)) * x3)) + x2)) 3650000, true)))) else (some (wrap64 ((wrap64 ((wrap64 ((wrap64 (Int.tdiv x0 3650000)) * x1)) * x3)) + (wrap64 (Int.tdiv (wrap64 ((wrap64 ((wrap64 ((Int.tmod x0 3650000) * x1)) * x3)) + x2)) 3650000))), Int.tmod (wrap64 ((wrap64 ((wrap64 ((Int.tmod x0 3650000) * x1)) * x3)) + x2)) 3650000, true)))
def arrearsref3_Span.f (k : Nat) (a0 : Int) (a1 : Int) (a2 : Int) (a3 : Int) : Option (Int × Int × Bool) := if a0 < 0 then (arrearsref3_Span.j0 k a0 a1 a2 a3 true) else ((arrearsref3_isRate.f a1).bind fun t164 => (if t164 = true then (if a2 < 0 then (arrearsref3_Span.j0 k a0 a1 a2 a3 true) else (if a2 ≥ 3650000 then (arrearsref3_Span.j0 k a0 a1 a2 a3 true) else (if a3 < 0 then (arrearsref3_Span.j0 k a0 a1 a2 a3 true) else (arrearsref3_Span.j0 k a0 a1 a2 a3 (decide (a3 > 3652059)))))) else (arrearsref3_Span.j0 k a0 a1 a2 a3 true)))
theorem arrearsref3_Span.mono_l : ∀ k, (∀ y0 y1 y2 y3 y4, LeO (arrearsref3_Span.j0 k y0 y1 y2 y3 y4) (arrearsref3_Span.j0 (k + 1) y0 y1 y2 y3 y4))
  | 0 => fun _ _ _ _ _ r h => by simp [arrearsref3_Span.j0] at h
  | k + 1 => by
    have ih0 := arrearsref3_Span.mono_l k
    · intro y0 y1 y2 y3 y4
      unfold arrearsref3_Span.j0
      repeat' first
      | (with_reducible exact ih0 _ _ _ _ _)
      | (with_reducible exact LeO.refl _)
      | (with_reducible exact LeO.none _)
      | (with_reducible refine LeO.ite ?_ ?_)
      | (with_reducible refine LeO.bind ?_ (fun _ => ?_))
      | exact ih0 _ _ _ _ _
      | exact LeO.none _
      | refine LeO.ite ?_ ?_
      | refine LeO.bind ?_ (fun _ => ?_)
theorem arrearsref3_Span.mono : ∀ a0 a1 a2 a3 k, LeO (arrearsref3_Span.f k a0 a1 a2 a3) (arrearsref3_Span.f (k + 1) a0 a1 a2 a3) := by
  intro a0 a1 a2 a3 k
  have ih0 := arrearsref3_Span.mono_l k
  unfold arrearsref3_Span.f
  repeat' first
      | (with_reducible exact ih0 _ _ _ _ _)
      | (with_reducible exact LeO.refl _)
      | (with_reducible exact LeO.none _)
      | (with_reducible refine LeO.ite ?_ ?_)
      | (with_reducible refine LeO.bind ?_ (fun _ => ?_))
      | exact ih0 _ _ _ _ _
      | exact LeO.none _
      | refine LeO.ite ?_ ?_
      | refine LeO.bind ?_ (fun _ => ?_)
set_option maxHeartbeats 8000000 in
set_option maxRecDepth 100000 in
theorem arrearsref3_Span.calls (k : Nat) (a0 : Int) (a1 : Int) (a2 : Int) (a3 : Int) (r1 : Int) (r2 : Int) (r3 : Bool) (w : World) (h : arrearsref3_Span.f k a0 a1 a2 a3 = some (r1, r2, r3)) :
    Calls Try.prog 19 #[.int .i64 a0, .int .i64 a1, .int .i64 a2, .int .i64 a3] w fun e w' => e = .returned (.tuple #[.int .i64 r1, .int .i64 r2, .bool r3]) ∧ Drawn0 w w' := by
  have H : (if a0 < 0 then (arrearsref3_Span.j0 k a0 a1 a2 a3 true) else ((arrearsref3_isRate.f a1).bind fun t164 => (if t164 = true then (if a2 < 0 then (arrearsref3_Span.j0 k a0 a1 a2 a3 true) else (if a2 ≥ 3650000 then (arrearsref3_Span.j0 k a0 a1 a2 a3 true) else (if a3 < 0 then (arrearsref3_Span.j0 k a0 a1 a2 a3 true) else (arrearsref3_Span.j0 k a0 a1 a2 a3 (decide (a3 > 3652059)))))) else (arrearsref3_Span.j0 k a0 a1 a2 a3 true)))) = some (r1, r2, r3) := h
  clear h
  have HC5 := Aside0.mk H
  clear H
  go_enter Try.func19, Try.ntmps19
  go_upto_region 1 with (fail)
  go_cut [37] (fun v37 wc => ∃ (kq : Nat) (x37_4 : Bool), v37 = .bool x37_4 ∧ Aside0 (arrearsref3_Span.j0 kq a0 a1 a2 a3 x37_4 = some (r1, r2, r3)) ∧ Aside0 (kq ≤ k) ∧ Drawn0 w wc)
  case first =>
    have H := HC5.out
    clear HC5
    by_cases c6 : a0 < 0
    · rw [if_pos c6] at H
      have c6b0 : decide (a0 < 0) = true := decide_eq_true c6
      clear c6
      (first | rw [c6b0] | (simp only [i64_w, i32_w]; rw [c6b0]) | skip)
      have H' := Aside0.mk H
      clear H
      go_wp2
      go_meet
      case rel => exact ⟨_, (true), (by first | rfl | (simp; done) | (simp [*]; done)), H', ⟨by first | omega | exact Nat.le_refl _⟩, by repeat (first | exact Drawn0.refl _ | apply Drawn0.step)⟩
    · rw [if_neg c6] at H
      have c6b0 : decide (a0 < 0) = false := decide_eq_false c6
      clear c6
      (first | rw [c6b0] | (simp only [i64_w, i32_w]; rw [c6b0]) | skip)
      replace H := Option.bind_eq_some_iff.mp H
      obtain ⟨t164, A70, H⟩ := H
      replace H : (if t164 = true then (if a2 < 0 then (arrearsref3_Span.j0 k a0 a1 a2 a3 true) else (if a2 ≥ 3650000 then (arrearsref3_Span.j0 k a0 a1 a2 a3 true) else (if a3 < 0 then (arrearsref3_Span.j0 k a0 a1 a2 a3 true) else (arrearsref3_Span.j0 k a0 a1 a2 a3 (decide (a3 > 3652059)))))) else (arrearsref3_Span.j0 k a0 a1 a2 a3 true)) = some (r1, r2, r3) := H
      have A7 := Aside0.mk A70
      clear A70
      by_cases c8 : t164 = true
      · subst c8
        have H1 : (if a2 < 0 then (arrearsref3_Span.j0 k a0 a1 a2 a3 true) else (if a2 ≥ 3650000 then (arrearsref3_Span.j0 k a0 a1 a2 a3 true) else (if a3 < 0 then (arrearsref3_Span.j0 k a0 a1 a2 a3 true) else (arrearsref3_Span.j0 k a0 a1 a2 a3 (decide (a3 > 3652059)))))) = some (r1, r2, r3) := by rw [if_pos rfl] at H; exact H
        clear H
        have H := H1
        clear H1
        by_cases c9 : a2 < 0
        · rw [if_pos c9] at H
          have c9b0 : decide (a2 < 0) = true := decide_eq_true c9
          clear c9
          have H' := Aside0.mk H
          clear H
          go_wp2_with (first | (go_at_call 26; (with_reducible refine (arrearsref3_isRate.calls a1 true _ A7.out).mono ?_); rintro e w' ⟨rfl, ⟨nd, rfl⟩⟩))
          go_meet
          case rel => exact ⟨_, (true), (by first | rfl | (simp; done) | (simp [*]; done)), H', ⟨by first | omega | exact Nat.le_refl _⟩, by repeat (first | exact Drawn0.refl _ | apply Drawn0.step)⟩
        · rw [if_neg c9] at H
          have c9b0 : decide (a2 < 0) = false := decide_eq_false c9
          clear c9
          by_cases c10 : a2 ≥ 3650000
          · rw [if_pos c10] at H
            have c10b0 : decide (3650000 ≤ a2) = true := decide_eq_true c10
            clear c10
            have H' := Aside0.mk H
            clear H
            go_wp2_with (first | (go_at_call 26; (with_reducible refine (arrearsref3_isRate.calls a1 true _ A7.out).mono ?_); rintro e w' ⟨rfl, ⟨nd, rfl⟩⟩))
            go_meet
            case rel => exact ⟨_, (true), (by first | rfl | (simp; done) | (simp [*]; done)), H', ⟨by first | omega | exact Nat.le_refl _⟩, by repeat (first | exact Drawn0.refl _ | apply Drawn0.step)⟩
          · rw [if_neg c10] at H
            have c10b0 : decide (3650000 ≤ a2) = false := decide_eq_false c10
            clear c10
            by_cases c11 : a3 < 0
            · rw [if_pos c11] at H
              have c11b0 : decide (a3 < 0) = true := decide_eq_true c11
              clear c11
              have H' := Aside0.mk H
              clear H
              go_wp2_with (first | (go_at_call 26; (with_reducible refine (arrearsref3_isRate.calls a1 true _ A7.out).mono ?_); rintro e w' ⟨rfl, ⟨nd, rfl⟩⟩))
              go_meet
              case rel => exact ⟨_, (true), (by first | rfl | (simp; done) | (simp [*]; done)), H', ⟨by first | omega | exact Nat.le_refl _⟩, by repeat (first | exact Drawn0.refl _ | apply Drawn0.step)⟩
            · rw [if_neg c11] at H
              have c11b0 : decide (a3 < 0) = false := decide_eq_false c11
              clear c11
              have H' := Aside0.mk H
              clear H
              go_wp2_with (first | (go_at_call 26; (with_reducible refine (arrearsref3_isRate.calls a1 true _ A7.out).mono ?_); rintro e w' ⟨rfl, ⟨nd, rfl⟩⟩))
              go_meet
              case rel => exact ⟨_, (decide (a3 > 3652059)), (by first | rfl | (simp; done) | (simp [*]; done)), H', ⟨by first | omega | exact Nat.le_refl _⟩, by repeat (first | exact Drawn0.refl _ | apply Drawn0.step)⟩
      · replace c8 := Bool.eq_false_iff.mpr c8
        subst c8
        have H1 : (arrearsref3_Span.j0 k a0 a1 a2 a3 true) = some (r1, r2, r3) := by rw [if_neg (show ¬ (false = true) by decide)] at H; exact H
        clear H
        have H := H1
        clear H1
        have H' := Aside0.mk H
        clear H
        go_wp2_with (first | (go_at_call 26; (with_reducible refine (arrearsref3_isRate.calls a1 false _ A7.out).mono ?_); rintro e w' ⟨rfl, ⟨nd, rfl⟩⟩))
        go_meet
        case rel => exact ⟨_, (true), (by first | rfl | (simp; done) | (simp [*]; done)), H', ⟨by first | omega | exact Nat.le_refl _⟩, by repeat (first | exact Drawn0.refl _ | apply Drawn0.step)⟩
  case rest =>
    clear HC5
    try clear c1
    try clear p2
    try clear c6
    try clear c6b0
    try clear c8
    try clear c9
    try clear c9b0
    try clear c10
    try clear c10b0
    try clear c11
    try clear c11b0
    obtain ⟨kq, x37_4, rfl, HA, HJ4, ⟨mc4, rfl⟩⟩ := hcut
    cases kq with
    | zero => exact absurd HA.out (by simp [arrearsref3_Span.j0])
    | succ kj4 =>
      have H := HA.out
      clear HA
      simp only [arrearsref3_Span.j0] at H
      by_cases c12 : x37_4 = true
      · subst c12
        have H1 : (some (0, 0, false)) = some (r1, r2, r3) := by rw [if_pos rfl] at H; exact H
        clear H
        have H := H1
        clear H1
        simp only [Option.some.injEq, Prod.mk.injEq] at H
        obtain ⟨rfl, rfl, rfl⟩ := H
        go_wp2
        go_ret3
        exact ⟨by first | rfl | (simp; done) | (simp [*]; done), by repeat (first | exact Drawn0.refl _ | apply Drawn0.step)⟩
      · replace c12 := Bool.eq_false_iff.mpr c12
        subst c12
        have H1 : (if a3 > 0 then (if a3 = 0 then (none) else (if (wrap64 ((wrap64 (Int.tdiv a0 3650000)) * a1)) > (wrap64 (Int.tdiv (wrap64 (9223372036854775807 - (wrap64 (Int.tdiv (wrap64 ((wrap64 ((wrap64 ((Int.tmod a0 3650000) * a1)) * a3)) + a2)) 3650000)))) a3)) then (some (0, 0, false)) else (some (wrap64 ((wrap64 ((wrap64 ((wrap64 (Int.tdiv a0 3650000)) * a1)) * a3)) + (wrap64 (Int.tdiv (wrap64 ((wrap64 ((wrap64 ((Int.tmod a0 3650000) * a1)) * a3)) + a2)) 3650000))), Int.tmod (wrap64 ((wrap64 ((wrap64 ((Int.tmod a0 3650000) * a1)) * a3)) + a2)) 3650000, true)))) else (some (wrap64 ((wrap64 ((wrap64 ((wrap64 (Int.tdiv a0 3650000)) * a1)) * a3)) + (wrap64 (Int.tdiv (wrap64 ((wrap64 ((wrap64 ((Int.tmod a0 3650000) * a1)) * a3)) + a2)) 3650000))), Int.tmod (wrap64 ((wrap64 ((wrap64 ((Int.tmod a0 3650000) * a1)) * a3)) + a2)) 3650000, true))) = some (r1, r2, r3) := by rw [if_neg (show ¬ (false = true) by decide)] at H; exact H
        clear H
        have H := H1
        clear H1
        by_cases c13 : a3 > 0
        · rw [if_pos c13] at H
          have c13b0 : decide (0 < a3) = true := decide_eq_true c13
          clear c13
          by_cases c14 : a3 = 0
          · rw [if_pos c14] at H
            exact absurd H (by simp)
          · rw [if_neg c14] at H
            have c14b0 : (a3 == 0) = false := beq_eq_false_iff_ne.mpr c14
            have c14b1 : (a3 != 0) = true := bne_iff_ne.mpr c14
            by_cases c15 : (wrap64 ((wrap64 (Int.tdiv a0 3650000)) * a1)) > (wrap64 (Int.tdiv (wrap64 (9223372036854775807 - (wrap64 (Int.tdiv (wrap64 ((wrap64 ((wrap64 ((Int.tmod a0 3650000) * a1)) * a3)) + a2)) 3650000)))) a3))
            · rw [if_pos c15] at H
              have c15b0 : decide ((wrap64 (Int.tdiv (wrap64 (9223372036854775807 - (wrap64 (Int.tdiv (wrap64 ((wrap64 ((wrap64 ((Int.tmod a0 3650000) * a1)) * a3)) + a2)) 3650000)))) a3)) < (wrap64 ((wrap64 (Int.tdiv a0 3650000)) * a1))) = true := decide_eq_true c15
              clear c15
              simp only [Option.some.injEq, Prod.mk.injEq] at H
              obtain ⟨rfl, rfl, rfl⟩ := H
              go_wp2
              go_ret3
              exact ⟨by first | rfl | (simp; done) | (simp [*]; done), by repeat (first | exact Drawn0.refl _ | apply Drawn0.step)⟩
            · rw [if_neg c15] at H
              have c15b0 : decide ((wrap64 (Int.tdiv (wrap64 (9223372036854775807 - (wrap64 (Int.tdiv (wrap64 ((wrap64 ((wrap64 ((Int.tmod a0 3650000) * a1)) * a3)) + a2)) 3650000)))) a3)) < (wrap64 ((wrap64 (Int.tdiv a0 3650000)) * a1))) = false := decide_eq_false c15
              clear c15
              simp only [Option.some.injEq, Prod.mk.injEq] at H
              obtain ⟨rfl, rfl, rfl⟩ := H
              go_wp2
              go_ret3
              exact ⟨by first | rfl | (simp; done) | (simp [*]; done), by repeat (first | exact Drawn0.refl _ | apply Drawn0.step)⟩
        · rw [if_neg c13] at H
          have c13b0 : decide (0 < a3) = false := decide_eq_false c13
          clear c13
          simp only [Option.some.injEq, Prod.mk.injEq] at H
          obtain ⟨rfl, rfl, rfl⟩ := H
          go_wp2
          go_ret3
          exact ⟨by first | rfl | (simp; done) | (simp [*]; done), by repeat (first | exact Drawn0.refl _ | apply Drawn0.step)⟩

/-! ### arrearsref3_Daily: function 18 -/
def arrearsref3_Daily.f (k : Nat) (a0 : Int) (a1 : Int) (a2 : Int) : Option (Int × Int × Bool) := (arrearsref3_Span.f k a0 a1 a2 1).bind fun bt165 => (some (bt165.1, bt165.2.1, bt165.2.2))
theorem arrearsref3_Daily.mono : ∀ a0 a1 a2 k, LeO (arrearsref3_Daily.f k a0 a1 a2) (arrearsref3_Daily.f (k + 1) a0 a1 a2) := by
  intro a0 a1 a2 k
  unfold arrearsref3_Daily.f
  repeat' first
      | (with_reducible exact arrearsref3_Span.mono _ _ _ _ _)
      | (with_reducible exact LeO.refl _)
      | (with_reducible exact LeO.none _)
      | (with_reducible refine LeO.ite ?_ ?_)
      | (with_reducible refine LeO.bind ?_ (fun _ => ?_))
      | exact arrearsref3_Span.mono _ _ _ _ _
      | exact LeO.none _
      | refine LeO.ite ?_ ?_
      | refine LeO.bind ?_ (fun _ => ?_)
set_option maxHeartbeats 8000000 in
set_option maxRecDepth 100000 in
theorem arrearsref3_Daily.calls (k : Nat) (a0 : Int) (a1 : Int) (a2 : Int) (r1 : Int) (r2 : Int) (r3 : Bool) (w : World) (h : arrearsref3_Daily.f k a0 a1 a2 = some (r1, r2, r3)) :
    Calls Try.prog 18 #[.int .i64 a0, .int .i64 a1, .int .i64 a2] w fun e w' => e = .returned (.tuple #[.int .i64 r1, .int .i64 r2, .bool r3]) ∧ Drawn0 w w' := by
  have H : ((arrearsref3_Span.f k a0 a1 a2 1).bind fun bt165 => (some (bt165.1, bt165.2.1, bt165.2.2))) = some (r1, r2, r3) := h
  clear h
  replace H := Option.bind_eq_some_iff.mp H
  obtain ⟨⟨t165, t166, t167⟩, A40, H⟩ := H
  replace H : (some (t165, t166, t167)) = some (r1, r2, r3) := H
  have A4 := Aside0.mk A40
  clear A40
  simp only [Option.some.injEq, Prod.mk.injEq] at H
  obtain ⟨rfl, rfl, rfl⟩ := H
  go_enter Try.func18, Try.ntmps18
  go_wp2_with (first | ((with_reducible refine gate_callee (f := 19) rfl ?_); refine goesL_ (some 12) rfl rfl Try.func19 (by kernel_rfl) rfl #[.int .i64 a0, .int .i64 a1, .int .i64 a2, .int .i64 1] rfl (by (try simp only [List.map_toArray, List.map_cons, List.map_nil]); first | done | rfl | (simp only [List.length_drop, List.length_take]; rfl)) ?_; (with_reducible refine (arrearsref3_Span.calls k a0 a1 a2 1 t165 t166 t167 _ A4.out).mono ?_); rintro e w' ⟨rfl, ⟨nd, rfl⟩⟩; refine ⟨_, rfl, ?_⟩))
  go_ret3
  exact ⟨by first | rfl | (simp; done) | (simp [*]; done), by repeat (first | exact Drawn0.refl _ | apply Drawn0.step)⟩

/-! ### arrearslaw3_InterestSpans: function 7 -/
def arrearslaw3_InterestSpans.j0 : Nat → Int → Int → Int → Int → Bool → Option (Bool)
  | 0, _, _, _, _, _ => none
  | k + 1, x0, x1, x2, x3, x43 => if x43 = true then (some false) else ((interest_Span.f k x0 x1 x2 x3).bind fun bt174 => ((arrearsref3_Span.f k x0 x1 x2 x3).bind fun bt177 => (if bt174.1 = bt177.1 then (if bt174.2.1 = bt177.2.1 then (some (bt174.2.2 == bt177.2.2)) else (some false)) else (some false))))
def arrearslaw3_InterestSpans.f (k : Nat) (a0 : Int) (a1 : Int) (a2 : Int) (a3 : Int) : Option (Bool) := (interest_Daily.f k a0 a1 a2).bind fun bt168 => ((arrearsref3_Daily.f k a0 a1 a2).bind fun bt171 => (if bt168.1 = bt171.1 then (if bt168.2.1 = bt171.2.1 then (arrearslaw3_InterestSpans.j0 k a0 a1 a2 a3 (bt168.2.2 != bt171.2.2)) else (arrearslaw3_InterestSpans.j0 k a0 a1 a2 a3 true)) else (arrearslaw3_InterestSpans.j0 k a0 a1 a2 a3 true)))
theorem arrearslaw3_InterestSpans.mono_l : ∀ k, (∀ y0 y1 y2 y3 y4, LeO (arrearslaw3_InterestSpans.j0 k y0 y1 y2 y3 y4) (arrearslaw3_InterestSpans.j0 (k + 1) y0 y1 y2 y3 y4))
  | 0 => fun _ _ _ _ _ r h => by simp [arrearslaw3_InterestSpans.j0] at h
  | k + 1 => by
    have ih0 := arrearslaw3_InterestSpans.mono_l k
    · intro y0 y1 y2 y3 y4
      unfold arrearslaw3_InterestSpans.j0
      repeat' first
      | (with_reducible exact ih0 _ _ _ _ _)
      | (with_reducible exact arrearsref3_Daily.mono _ _ _ _)
      | (with_reducible exact arrearsref3_Span.mono _ _ _ _ _)
      | (with_reducible exact interest_Daily.mono _ _ _ _)
      | (with_reducible exact interest_Span.mono _ _ _ _ _)
      | (with_reducible exact LeO.refl _)
      | (with_reducible exact LeO.none _)
      | (with_reducible refine LeO.ite ?_ ?_)
      | (with_reducible refine LeO.bind ?_ (fun _ => ?_))
      | exact ih0 _ _ _ _ _
      | exact arrearsref3_Daily.mono _ _ _ _
      | exact arrearsref3_Span.mono _ _ _ _ _
      | exact interest_Daily.mono _ _ _ _
      | exact interest_Span.mono _ _ _ _ _
      | exact LeO.none _
      | refine LeO.ite ?_ ?_
      | refine LeO.bind ?_ (fun _ => ?_)
theorem arrearslaw3_InterestSpans.mono : ∀ a0 a1 a2 a3 k, LeO (arrearslaw3_InterestSpans.f k a0 a1 a2 a3) (arrearslaw3_InterestSpans.f (k + 1) a0 a1 a2 a3) := by
  intro a0 a1 a2 a3 k
  have ih0 := arrearslaw3_InterestSpans.mono_l k
  unfold arrearslaw3_InterestSpans.f
  repeat' first
      | (with_reducible exact ih0 _ _ _ _ _)
      | (with_reducible exact arrearsref3_Daily.mono _ _ _ _)
      | (with_reducible exact arrearsref3_Span.mono _ _ _ _ _)
      | (with_reducible exact interest_Daily.mono _ _ _ _)
      | (with_reducible exact interest_Span.mono _ _ _ _ _)
      | (with_reducible exact LeO.refl _)
      | (with_reducible exact LeO.none _)
      | (with_reducible refine LeO.ite ?_ ?_)
      | (with_reducible refine LeO.bind ?_ (fun _ => ?_))
      | exact ih0 _ _ _ _ _
      | exact arrearsref3_Daily.mono _ _ _ _
      | exact arrearsref3_Span.mono _ _ _ _ _
      | exact interest_Daily.mono _ _ _ _
      | exact interest_Span.mono _ _ _ _ _
      | exact LeO.none _
      | refine LeO.ite ?_ ?_
      | refine LeO.bind ?_ (fun _ => ?_)
set_option maxHeartbeats 8000000 in
set_option maxRecDepth 100000 in
theorem arrearslaw3_InterestSpans.calls (k : Nat) (a0 : Int) (a1 : Int) (a2 : Int) (a3 : Int) (r : Bool) (w : World) (h : arrearslaw3_InterestSpans.f k a0 a1 a2 a3 = some r) :
    Calls Try.prog 7 #[.int .i64 a0, .int .i64 a1, .int .i64 a2, .int .i64 a3] w fun e w' => e = .returned (.bool r) ∧ Drawn0 w w' := by
  have H : ((interest_Daily.f k a0 a1 a2).bind fun bt168 => ((arrearsref3_Daily.f k a0 a1 a2).bind fun bt171 => (if bt168.1 = bt171.1 then (if bt168.2.1 = bt171.2.1 then (arrearslaw3_InterestSpans.j0 k a0 a1 a2 a3 (bt168.2.2 != bt171.2.2)) else (arrearslaw3_InterestSpans.j0 k a0 a1 a2 a3 true)) else (arrearslaw3_InterestSpans.j0 k a0 a1 a2 a3 true)))) = some r := h
  clear h
  replace H := Option.bind_eq_some_iff.mp H
  obtain ⟨⟨t168, t169, t170⟩, A50, H⟩ := H
  replace H : ((arrearsref3_Daily.f k a0 a1 a2).bind fun bt171 => (if t168 = bt171.1 then (if t169 = bt171.2.1 then (arrearslaw3_InterestSpans.j0 k a0 a1 a2 a3 (t170 != bt171.2.2)) else (arrearslaw3_InterestSpans.j0 k a0 a1 a2 a3 true)) else (arrearslaw3_InterestSpans.j0 k a0 a1 a2 a3 true))) = some r := H
  have A5 := Aside0.mk A50
  clear A50
  replace H := Option.bind_eq_some_iff.mp H
  obtain ⟨⟨t171, t172, t173⟩, A60, H⟩ := H
  replace H : (if t168 = t171 then (if t169 = t172 then (arrearslaw3_InterestSpans.j0 k a0 a1 a2 a3 (t170 != t173)) else (arrearslaw3_InterestSpans.j0 k a0 a1 a2 a3 true)) else (arrearslaw3_InterestSpans.j0 k a0 a1 a2 a3 true)) = some r := H
  have A6 := Aside0.mk A60
  clear A60
  have HC7 := Aside0.mk H
  clear H
  go_enter Try.func7, Try.ntmps7
  go_upto_region 3 with (first | ((with_reducible refine gate_callee (f := 17) rfl ?_); refine goesL_ (some 19) rfl rfl Try.func17 (by kernel_rfl) rfl #[.int .i64 a0, .int .i64 a1, .int .i64 a2] rfl (by (try simp only [List.map_toArray, List.map_cons, List.map_nil]); first | done | rfl | (simp only [List.length_drop, List.length_take]; rfl)) ?_; (with_reducible refine (interest_Daily.calls k a0 a1 a2 t168 t169 t170 _ A5.out).mono ?_); rintro e w' ⟨rfl, ⟨nd, rfl⟩⟩; refine ⟨_, rfl, ?_⟩) | ((with_reducible refine gate_callee (f := 18) rfl ?_); refine goesL_ (some 27) rfl rfl Try.func18 (by kernel_rfl) rfl #[.int .i64 a0, .int .i64 a1, .int .i64 a2] rfl (by (try simp only [List.map_toArray, List.map_cons, List.map_nil]); first | done | rfl | (simp only [List.length_drop, List.length_take]; rfl)) ?_; (with_reducible refine (arrearsref3_Daily.calls k a0 a1 a2 t171 t172 t173 _ A6.out).mono ?_); rintro e w' ⟨rfl, ⟨nd, rfl⟩⟩; refine ⟨_, rfl, ?_⟩))
  (try simp only [Act.put, List.setIfInBounds_toArray, List.set_cons_zero, List.set_cons_succ])
  go_cut [43] (fun v43 wc => ∃ (kq : Nat) (x43_6 : Bool), v43 = .bool x43_6 ∧ Aside0 (arrearslaw3_InterestSpans.j0 kq a0 a1 a2 a3 x43_6 = some r) ∧ Aside0 (kq ≤ k) ∧ Drawn0 w wc)
  case first =>
    have H := HC7.out
    clear HC7
    by_cases c8 : t168 = t171
    · rw [if_pos c8] at H
      have c8b0 : (t168 == t171) = true := beq_iff_eq.mpr c8
      have c8b1 : (t168 != t171) = false := bne_eq_false_iff_eq.mpr c8
      clear c8
      (first | rw [c8b0] | (simp only [i64_w, i32_w]; rw [c8b0]) | skip)
      by_cases c9 : t169 = t172
      · rw [if_pos c9] at H
        have c9b0 : (t169 == t172) = true := beq_iff_eq.mpr c9
        have c9b1 : (t169 != t172) = false := bne_eq_false_iff_eq.mpr c9
        clear c9
        have H' := Aside0.mk H
        clear H
        go_wp2
        go_meet
        case rel => exact ⟨_, ((t170 != t173)), (by first | rfl | (simp; done) | (simp [*]; done)), H', ⟨by first | omega | exact Nat.le_refl _⟩, by repeat (first | exact Drawn0.refl _ | apply Drawn0.step)⟩
      · rw [if_neg c9] at H
        have c9b0 : (t169 == t172) = false := beq_eq_false_iff_ne.mpr c9
        have c9b1 : (t169 != t172) = true := bne_iff_ne.mpr c9
        have H' := Aside0.mk H
        clear H
        go_wp2
        go_meet
        case rel => exact ⟨_, (true), (by first | rfl | (simp; done) | (simp [*]; done)), H', ⟨by first | omega | exact Nat.le_refl _⟩, by repeat (first | exact Drawn0.refl _ | apply Drawn0.step)⟩
    · rw [if_neg c8] at H
      have c8b0 : (t168 == t171) = false := beq_eq_false_iff_ne.mpr c8
      have c8b1 : (t168 != t171) = true := bne_iff_ne.mpr c8
      (first | rw [c8b0] | (simp only [i64_w, i32_w]; rw [c8b0]) | skip)
      have H' := Aside0.mk H
      clear H
      go_wp2
      go_meet
      case rel => exact ⟨_, (true), (by first | rfl | (simp; done) | (simp [*]; done)), H', ⟨by first | omega | exact Nat.le_refl _⟩, by repeat (first | exact Drawn0.refl _ | apply Drawn0.step)⟩
  case rest =>
    clear HC7
    try clear c1
    try clear p2
    try clear c7
    try clear c8
    try clear c8b0
    try clear c8b1
    try clear c9
    try clear c9b0
    try clear c9b1
    obtain ⟨kq, x43_6, rfl, HA, HJ6, ⟨mc6, rfl⟩⟩ := hcut
    cases kq with
    | zero => exact absurd HA.out (by simp [arrearslaw3_InterestSpans.j0])
    | succ kj6 =>
      have H := HA.out
      clear HA
      simp only [arrearslaw3_InterestSpans.j0] at H
      by_cases c10 : x43_6 = true
      · subst c10
        have H1 : (some false) = some r := by rw [if_pos rfl] at H; exact H
        clear H
        have H := H1
        clear H1
        obtain rfl := Option.some.inj H
        go_wp2
        go_ret
        exact ⟨by first | rfl | (simp; done) | (simp [*]; done), by repeat (first | exact Drawn0.refl _ | apply Drawn0.step)⟩
      · replace c10 := Bool.eq_false_iff.mpr c10
        subst c10
        have H1 : ((interest_Span.f kj6 a0 a1 a2 a3).bind fun bt174 => ((arrearsref3_Span.f kj6 a0 a1 a2 a3).bind fun bt177 => (if bt174.1 = bt177.1 then (if bt174.2.1 = bt177.2.1 then (some (bt174.2.2 == bt177.2.2)) else (some false)) else (some false)))) = some r := by rw [if_neg (show ¬ (false = true) by decide)] at H; exact H
        clear H
        have H := H1
        clear H1
        replace H := Option.bind_eq_some_iff.mp H
        obtain ⟨⟨t174, t175, t176⟩, A110, H⟩ := H
        replace H : ((arrearsref3_Span.f kj6 a0 a1 a2 a3).bind fun bt177 => (if t174 = bt177.1 then (if t175 = bt177.2.1 then (some (t176 == bt177.2.2)) else (some false)) else (some false))) = some r := H
        have A11 := Aside0.mk A110
        clear A110
        replace H := Option.bind_eq_some_iff.mp H
        obtain ⟨⟨t177, t178, t179⟩, A120, H⟩ := H
        replace H : (if t174 = t177 then (if t175 = t178 then (some (t176 == t179)) else (some false)) else (some false)) = some r := H
        have A12 := Aside0.mk A120
        clear A120
        by_cases c13 : t174 = t177
        · rw [if_pos c13] at H
          have c13b0 : (t174 == t177) = true := beq_iff_eq.mpr c13
          have c13b1 : (t174 != t177) = false := bne_eq_false_iff_eq.mpr c13
          clear c13
          by_cases c14 : t175 = t178
          · rw [if_pos c14] at H
            have c14b0 : (t175 == t178) = true := beq_iff_eq.mpr c14
            have c14b1 : (t175 != t178) = false := bne_eq_false_iff_eq.mpr c14
            clear c14
            obtain rfl := Option.some.inj H
            go_wp2_with (first | ((with_reducible refine gate_callee (f := 15) rfl ?_); refine goesL_ (some 49) rfl rfl Try.func15 (by kernel_rfl) rfl #[.int .i64 a0, .int .i64 a1, .int .i64 a2, .int .i64 a3] rfl (by (try simp only [List.map_toArray, List.map_cons, List.map_nil]); first | done | rfl | (simp only [List.length_drop, List.length_take]; rfl)) ?_; (with_reducible refine (interest_Span.calls kj6 a0 a1 a2 a3 t174 t175 t176 _ A11.out).mono ?_); rintro e w' ⟨rfl, ⟨nd, rfl⟩⟩; refine ⟨_, rfl, ?_⟩) | ((with_reducible refine gate_callee (f := 19) rfl ?_); refine goesL_ (some 58) rfl rfl Try.func19 (by kernel_rfl) rfl #[.int .i64 a0, .int .i64 a1, .int .i64 a2, .int .i64 a3] rfl (by (try simp only [List.map_toArray, List.map_cons, List.map_nil]); first | done | rfl | (simp only [List.length_drop, List.length_take]; rfl)) ?_; (with_reducible refine (arrearsref3_Span.calls kj6 a0 a1 a2 a3 t177 t178 t179 _ A12.out).mono ?_); rintro e w' ⟨rfl, ⟨nd, rfl⟩⟩; refine ⟨_, rfl, ?_⟩))
            go_ret
            exact ⟨by first | rfl | (simp; done) | (simp [*]; done), by repeat (first | exact Drawn0.refl _ | apply Drawn0.step)⟩
          · rw [if_neg c14] at H
            have c14b0 : (t175 == t178) = false := beq_eq_false_iff_ne.mpr c14
            have c14b1 : (t175 != t178) = true := bne_iff_ne.mpr c14
            obtain rfl := Option.some.inj H
            go_wp2_with (first | ((with_reducible refine gate_callee (f := 15) rfl ?_); refine goesL_ (some 49) rfl rfl Try.func15 (by kernel_rfl) rfl #[.int .i64 a0, .int .i64 a1, .int .i64 a2, .int .i64 a3] rfl (by (try simp only [List.map_toArray, List.map_cons, List.map_nil]); first | done | rfl | (simp only [List.length_drop, List.length_take]; rfl)) ?_; (with_reducible refine (interest_Span.calls kj6 a0 a1 a2 a3 t174 t175 t176 _ A11.out).mono ?_); rintro e w' ⟨rfl, ⟨nd, rfl⟩⟩; refine ⟨_, rfl, ?_⟩) | ((with_reducible refine gate_callee (f := 19) rfl ?_); refine goesL_ (some 58) rfl rfl Try.func19 (by kernel_rfl) rfl #[.int .i64 a0, .int .i64 a1, .int .i64 a2, .int .i64 a3] rfl (by (try simp only [List.map_toArray, List.map_cons, List.map_nil]); first | done | rfl | (simp only [List.length_drop, List.length_take]; rfl)) ?_; (with_reducible refine (arrearsref3_Span.calls kj6 a0 a1 a2 a3 t177 t178 t179 _ A12.out).mono ?_); rintro e w' ⟨rfl, ⟨nd, rfl⟩⟩; refine ⟨_, rfl, ?_⟩))
            go_ret
            exact ⟨by first | rfl | (simp; done) | (simp [*]; done), by repeat (first | exact Drawn0.refl _ | apply Drawn0.step)⟩
        · rw [if_neg c13] at H
          have c13b0 : (t174 == t177) = false := beq_eq_false_iff_ne.mpr c13
          have c13b1 : (t174 != t177) = true := bne_iff_ne.mpr c13
          obtain rfl := Option.some.inj H
          go_wp2_with (first | ((with_reducible refine gate_callee (f := 15) rfl ?_); refine goesL_ (some 49) rfl rfl Try.func15 (by kernel_rfl) rfl #[.int .i64 a0, .int .i64 a1, .int .i64 a2, .int .i64 a3] rfl (by (try simp only [List.map_toArray, List.map_cons, List.map_nil]); first | done | rfl | (simp only [List.length_drop, List.length_take]; rfl)) ?_; (with_reducible refine (interest_Span.calls kj6 a0 a1 a2 a3 t174 t175 t176 _ A11.out).mono ?_); rintro e w' ⟨rfl, ⟨nd, rfl⟩⟩; refine ⟨_, rfl, ?_⟩) | ((with_reducible refine gate_callee (f := 19) rfl ?_); refine goesL_ (some 58) rfl rfl Try.func19 (by kernel_rfl) rfl #[.int .i64 a0, .int .i64 a1, .int .i64 a2, .int .i64 a3] rfl (by (try simp only [List.map_toArray, List.map_cons, List.map_nil]); first | done | rfl | (simp only [List.length_drop, List.length_take]; rfl)) ?_; (with_reducible refine (arrearsref3_Span.calls kj6 a0 a1 a2 a3 t177 t178 t179 _ A12.out).mono ?_); rintro e w' ⟨rfl, ⟨nd, rfl⟩⟩; refine ⟨_, rfl, ?_⟩))
          go_ret
          exact ⟨by first | rfl | (simp; done) | (simp [*]; done), by repeat (first | exact Drawn0.refl _ | apply Drawn0.step)⟩

/-- THE ONE PURE STATEMENT of arrearslaw3_InterestSpans: yours. -/
def arrearslaw3_InterestSpans.Pure : Prop := ∀ (a0 : Int) (a1 : Int) (a2 : Int) (a3 : Int), (Lit.int .i64 a0).wf = true → (Lit.int .i64 a1).wf = true → (Lit.int .i64 a2).wf = true → (Lit.int .i64 a3).wf = true → ∃ k, arrearslaw3_InterestSpans.f k a0 a1 a2 a3 = some true
theorem arrearslaw3_InterestSpans.walk (P : arrearslaw3_InterestSpans.Pure) (a0 : Int) (a1 : Int) (a2 : Int) (a3 : Int) (w : World) (w0 : (Lit.int .i64 a0).wf = true) (w1 : (Lit.int .i64 a1).wf = true) (w2 : (Lit.int .i64 a2).wf = true) (w3 : (Lit.int .i64 a3).wf = true) :
    Calls Try.prog 7 #[.int .i64 a0, .int .i64 a1, .int .i64 a2, .int .i64 a3] w fun e w' => e = .returned (.bool true) ∧ Below w.heap.size w w' := by
  obtain ⟨k, h⟩ := P a0 a1 a2 a3 w0 w1 w2 w3
  refine (arrearslaw3_InterestSpans.calls k a0 a1 a2 a3 true w h).mono ?_
  rintro e w' ⟨rfl, hd⟩
  exact ⟨rfl, hd.below⟩

end Go.Proofs.Ytcaeaklbglhghaa.PA
