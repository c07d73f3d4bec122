-- Laid by wip/myprint.py, a driver over the kit's print, for this claim: a lemma's text, not read by a person.
import Derived.Test.YtfofcgflamidhaaPAllx0
import Derived.Test.YtfofcgflamidhaaPAllx1
import Derived.Test.YtfofcgflamidhaaPAllx3
import Derived.Test.YtfofcgflamidhaaPAllx8
namespace Go.Proofs.Ytfofcgflamidhaa.PAll
open Go.RowKit Go.Proofs.YtfofcgflamidhaaW.PrintWords Go.Proofs.YtfofcgflamidhaaW.PrintLast Go.Proofs.YtfofcgflamidhaaW.PrintMore
attribute [local go_sem] max2_int min2_int max_two min_two max_three min_three max_four min_four   -- for this text's walks alone
set_option linter.unusedVariables false
set_option linter.unusedSimpArgs false

attribute [local go_sem] run_ad64
/-! ### arrearslaw1_MoneyFloorRest: function 8 -/
def arrearslaw1_MoneyFloorRest.j0 : Nat → Int → Int → Int → Int → Int → Bool → Option (Bool)
  | 0, _, _, _, _, _, _ => none
  | k + 1, x0, x1, x2, x7, x8, x46 => if x46 = true then (some false) else ((arrearslaw1_small.f x0).bind fun t306 => (if t306 = true then ((arrearslaw1_small.f x1).bind fun t307 => (if t307 = true then ((arrearslaw1_small.f x2).bind fun t308 => (if t308 = true then (if x7 ≥ (-1152921504606846976) then (if x7 ≤ 1152921504606846976 then (if x2 = 0 then (none) else (if x7 ≤ (wrap64 (Int.tdiv (wrap64 (x0 * x1)) x2)) then (if x7 ≥ (wrap64 ((wrap64 (Int.tdiv (wrap64 (x0 * x1)) x2)) - 1)) then (some ((wrap64 (x0 * x1)) == (wrap64 ((wrap64 (x7 * x2)) + x8)))) else (some false)) else (some false))) else (some false)) else (some false)) else (some ((wrap64 (x0 * x1)) == (wrap64 ((wrap64 (x7 * x2)) + x8)))))) else (some ((wrap64 (x0 * x1)) == (wrap64 ((wrap64 (x7 * x2)) + x8)))))) else (some ((wrap64 (x0 * x1)) == (wrap64 ((wrap64 (x7 * x2)) + x8))))))
def arrearslaw1_MoneyFloorRest.f (k : Nat) (a0 : Int) (a1 : Int) (a2 : Int) : Option (Bool) := (money_MulDivFloor.f k a0 a1 a2).bind fun bt301 => (if bt301.2.2 = true then (if a2 ≤ 0 then (arrearslaw1_MoneyFloorRest.j0 k a0 a1 a2 bt301.1 bt301.2.1 true) else (if bt301.2.1 < 0 then (arrearslaw1_MoneyFloorRest.j0 k a0 a1 a2 bt301.1 bt301.2.1 true) else (arrearslaw1_MoneyFloorRest.j0 k a0 a1 a2 bt301.1 bt301.2.1 (decide (bt301.2.1 ≥ a2))))) else (if a2 > 0 then ((arrearslaw1_small.f a0).bind fun t304 => (if t304 = true then ((arrearslaw1_small.f a1).bind fun t305 => (if t305 = true then (some false) else (if bt301.1 = 0 then (some (bt301.2.1 == 0)) else (some false)))) else (if bt301.1 = 0 then (some (bt301.2.1 == 0)) else (some false)))) else (if bt301.1 = 0 then (some (bt301.2.1 == 0)) else (some false))))
theorem arrearslaw1_MoneyFloorRest.mono_l : ∀ k, (∀ y0 y1 y2 y3 y4 y5, LeO (arrearslaw1_MoneyFloorRest.j0 k y0 y1 y2 y3 y4 y5) (arrearslaw1_MoneyFloorRest.j0 (k + 1) y0 y1 y2 y3 y4 y5))
  | 0 => fun _ _ _ _ _ _ r h => by simp [arrearslaw1_MoneyFloorRest.j0] at h
  | k + 1 => by
    have ih0 := arrearslaw1_MoneyFloorRest.mono_l k
    · intro y0 y1 y2 y3 y4 y5
      unfold arrearslaw1_MoneyFloorRest.j0
      repeat' first
      | (with_reducible exact ih0 _ _ _ _ _ _)
      | (with_reducible exact money_MulDivFloor.mono _ _ _ _)
      | (with_reducible exact LeO.refl _)
      | (with_reducible exact LeO.none _)
      | (with_reducible refine LeO.ite ?_ ?_)
      | (with_reducible refine LeO.bind ?_ (fun _ => ?_))
      | exact ih0 _ _ _ _ _ _
      | exact money_MulDivFloor.mono _ _ _ _
      | exact LeO.none _
      | refine LeO.ite ?_ ?_
      | refine LeO.bind ?_ (fun _ => ?_)
theorem arrearslaw1_MoneyFloorRest.mono : ∀ a0 a1 a2 k, LeO (arrearslaw1_MoneyFloorRest.f k a0 a1 a2) (arrearslaw1_MoneyFloorRest.f (k + 1) a0 a1 a2) := by
  intro a0 a1 a2 k
  have ih0 := arrearslaw1_MoneyFloorRest.mono_l k
  unfold arrearslaw1_MoneyFloorRest.f
  repeat' first
      | (with_reducible exact ih0 _ _ _ _ _ _)
      | (with_reducible exact money_MulDivFloor.mono _ _ _ _)
      | (with_reducible exact LeO.refl _)
      | (with_reducible exact LeO.none _)
      | (with_reducible refine LeO.ite ?_ ?_)
      | (with_reducible refine LeO.bind ?_ (fun _ => ?_))
      | exact ih0 _ _ _ _ _ _
      | exact money_MulDivFloor.mono _ _ _ _
      | exact LeO.none _
      | refine LeO.ite ?_ ?_
      | refine LeO.bind ?_ (fun _ => ?_)
set_option maxHeartbeats 8000000 in
set_option maxRecDepth 100000 in
theorem arrearslaw1_MoneyFloorRest.calls (k : Nat) (a0 : Int) (a1 : Int) (a2 : Int) (r : Bool) (w : World) (h : arrearslaw1_MoneyFloorRest.f k a0 a1 a2 = some r) :
    Calls Try.prog 8 #[.int .i64 a0, .int .i64 a1, .int .i64 a2] w fun e w' => e = .returned (.bool r) ∧ Drawn0 w w' := by
  have H : ((money_MulDivFloor.f k a0 a1 a2).bind fun bt301 => (if bt301.2.2 = true then (if a2 ≤ 0 then (arrearslaw1_MoneyFloorRest.j0 k a0 a1 a2 bt301.1 bt301.2.1 true) else (if bt301.2.1 < 0 then (arrearslaw1_MoneyFloorRest.j0 k a0 a1 a2 bt301.1 bt301.2.1 true) else (arrearslaw1_MoneyFloorRest.j0 k a0 a1 a2 bt301.1 bt301.2.1 (decide (bt301.2.1 ≥ a2))))) else (if a2 > 0 then ((arrearslaw1_small.f a0).bind fun t304 => (if t304 = true then ((arrearslaw1_small.f a1).bind fun t305 => (if t305 = true then (some false) else (if bt301.1 = 0 then (some (bt301.2.1 == 0)) else (some false)))) else (if bt301.1 = 0 then (some (bt301.2.1 == 0)) else (some false)))) else (if bt301.1 = 0 then (some (bt301.2.1 == 0)) else (some false))))) = some r := h
  clear h
  replace H := Option.bind_eq_some_iff.mp H
  obtain ⟨⟨t301, t302, t303⟩, A40, H⟩ := H
  replace H : (if t303 = true then (if a2 ≤ 0 then (arrearslaw1_MoneyFloorRest.j0 k a0 a1 a2 t301 t302 true) else (if t302 < 0 then (arrearslaw1_MoneyFloorRest.j0 k a0 a1 a2 t301 t302 true) else (arrearslaw1_MoneyFloorRest.j0 k a0 a1 a2 t301 t302 (decide (t302 ≥ a2))))) else (if a2 > 0 then ((arrearslaw1_small.f a0).bind fun t304 => (if t304 = true then ((arrearslaw1_small.f a1).bind fun t305 => (if t305 = true then (some false) else (if t301 = 0 then (some (t302 == 0)) else (some false)))) else (if t301 = 0 then (some (t302 == 0)) else (some false)))) else (if t301 = 0 then (some (t302 == 0)) else (some false)))) = some r := H
  have A4 := Aside0.mk A40
  clear A40
  by_cases c5 : t303 = true
  · subst c5
    have H1 : (if a2 ≤ 0 then (arrearslaw1_MoneyFloorRest.j0 k a0 a1 a2 t301 t302 true) else (if t302 < 0 then (arrearslaw1_MoneyFloorRest.j0 k a0 a1 a2 t301 t302 true) else (arrearslaw1_MoneyFloorRest.j0 k a0 a1 a2 t301 t302 (decide (t302 ≥ a2))))) = some r := by rw [if_pos rfl] at H; exact H
    clear H
    have H := H1
    clear H1
    have HC6 := Aside0.mk H
    clear H
    go_enter Try.func8, Try.ntmps8
    go_upto_region 6 with (first | ((with_reducible refine gate_callee (f := 23) rfl ?_); refine goesL_ (some 14) rfl rfl Try.func23 (by kernel_rfl) rfl #[.int .i64 a0, .int .i64 a1, .int .i64 a2] rfl (by (try simp only [List.map_toArray, List.map_cons, List.map_nil]); first | done | rfl | (simp only [List.length_drop, List.length_take]; rfl)) ?_; (with_reducible refine (money_MulDivFloor.calls k a0 a1 a2 t301 t302 true _ A4.out).mono ?_); rintro e w' ⟨rfl, ⟨nd, rfl⟩⟩; refine ⟨_, rfl, ?_⟩))
    (try simp only [Act.put, List.setIfInBounds_toArray, List.set_cons_zero, List.set_cons_succ])
    go_cut [46] (fun v46 wc => ∃ (kq : Nat) (x46_5 : Bool), v46 = .bool x46_5 ∧ Aside0 (arrearslaw1_MoneyFloorRest.j0 kq a0 a1 a2 t301 t302 x46_5 = some r) ∧ Aside0 (kq ≤ k) ∧ Drawn0 w wc)
    case first =>
      have H := HC6.out
      clear HC6
      by_cases c7 : a2 ≤ 0
      · rw [if_pos c7] at H
        have c7b0 : decide (a2 ≤ 0) = true := decide_eq_true c7
        clear c7
        (first | rw [c7b0] | (simp only [i64_w, i32_w]; rw [c7b0]) | skip)
        have H' := Aside0.mk H
        clear H
        go_wp2
        go_meet
        case rel => exact ⟨_, (true), (by first | rfl | (simp; done) | (simp [*]; done)), H', ⟨by first | omega | exact Nat.le_refl _⟩, by repeat (first | exact Drawn0.refl _ | apply Drawn0.step)⟩
      · rw [if_neg c7] at H
        have c7b0 : decide (a2 ≤ 0) = false := decide_eq_false c7
        clear c7
        (first | rw [c7b0] | (simp only [i64_w, i32_w]; rw [c7b0]) | skip)
        by_cases c8 : t302 < 0
        · rw [if_pos c8] at H
          have c8b0 : decide (t302 < 0) = true := decide_eq_true c8
          clear c8
          have H' := Aside0.mk H
          clear H
          go_wp2
          go_meet
          case rel => exact ⟨_, (true), (by first | rfl | (simp; done) | (simp [*]; done)), H', ⟨by first | omega | exact Nat.le_refl _⟩, by repeat (first | exact Drawn0.refl _ | apply Drawn0.step)⟩
        · rw [if_neg c8] at H
          have c8b0 : decide (t302 < 0) = false := decide_eq_false c8
          clear c8
          have H' := Aside0.mk H
          clear H
          go_wp2
          go_meet
          case rel => exact ⟨_, (decide (t302 ≥ a2)), (by first | rfl | (simp; done) | (simp [*]; done)), H', ⟨by first | omega | exact Nat.le_refl _⟩, by repeat (first | exact Drawn0.refl _ | apply Drawn0.step)⟩
    case rest =>
      clear HC6
      try clear c2
      try clear p2
      try clear c5
      try clear c7
      try clear c7b0
      try clear c8
      try clear c8b0
      obtain ⟨kq, x46_5, rfl, HA, HJ5, ⟨mc5, rfl⟩⟩ := hcut
      cases kq with
      | zero => exact absurd HA.out (by simp [arrearslaw1_MoneyFloorRest.j0])
      | succ kj5 =>
        have H := HA.out
        clear HA
        simp only [arrearslaw1_MoneyFloorRest.j0] at H
        by_cases c9 : x46_5 = true
        · subst c9
          have H1 : (some false) = some r := by rw [if_pos rfl] at H; exact H
          clear H
          have H := H1
          clear H1
          obtain rfl := Option.some.inj H
          go_wp2
          go_ret
          exact ⟨by first | rfl | (simp; done) | (simp [*]; done), by repeat (first | exact Drawn0.refl _ | apply Drawn0.step)⟩
        · replace c9 := Bool.eq_false_iff.mpr c9
          subst c9
          have H1 : ((arrearslaw1_small.f a0).bind fun t306 => (if t306 = true then ((arrearslaw1_small.f a1).bind fun t307 => (if t307 = true then ((arrearslaw1_small.f a2).bind fun t308 => (if t308 = true then (if t301 ≥ (-1152921504606846976) then (if t301 ≤ 1152921504606846976 then (if a2 = 0 then (none) else (if t301 ≤ (wrap64 (Int.tdiv (wrap64 (a0 * a1)) a2)) then (if t301 ≥ (wrap64 ((wrap64 (Int.tdiv (wrap64 (a0 * a1)) a2)) - 1)) then (some ((wrap64 (a0 * a1)) == (wrap64 ((wrap64 (t301 * a2)) + t302)))) else (some false)) else (some false))) else (some false)) else (some false)) else (some ((wrap64 (a0 * a1)) == (wrap64 ((wrap64 (t301 * a2)) + t302)))))) else (some ((wrap64 (a0 * a1)) == (wrap64 ((wrap64 (t301 * a2)) + t302)))))) else (some ((wrap64 (a0 * a1)) == (wrap64 ((wrap64 (t301 * a2)) + t302)))))) = some r := by rw [if_neg (show ¬ (false = true) by decide)] at H; exact H
          clear H
          have H := H1
          clear H1
          replace H := Option.bind_eq_some_iff.mp H
          obtain ⟨t306, A100, H⟩ := H
          replace H : (if t306 = true then ((arrearslaw1_small.f a1).bind fun t307 => (if t307 = true then ((arrearslaw1_small.f a2).bind fun t308 => (if t308 = true then (if t301 ≥ (-1152921504606846976) then (if t301 ≤ 1152921504606846976 then (if a2 = 0 then (none) else (if t301 ≤ (wrap64 (Int.tdiv (wrap64 (a0 * a1)) a2)) then (if t301 ≥ (wrap64 ((wrap64 (Int.tdiv (wrap64 (a0 * a1)) a2)) - 1)) then (some ((wrap64 (a0 * a1)) == (wrap64 ((wrap64 (t301 * a2)) + t302)))) else (some false)) else (some false))) else (some false)) else (some false)) else (some ((wrap64 (a0 * a1)) == (wrap64 ((wrap64 (t301 * a2)) + t302)))))) else (some ((wrap64 (a0 * a1)) == (wrap64 ((wrap64 (t301 * a2)) + t302)))))) else (some ((wrap64 (a0 * a1)) == (wrap64 ((wrap64 (t301 * a2)) + t302))))) = some r := H
          have A10 := Aside0.mk A100
          clear A100
          by_cases c11 : t306 = true
          · subst c11
            have H1 : ((arrearslaw1_small.f a1).bind fun t307 => (if t307 = true then ((arrearslaw1_small.f a2).bind fun t308 => (if t308 = true then (if t301 ≥ (-1152921504606846976) then (if t301 ≤ 1152921504606846976 then (if a2 = 0 then (none) else (if t301 ≤ (wrap64 (Int.tdiv (wrap64 (a0 * a1)) a2)) then (if t301 ≥ (wrap64 ((wrap64 (Int.tdiv (wrap64 (a0 * a1)) a2)) - 1)) then (some ((wrap64 (a0 * a1)) == (wrap64 ((wrap64 (t301 * a2)) + t302)))) else (some false)) else (some false))) else (some false)) else (some false)) else (some ((wrap64 (a0 * a1)) == (wrap64 ((wrap64 (t301 * a2)) + t302)))))) else (some ((wrap64 (a0 * a1)) == (wrap64 ((wrap64 (t301 * a2)) + t302)))))) = some r := by rw [if_pos rfl] at H; exact H
            clear H
            have H := H1
            clear H1
            replace H := Option.bind_eq_some_iff.mp H
            obtain ⟨t307, A120, H⟩ := H
            replace H : (if t307 = true then ((arrearslaw1_small.f a2).bind fun t308 => (if t308 = true then (if t301 ≥ (-1152921504606846976) then (if t301 ≤ 1152921504606846976 then (if a2 = 0 then (none) else (if t301 ≤ (wrap64 (Int.tdiv (wrap64 (a0 * a1)) a2)) then (if t301 ≥ (wrap64 ((wrap64 (Int.tdiv (wrap64 (a0 * a1)) a2)) - 1)) then (some ((wrap64 (a0 * a1)) == (wrap64 ((wrap64 (t301 * a2)) + t302)))) else (some false)) else (some false))) else (some false)) else (some false)) else (some ((wrap64 (a0 * a1)) == (wrap64 ((wrap64 (t301 * a2)) + t302)))))) else (some ((wrap64 (a0 * a1)) == (wrap64 ((wrap64 (t301 * a2)) + t302))))) = some r := H
            have A12 := Aside0.mk A120
            clear A120
            by_cases c13 : t307 = true
            · subst c13
              have H1 : ((arrearslaw1_small.f a2).bind fun t308 => (if t308 = true then (if t301 ≥ (-1152921504606846976) then (if t301 ≤ 1152921504606846976 then (if a2 = 0 then (none) else (if t301 ≤ (wrap64 (Int.tdiv (wrap64 (a0 * a1)) a2)) then (if t301 ≥ (wrap64 ((wrap64 (Int.tdiv (wrap64 (a0 * a1)) a2)) - 1)) then (some ((wrap64 (a0 * a1)) == (wrap64 ((wrap64 (t301 * a2)) + t302)))) else (some false)) else (some false))) else (some false)) else (some false)) else (some ((wrap64 (a0 * a1)) == (wrap64 ((wrap64 (t301 * a2)) + t302)))))) = some r := by rw [if_pos rfl] at H; exact H
              clear H
              have H := H1
              clear H1
              replace H := Option.bind_eq_some_iff.mp H
              obtain ⟨t308, A140, H⟩ := H
              replace H : (if t308 = true then (if t301 ≥ (-1152921504606846976) then (if t301 ≤ 1152921504606846976 then (if a2 = 0 then (none) else (if t301 ≤ (wrap64 (Int.tdiv (wrap64 (a0 * a1)) a2)) then (if t301 ≥ (wrap64 ((wrap64 (Int.tdiv (wrap64 (a0 * a1)) a2)) - 1)) then (some ((wrap64 (a0 * a1)) == (wrap64 ((wrap64 (t301 * a2)) + t302)))) else (some false)) else (some false))) else (some false)) else (some false)) else (some ((wrap64 (a0 * a1)) == (wrap64 ((wrap64 (t301 * a2)) + t302))))) = some r := H
              have A14 := Aside0.mk A140
              clear A140
              by_cases c15 : t308 = true
              · subst c15
                have H1 : (if t301 ≥ (-1152921504606846976) then (if t301 ≤ 1152921504606846976 then (if a2 = 0 then (none) else (if t301 ≤ (wrap64 (Int.tdiv (wrap64 (a0 * a1)) a2)) then (if t301 ≥ (wrap64 ((wrap64 (Int.tdiv (wrap64 (a0 * a1)) a2)) - 1)) then (some ((wrap64 (a0 * a1)) == (wrap64 ((wrap64 (t301 * a2)) + t302)))) else (some false)) else (some false))) else (some false)) else (some false)) = some r := by rw [if_pos rfl] at H; exact H
                clear H
                have H := H1
                clear H1
                by_cases c16 : t301 ≥ (-1152921504606846976)
                · rw [if_pos c16] at H
                  have c16b0 : decide ((-1152921504606846976) ≤ t301) = true := decide_eq_true c16
                  clear c16
                  by_cases c17 : t301 ≤ 1152921504606846976
                  · rw [if_pos c17] at H
                    have c17b0 : decide (t301 ≤ 1152921504606846976) = true := decide_eq_true c17
                    clear c17
                    by_cases c18 : a2 = 0
                    · rw [if_pos c18] at H
                      exact absurd H (by simp)
                    · rw [if_neg c18] at H
                      have c18b0 : (a2 == 0) = false := beq_eq_false_iff_ne.mpr c18
                      have c18b1 : (a2 != 0) = true := bne_iff_ne.mpr c18
                      by_cases c19 : t301 ≤ (wrap64 (Int.tdiv (wrap64 (a0 * a1)) a2))
                      · rw [if_pos c19] at H
                        have c19b0 : decide (t301 ≤ (wrap64 (Int.tdiv (wrap64 (a0 * a1)) a2))) = true := decide_eq_true c19
                        clear c19
                        by_cases c20 : t301 ≥ (wrap64 ((wrap64 (Int.tdiv (wrap64 (a0 * a1)) a2)) - 1))
                        · rw [if_pos c20] at H
                          have c20b0 : decide ((wrap64 ((wrap64 (Int.tdiv (wrap64 (a0 * a1)) a2)) - 1)) ≤ t301) = true := decide_eq_true c20
                          clear c20
                          obtain rfl := Option.some.inj H
                          go_wp2_with (first | ((with_reducible refine gate_callee (f := 18) rfl ?_); refine goesL_ (some 48) rfl rfl Try.func18 (by kernel_rfl) rfl #[.int .i64 a0] rfl (by (try simp only [List.map_toArray, List.map_cons, List.map_nil]); first | done | rfl | (simp only [List.length_drop, List.length_take]; rfl)) ?_; (with_reducible refine (arrearslaw1_small.calls a0 true _ A10.out).mono ?_); rintro e w' ⟨rfl, ⟨nd, rfl⟩⟩; refine ⟨_, rfl, ?_⟩) | (go_at_call 18; (with_reducible refine (arrearslaw1_small.calls a1 true _ A12.out).mono ?_); rintro e w' ⟨rfl, ⟨nd, rfl⟩⟩) | (go_at_call 18; (with_reducible refine (arrearslaw1_small.calls a2 true _ A14.out).mono ?_); rintro e w' ⟨rfl, ⟨nd, rfl⟩⟩))
                          go_ret
                          exact ⟨by first | rfl | (simp; done) | (simp [*]; done), by repeat (first | exact Drawn0.refl _ | apply Drawn0.step)⟩
                        · rw [if_neg c20] at H
                          have c20b0 : decide ((wrap64 ((wrap64 (Int.tdiv (wrap64 (a0 * a1)) a2)) - 1)) ≤ t301) = false := decide_eq_false c20
                          clear c20
                          obtain rfl := Option.some.inj H
                          go_wp2_with (first | ((with_reducible refine gate_callee (f := 18) rfl ?_); refine goesL_ (some 48) rfl rfl Try.func18 (by kernel_rfl) rfl #[.int .i64 a0] rfl (by (try simp only [List.map_toArray, List.map_cons, List.map_nil]); first | done | rfl | (simp only [List.length_drop, List.length_take]; rfl)) ?_; (with_reducible refine (arrearslaw1_small.calls a0 true _ A10.out).mono ?_); rintro e w' ⟨rfl, ⟨nd, rfl⟩⟩; refine ⟨_, rfl, ?_⟩) | (go_at_call 18; (with_reducible refine (arrearslaw1_small.calls a1 true _ A12.out).mono ?_); rintro e w' ⟨rfl, ⟨nd, rfl⟩⟩) | (go_at_call 18; (with_reducible refine (arrearslaw1_small.calls a2 true _ A14.out).mono ?_); rintro e w' ⟨rfl, ⟨nd, rfl⟩⟩))
                          go_ret
                          exact ⟨by first | rfl | (simp; done) | (simp [*]; done), by repeat (first | exact Drawn0.refl _ | apply Drawn0.step)⟩
                      · rw [if_neg c19] at H
                        have c19b0 : decide (t301 ≤ (wrap64 (Int.tdiv (wrap64 (a0 * a1)) a2))) = false := decide_eq_false c19
                        clear c19
                        obtain rfl := Option.some.inj H
                        go_wp2_with (first | ((with_reducible refine gate_callee (f := 18) rfl ?_); refine goesL_ (some 48) rfl rfl Try.func18 (by kernel_rfl) rfl #[.int .i64 a0] rfl (by (try simp only [List.map_toArray, List.map_cons, List.map_nil]); first | done | rfl | (simp only [List.length_drop, List.length_take]; rfl)) ?_; (with_reducible refine (arrearslaw1_small.calls a0 true _ A10.out).mono ?_); rintro e w' ⟨rfl, ⟨nd, rfl⟩⟩; refine ⟨_, rfl, ?_⟩) | (go_at_call 18; (with_reducible refine (arrearslaw1_small.calls a1 true _ A12.out).mono ?_); rintro e w' ⟨rfl, ⟨nd, rfl⟩⟩) | (go_at_call 18; (with_reducible refine (arrearslaw1_small.calls a2 true _ A14.out).mono ?_); rintro e w' ⟨rfl, ⟨nd, rfl⟩⟩))
                        go_ret
                        exact ⟨by first | rfl | (simp; done) | (simp [*]; done), by repeat (first | exact Drawn0.refl _ | apply Drawn0.step)⟩
                  · rw [if_neg c17] at H
                    have c17b0 : decide (t301 ≤ 1152921504606846976) = false := decide_eq_false c17
                    clear c17
                    obtain rfl := Option.some.inj H
                    go_wp2_with (first | ((with_reducible refine gate_callee (f := 18) rfl ?_); refine goesL_ (some 48) rfl rfl Try.func18 (by kernel_rfl) rfl #[.int .i64 a0] rfl (by (try simp only [List.map_toArray, List.map_cons, List.map_nil]); first | done | rfl | (simp only [List.length_drop, List.length_take]; rfl)) ?_; (with_reducible refine (arrearslaw1_small.calls a0 true _ A10.out).mono ?_); rintro e w' ⟨rfl, ⟨nd, rfl⟩⟩; refine ⟨_, rfl, ?_⟩) | (go_at_call 18; (with_reducible refine (arrearslaw1_small.calls a1 true _ A12.out).mono ?_); rintro e w' ⟨rfl, ⟨nd, rfl⟩⟩) | (go_at_call 18; (with_reducible refine (arrearslaw1_small.calls a2 true _ A14.out).mono ?_); rintro e w' ⟨rfl, ⟨nd, rfl⟩⟩))
                    go_ret
                    exact ⟨by first | rfl | (simp; done) | (simp [*]; done), by repeat (first | exact Drawn0.refl _ | apply Drawn0.step)⟩
                · rw [if_neg c16] at H
                  have c16b0 : decide ((-1152921504606846976) ≤ t301) = false := decide_eq_false c16
                  clear c16
                  obtain rfl := Option.some.inj H
                  go_wp2_with (first | ((with_reducible refine gate_callee (f := 18) rfl ?_); refine goesL_ (some 48) rfl rfl Try.func18 (by kernel_rfl) rfl #[.int .i64 a0] rfl (by (try simp only [List.map_toArray, List.map_cons, List.map_nil]); first | done | rfl | (simp only [List.length_drop, List.length_take]; rfl)) ?_; (with_reducible refine (arrearslaw1_small.calls a0 true _ A10.out).mono ?_); rintro e w' ⟨rfl, ⟨nd, rfl⟩⟩; refine ⟨_, rfl, ?_⟩) | (go_at_call 18; (with_reducible refine (arrearslaw1_small.calls a1 true _ A12.out).mono ?_); rintro e w' ⟨rfl, ⟨nd, rfl⟩⟩) | (go_at_call 18; (with_reducible refine (arrearslaw1_small.calls a2 true _ A14.out).mono ?_); rintro e w' ⟨rfl, ⟨nd, rfl⟩⟩))
                  go_ret
                  exact ⟨by first | rfl | (simp; done) | (simp [*]; done), by repeat (first | exact Drawn0.refl _ | apply Drawn0.step)⟩
              · replace c15 := Bool.eq_false_iff.mpr c15
                subst c15
                have H1 : (some ((wrap64 (a0 * a1)) == (wrap64 ((wrap64 (t301 * a2)) + t302)))) = some r := by rw [if_neg (show ¬ (false = true) by decide)] at H; exact H
                clear H
                have H := H1
                clear H1
                obtain rfl := Option.some.inj H
                go_wp2_with (first | ((with_reducible refine gate_callee (f := 18) rfl ?_); refine goesL_ (some 48) rfl rfl Try.func18 (by kernel_rfl) rfl #[.int .i64 a0] rfl (by (try simp only [List.map_toArray, List.map_cons, List.map_nil]); first | done | rfl | (simp only [List.length_drop, List.length_take]; rfl)) ?_; (with_reducible refine (arrearslaw1_small.calls a0 true _ A10.out).mono ?_); rintro e w' ⟨rfl, ⟨nd, rfl⟩⟩; refine ⟨_, rfl, ?_⟩) | (go_at_call 18; (with_reducible refine (arrearslaw1_small.calls a1 true _ A12.out).mono ?_); rintro e w' ⟨rfl, ⟨nd, rfl⟩⟩) | (go_at_call 18; (with_reducible refine (arrearslaw1_small.calls a2 false _ A14.out).mono ?_); rintro e w' ⟨rfl, ⟨nd, rfl⟩⟩))
                go_ret
                exact ⟨by first | rfl | (simp; done) | (simp [*]; done), by repeat (first | exact Drawn0.refl _ | apply Drawn0.step)⟩
            · replace c13 := Bool.eq_false_iff.mpr c13
              subst c13
              have H1 : (some ((wrap64 (a0 * a1)) == (wrap64 ((wrap64 (t301 * a2)) + t302)))) = some r := by rw [if_neg (show ¬ (false = true) by decide)] at H; exact H
              clear H
              have H := H1
              clear H1
              obtain rfl := Option.some.inj H
              go_wp2_with (first | ((with_reducible refine gate_callee (f := 18) rfl ?_); refine goesL_ (some 48) rfl rfl Try.func18 (by kernel_rfl) rfl #[.int .i64 a0] rfl (by (try simp only [List.map_toArray, List.map_cons, List.map_nil]); first | done | rfl | (simp only [List.length_drop, List.length_take]; rfl)) ?_; (with_reducible refine (arrearslaw1_small.calls a0 true _ A10.out).mono ?_); rintro e w' ⟨rfl, ⟨nd, rfl⟩⟩; refine ⟨_, rfl, ?_⟩) | (go_at_call 18; (with_reducible refine (arrearslaw1_small.calls a1 false _ A12.out).mono ?_); rintro e w' ⟨rfl, ⟨nd, rfl⟩⟩))
              go_ret
              exact ⟨by first | rfl | (simp; done) | (simp [*]; done), by repeat (first | exact Drawn0.refl _ | apply Drawn0.step)⟩
          · replace c11 := Bool.eq_false_iff.mpr c11
            subst c11
            have H1 : (some ((wrap64 (a0 * a1)) == (wrap64 ((wrap64 (t301 * a2)) + t302)))) = some r := by rw [if_neg (show ¬ (false = true) by decide)] at H; exact H
            clear H
            have H := H1
            clear H1
            obtain rfl := Option.some.inj H
            go_wp2_with (first | ((with_reducible refine gate_callee (f := 18) rfl ?_); refine goesL_ (some 48) rfl rfl Try.func18 (by kernel_rfl) rfl #[.int .i64 a0] rfl (by (try simp only [List.map_toArray, List.map_cons, List.map_nil]); first | done | rfl | (simp only [List.length_drop, List.length_take]; rfl)) ?_; (with_reducible refine (arrearslaw1_small.calls a0 false _ A10.out).mono ?_); rintro e w' ⟨rfl, ⟨nd, rfl⟩⟩; refine ⟨_, rfl, ?_⟩))
            go_ret
            exact ⟨by first | rfl | (simp; done) | (simp [*]; done), by repeat (first | exact Drawn0.refl _ | apply Drawn0.step)⟩
  · replace c5 := Bool.eq_false_iff.mpr c5
    subst c5
    have H1 : (if a2 > 0 then ((arrearslaw1_small.f a0).bind fun t304 => (if t304 = true then ((arrearslaw1_small.f a1).bind fun t305 => (if t305 = true then (some false) else (if t301 = 0 then (some (t302 == 0)) else (some false)))) else (if t301 = 0 then (some (t302 == 0)) else (some false)))) else (if t301 = 0 then (some (t302 == 0)) else (some false))) = some r := by rw [if_neg (show ¬ (false = true) by decide)] at H; exact H
    clear H
    have H := H1
    clear H1
    by_cases c21 : a2 > 0
    · rw [if_pos c21] at H
      have c21b0 : decide (0 < a2) = true := decide_eq_true c21
      clear c21
      replace H := Option.bind_eq_some_iff.mp H
      obtain ⟨t304, A220, H⟩ := H
      replace H : (if t304 = true then ((arrearslaw1_small.f a1).bind fun t305 => (if t305 = true then (some false) else (if t301 = 0 then (some (t302 == 0)) else (some false)))) else (if t301 = 0 then (some (t302 == 0)) else (some false))) = some r := H
      have A22 := Aside0.mk A220
      clear A220
      by_cases c23 : t304 = true
      · subst c23
        have H1 : ((arrearslaw1_small.f a1).bind fun t305 => (if t305 = true then (some false) else (if t301 = 0 then (some (t302 == 0)) else (some false)))) = some r := by rw [if_pos rfl] at H; exact H
        clear H
        have H := H1
        clear H1
        replace H := Option.bind_eq_some_iff.mp H
        obtain ⟨t305, A240, H⟩ := H
        replace H : (if t305 = true then (some false) else (if t301 = 0 then (some (t302 == 0)) else (some false))) = some r := H
        have A24 := Aside0.mk A240
        clear A240
        by_cases c25 : t305 = true
        · subst c25
          have H1 : (some false) = some r := by rw [if_pos rfl] at H; exact H
          clear H
          have H := H1
          clear H1
          obtain rfl := Option.some.inj H
          go_enter Try.func8, Try.ntmps8
          go_wp2_with (first | ((with_reducible refine gate_callee (f := 23) rfl ?_); refine goesL_ (some 14) rfl rfl Try.func23 (by kernel_rfl) rfl #[.int .i64 a0, .int .i64 a1, .int .i64 a2] rfl (by (try simp only [List.map_toArray, List.map_cons, List.map_nil]); first | done | rfl | (simp only [List.length_drop, List.length_take]; rfl)) ?_; (with_reducible refine (money_MulDivFloor.calls k a0 a1 a2 t301 t302 false _ A4.out).mono ?_); rintro e w' ⟨rfl, ⟨nd, rfl⟩⟩; refine ⟨_, rfl, ?_⟩) | (go_at_call 18; (with_reducible refine (arrearslaw1_small.calls a0 true _ A22.out).mono ?_); rintro e w' ⟨rfl, ⟨nd, rfl⟩⟩) | (go_at_call 18; (with_reducible refine (arrearslaw1_small.calls a1 true _ A24.out).mono ?_); rintro e w' ⟨rfl, ⟨nd, rfl⟩⟩))
          go_ret
          exact ⟨by first | rfl | (simp; done) | (simp [*]; done), by repeat (first | exact Drawn0.refl _ | apply Drawn0.step)⟩
        · replace c25 := Bool.eq_false_iff.mpr c25
          subst c25
          have H1 : (if t301 = 0 then (some (t302 == 0)) else (some false)) = some r := by rw [if_neg (show ¬ (false = true) by decide)] at H; exact H
          clear H
          have H := H1
          clear H1
          by_cases c26 : t301 = 0
          · rw [if_pos c26] at H
            have c26b0 : (t301 == 0) = true := beq_iff_eq.mpr c26
            have c26b1 : (t301 != 0) = false := bne_eq_false_iff_eq.mpr c26
            clear c26
            obtain rfl := Option.some.inj H
            go_enter Try.func8, Try.ntmps8
            go_wp2_with (first | ((with_reducible refine gate_callee (f := 23) rfl ?_); refine goesL_ (some 14) rfl rfl Try.func23 (by kernel_rfl) rfl #[.int .i64 a0, .int .i64 a1, .int .i64 a2] rfl (by (try simp only [List.map_toArray, List.map_cons, List.map_nil]); first | done | rfl | (simp only [List.length_drop, List.length_take]; rfl)) ?_; (with_reducible refine (money_MulDivFloor.calls k a0 a1 a2 t301 t302 false _ A4.out).mono ?_); rintro e w' ⟨rfl, ⟨nd, rfl⟩⟩; refine ⟨_, rfl, ?_⟩) | (go_at_call 18; (with_reducible refine (arrearslaw1_small.calls a0 true _ A22.out).mono ?_); rintro e w' ⟨rfl, ⟨nd, rfl⟩⟩) | (go_at_call 18; (with_reducible refine (arrearslaw1_small.calls a1 false _ A24.out).mono ?_); rintro e w' ⟨rfl, ⟨nd, rfl⟩⟩))
            go_ret
            exact ⟨by first | rfl | (simp; done) | (simp [*]; done), by repeat (first | exact Drawn0.refl _ | apply Drawn0.step)⟩
          · rw [if_neg c26] at H
            have c26b0 : (t301 == 0) = false := beq_eq_false_iff_ne.mpr c26
            have c26b1 : (t301 != 0) = true := bne_iff_ne.mpr c26
            obtain rfl := Option.some.inj H
            go_enter Try.func8, Try.ntmps8
            go_wp2_with (first | ((with_reducible refine gate_callee (f := 23) rfl ?_); refine goesL_ (some 14) rfl rfl Try.func23 (by kernel_rfl) rfl #[.int .i64 a0, .int .i64 a1, .int .i64 a2] rfl (by (try simp only [List.map_toArray, List.map_cons, List.map_nil]); first | done | rfl | (simp only [List.length_drop, List.length_take]; rfl)) ?_; (with_reducible refine (money_MulDivFloor.calls k a0 a1 a2 t301 t302 false _ A4.out).mono ?_); rintro e w' ⟨rfl, ⟨nd, rfl⟩⟩; refine ⟨_, rfl, ?_⟩) | (go_at_call 18; (with_reducible refine (arrearslaw1_small.calls a0 true _ A22.out).mono ?_); rintro e w' ⟨rfl, ⟨nd, rfl⟩⟩) | (go_at_call 18; (with_reducible refine (arrearslaw1_small.calls a1 false _ A24.out).mono ?_); rintro e w' ⟨rfl, ⟨nd, rfl⟩⟩))
            go_ret
            exact ⟨by first | rfl | (simp; done) | (simp [*]; done), by repeat (first | exact Drawn0.refl _ | apply Drawn0.step)⟩
      · replace c23 := Bool.eq_false_iff.mpr c23
        subst c23
        have H1 : (if t301 = 0 then (some (t302 == 0)) else (some false)) = some r := by rw [if_neg (show ¬ (false = true) by decide)] at H; exact H
        clear H
        have H := H1
        clear H1
        by_cases c27 : t301 = 0
        · rw [if_pos c27] at H
          have c27b0 : (t301 == 0) = true := beq_iff_eq.mpr c27
          have c27b1 : (t301 != 0) = false := bne_eq_false_iff_eq.mpr c27
          clear c27
          obtain rfl := Option.some.inj H
          go_enter Try.func8, Try.ntmps8
          go_wp2_with (first | ((with_reducible refine gate_callee (f := 23) rfl ?_); refine goesL_ (some 14) rfl rfl Try.func23 (by kernel_rfl) rfl #[.int .i64 a0, .int .i64 a1, .int .i64 a2] rfl (by (try simp only [List.map_toArray, List.map_cons, List.map_nil]); first | done | rfl | (simp only [List.length_drop, List.length_take]; rfl)) ?_; (with_reducible refine (money_MulDivFloor.calls k a0 a1 a2 t301 t302 false _ A4.out).mono ?_); rintro e w' ⟨rfl, ⟨nd, rfl⟩⟩; refine ⟨_, rfl, ?_⟩) | (go_at_call 18; (with_reducible refine (arrearslaw1_small.calls a0 false _ A22.out).mono ?_); rintro e w' ⟨rfl, ⟨nd, rfl⟩⟩))
          go_ret
          exact ⟨by first | rfl | (simp; done) | (simp [*]; done), by repeat (first | exact Drawn0.refl _ | apply Drawn0.step)⟩
        · rw [if_neg c27] at H
          have c27b0 : (t301 == 0) = false := beq_eq_false_iff_ne.mpr c27
          have c27b1 : (t301 != 0) = true := bne_iff_ne.mpr c27
          obtain rfl := Option.some.inj H
          go_enter Try.func8, Try.ntmps8
          go_wp2_with (first | ((with_reducible refine gate_callee (f := 23) rfl ?_); refine goesL_ (some 14) rfl rfl Try.func23 (by kernel_rfl) rfl #[.int .i64 a0, .int .i64 a1, .int .i64 a2] rfl (by (try simp only [List.map_toArray, List.map_cons, List.map_nil]); first | done | rfl | (simp only [List.length_drop, List.length_take]; rfl)) ?_; (with_reducible refine (money_MulDivFloor.calls k a0 a1 a2 t301 t302 false _ A4.out).mono ?_); rintro e w' ⟨rfl, ⟨nd, rfl⟩⟩; refine ⟨_, rfl, ?_⟩) | (go_at_call 18; (with_reducible refine (arrearslaw1_small.calls a0 false _ A22.out).mono ?_); rintro e w' ⟨rfl, ⟨nd, rfl⟩⟩))
          go_ret
          exact ⟨by first | rfl | (simp; done) | (simp [*]; done), by repeat (first | exact Drawn0.refl _ | apply Drawn0.step)⟩
    · rw [if_neg c21] at H
      have c21b0 : decide (0 < a2) = false := decide_eq_false c21
      clear c21
      by_cases c28 : t301 = 0
      · rw [if_pos c28] at H
        have c28b0 : (t301 == 0) = true := beq_iff_eq.mpr c28
        have c28b1 : (t301 != 0) = false := bne_eq_false_iff_eq.mpr c28
        clear c28
        obtain rfl := Option.some.inj H
        go_enter Try.func8, Try.ntmps8
        go_wp2_with (first | ((with_reducible refine gate_callee (f := 23) rfl ?_); refine goesL_ (some 14) rfl rfl Try.func23 (by kernel_rfl) rfl #[.int .i64 a0, .int .i64 a1, .int .i64 a2] rfl (by (try simp only [List.map_toArray, List.map_cons, List.map_nil]); first | done | rfl | (simp only [List.length_drop, List.length_take]; rfl)) ?_; (with_reducible refine (money_MulDivFloor.calls k a0 a1 a2 t301 t302 false _ A4.out).mono ?_); rintro e w' ⟨rfl, ⟨nd, rfl⟩⟩; refine ⟨_, rfl, ?_⟩))
        go_ret
        exact ⟨by first | rfl | (simp; done) | (simp [*]; done), by repeat (first | exact Drawn0.refl _ | apply Drawn0.step)⟩
      · rw [if_neg c28] at H
        have c28b0 : (t301 == 0) = false := beq_eq_false_iff_ne.mpr c28
        have c28b1 : (t301 != 0) = true := bne_iff_ne.mpr c28
        obtain rfl := Option.some.inj H
        go_enter Try.func8, Try.ntmps8
        go_wp2_with (first | ((with_reducible refine gate_callee (f := 23) rfl ?_); refine goesL_ (some 14) rfl rfl Try.func23 (by kernel_rfl) rfl #[.int .i64 a0, .int .i64 a1, .int .i64 a2] rfl (by (try simp only [List.map_toArray, List.map_cons, List.map_nil]); first | done | rfl | (simp only [List.length_drop, List.length_take]; rfl)) ?_; (with_reducible refine (money_MulDivFloor.calls k a0 a1 a2 t301 t302 false _ A4.out).mono ?_); rintro e w' ⟨rfl, ⟨nd, rfl⟩⟩; refine ⟨_, rfl, ?_⟩))
        go_ret
        exact ⟨by first | rfl | (simp; done) | (simp [*]; done), by repeat (first | exact Drawn0.refl _ | apply Drawn0.step)⟩

/-- THE ONE PURE STATEMENT of arrearslaw1_MoneyFloorRest: yours. -/
def arrearslaw1_MoneyFloorRest.Pure : Prop := ∀ (a0 : Int) (a1 : Int) (a2 : Int), (Lit.int .i64 a0).wf = true → (Lit.int .i64 a1).wf = true → (Lit.int .i64 a2).wf = true → ∃ k, arrearslaw1_MoneyFloorRest.f k a0 a1 a2 = some true
theorem arrearslaw1_MoneyFloorRest.walk (P : arrearslaw1_MoneyFloorRest.Pure) (a0 : Int) (a1 : Int) (a2 : Int) (w : World) (w0 : (Lit.int .i64 a0).wf = true) (w1 : (Lit.int .i64 a1).wf = true) (w2 : (Lit.int .i64 a2).wf = true) :
    Calls Try.prog 8 #[.int .i64 a0, .int .i64 a1, .int .i64 a2] w fun e w' => e = .returned (.bool true) ∧ Below w.heap.size w w' := by
  obtain ⟨k, h⟩ := P a0 a1 a2 w0 w1 w2
  refine (arrearslaw1_MoneyFloorRest.calls k a0 a1 a2 true w h).mono ?_
  rintro e w' ⟨rfl, hd⟩
  exact ⟨rfl, hd.below⟩

/-! ### money_weighed: function 42 -/
mutual
def money_weighed.j0 : Nat → List Int → Bool → Option (Int × Bool)
  | 0, _, _ => none
  | k + 1, x1, x21 => if x21 = true then (some (0, false)) else (money_weighed.l0 k x1 x1 (x1.length : Int) 0)
def money_weighed.l0 : Nat → List Int → List Int → Int → Int → Option (Int × Bool)
  | 0, _, _, _, _ => none
  | k + 1, x1, x22, x23, x24 => if x24 < x23 then (if 0 ≤ x24 then (if x24 < (x22.length : Int) then (if (rd x22 x24) < 0 then (some (0, false)) else (money_weighed.l0 k x1 x22 x23 (wrap64 (x24 + 1)))) else (none)) else (none)) else ((money_Sum_int64.f k x1).bind fun bt310 => (if bt310.2 = true then (some (bt310.1, decide (bt310.1 > 0))) else (some (bt310.1, false))))
end
def money_weighed.f (k : Nat) (a0 : Int) (l1 : List Int) : Option (Int × Bool) := if a0 < 0 then (money_weighed.j0 k l1 true) else (if (l1.length : Int) < 1 then (money_weighed.j0 k l1 true) else (money_weighed.j0 k l1 (decide ((l1.length : Int) > 1000))))
theorem money_weighed.mono_l : ∀ k, (∀ y0 y1, LeO (money_weighed.j0 k y0 y1) (money_weighed.j0 (k + 1) y0 y1)) ∧ (∀ y0 y1 y2 y3, LeO (money_weighed.l0 k y0 y1 y2 y3) (money_weighed.l0 (k + 1) y0 y1 y2 y3))
  | 0 => ⟨fun _ _ r h => by simp [money_weighed.j0] at h, fun _ _ _ _ r h => by simp [money_weighed.l0] at h⟩
  | k + 1 => by
    obtain ⟨ih0, ih1⟩ := money_weighed.mono_l k
    refine ⟨?_, ?_⟩
    · intro y0 y1
      unfold money_weighed.j0
      repeat' first
      | (with_reducible exact ih0 _ _)
      | (with_reducible exact ih1 _ _ _ _)
      | (with_reducible exact money_Sum_int64.mono _ _)
      | (with_reducible exact LeO.refl _)
      | (with_reducible exact LeO.none _)
      | (with_reducible refine LeO.ite ?_ ?_)
      | (with_reducible refine LeO.bind ?_ (fun _ => ?_))
      | exact ih0 _ _
      | exact ih1 _ _ _ _
      | exact money_Sum_int64.mono _ _
      | exact LeO.none _
      | refine LeO.ite ?_ ?_
      | refine LeO.bind ?_ (fun _ => ?_)
    · intro y0 y1 y2 y3
      unfold money_weighed.l0
      repeat' first
      | (with_reducible exact ih0 _ _)
      | (with_reducible exact ih1 _ _ _ _)
      | (with_reducible exact money_Sum_int64.mono _ _)
      | (with_reducible exact LeO.refl _)
      | (with_reducible exact LeO.none _)
      | (with_reducible refine LeO.ite ?_ ?_)
      | (with_reducible refine LeO.bind ?_ (fun _ => ?_))
      | exact ih0 _ _
      | exact ih1 _ _ _ _
      | exact money_Sum_int64.mono _ _
      | exact LeO.none _
      | refine LeO.ite ?_ ?_
      | refine LeO.bind ?_ (fun _ => ?_)
theorem money_weighed.mono : ∀ a0 a1 k, LeO (money_weighed.f k a0 a1) (money_weighed.f (k + 1) a0 a1) := by
  intro a0 a1 k
  obtain ⟨ih0, ih1⟩ := money_weighed.mono_l k
  unfold money_weighed.f
  repeat' first
      | (with_reducible exact ih0 _ _)
      | (with_reducible exact ih1 _ _ _ _)
      | (with_reducible exact money_Sum_int64.mono _ _)
      | (with_reducible exact LeO.refl _)
      | (with_reducible exact LeO.none _)
      | (with_reducible refine LeO.ite ?_ ?_)
      | (with_reducible refine LeO.bind ?_ (fun _ => ?_))
      | exact ih0 _ _
      | exact ih1 _ _ _ _
      | exact money_Sum_int64.mono _ _
      | exact LeO.none _
      | refine LeO.ite ?_ ?_
      | refine LeO.bind ?_ (fun _ => ?_)
set_option maxHeartbeats 8000000 in
set_option maxRecDepth 100000 in
theorem money_weighed.calls (k : Nat) (a0 : Int) (A1 : Option Addr) (c1 : Nat) (l1 : List Int) (r1 : Int) (r2 : Bool) (w : World) (hr1 : Kd.C (Kd.int .i64) w A1 l1.length l1) (hc1 : l1.length ≤ c1) (h : money_weighed.f k a0 l1 = some (r1, r2)) :
    Calls Try.prog 42 #[.int .i64 a0, .slice A1 l1.length c1] w fun e w' => e = .returned (.tuple #[.int .i64 r1, .bool r2]) ∧ Drawn0 w w' := by
  have HR1 := Aside0.mk hr1
  have HC1 := Aside0.mk hc1
  clear hr1 hc1
  have H : (if a0 < 0 then (money_weighed.j0 k l1 true) else (if (l1.length : Int) < 1 then (money_weighed.j0 k l1 true) else (money_weighed.j0 k l1 (decide ((l1.length : Int) > 1000))))) = some (r1, r2) := h
  clear h
  have HC3 := Aside0.mk H
  clear H
  go_enter Try.func42, Try.ntmps42
  go_upto_region 1 with (fail)
  go_cut [21] (fun v21 wc => ∃ (kq : Nat) (x21_2 : Bool), v21 = .bool x21_2 ∧ Aside0 (money_weighed.j0 kq l1 x21_2 = some (r1, r2)) ∧ Aside0 (kq ≤ k) ∧ Drawn0 w wc)
  case first =>
    have H := HC3.out
    clear HC3
    by_cases c4 : a0 < 0
    · rw [if_pos c4] at H
      have c4b0 : decide (a0 < 0) = true := decide_eq_true c4
      clear c4
      (first | rw [c4b0] | (simp only [i64_w, i32_w]; rw [c4b0]) | skip)
      have H' := Aside0.mk H
      clear H
      go_wp2
      go_meet
      case rel => exact ⟨_, (true), (by first | rfl | (simp; done) | (simp [*]; done)), H', ⟨by first | omega | exact Nat.le_refl _⟩, by repeat (first | exact Drawn0.refl _ | apply Drawn0.step)⟩
    · rw [if_neg c4] at H
      have c4b0 : decide (a0 < 0) = false := decide_eq_false c4
      clear c4
      (first | rw [c4b0] | (simp only [i64_w, i32_w]; rw [c4b0]) | skip)
      by_cases c5 : (l1.length : Int) < 1
      · rw [if_pos c5] at H
        have c5b0 : decide ((l1.length : Int) < 1) = true := decide_eq_true c5
        have c5b1 : decide (l1.length < 1) = true := decide_eq_true (by omega)
        clear c5
        have H' := Aside0.mk H
        clear H
        go_wp2
        go_meet
        case rel => exact ⟨_, (true), (by first | rfl | (simp; done) | (simp [*]; done)), H', ⟨by first | omega | exact Nat.le_refl _⟩, by repeat (first | exact Drawn0.refl _ | apply Drawn0.step)⟩
      · rw [if_neg c5] at H
        have c5b0 : decide ((l1.length : Int) < 1) = false := decide_eq_false c5
        have c5b1 : decide (l1.length < 1) = false := decide_eq_false (by omega)
        clear c5
        have H' := Aside0.mk H
        clear H
        go_wp2
        go_meet
        case rel => exact ⟨_, (decide ((l1.length : Int) > 1000)), (by first | rfl | (simp; done) | (simp [*]; done)), H', ⟨by first | omega | exact Nat.le_refl _⟩, by repeat (first | exact Drawn0.refl _ | apply Drawn0.step)⟩
  case rest =>
    clear HC3
    try clear c1
    try clear p2
    try clear c4
    try clear c4b0
    try clear c5
    try clear c5b0
    try clear c5b1
    obtain ⟨kq, x21_2, rfl, HA, HJ2, ⟨mc2, rfl⟩⟩ := hcut
    cases kq with
    | zero => exact absurd HA.out (by simp [money_weighed.j0])
    | succ kj2 =>
      have H := HA.out
      clear HA
      simp only [money_weighed.j0] at H
      by_cases c6 : x21_2 = true
      · subst c6
        have H1 : (some (0, false)) = some (r1, r2) := by rw [if_pos rfl] at H; exact H
        clear H
        have H := H1
        clear H1
        simp only [Option.some.injEq, Prod.mk.injEq] at H
        obtain ⟨rfl, rfl⟩ := H
        go_wp2
        go_ret2
        exact ⟨by first | rfl | (simp; done) | (simp [*]; done), by repeat (first | exact Drawn0.refl _ | apply Drawn0.step)⟩
      · replace c6 := Bool.eq_false_iff.mpr c6
        subst c6
        have H1 : (money_weighed.l0 kj2 l1 l1 (l1.length : Int) 0) = some (r1, r2) := by rw [if_neg (show ¬ (false = true) by decide)] at H; exact H
        clear H
        have H := H1
        clear H1
        have H' := Aside0.mk H
        clear H
        go_wp2
        go_loopg [24] kj2 (fun kq v24 w' => ∃ (x24_2 : Int), v24 = .int .i64 x24_2 ∧ Aside0 (money_weighed.l0 kq l1 l1 (l1.length : Int) x24_2 = some (r1, r2)) ∧ Aside0 (kq ≤ kj2) ∧ Drawn0 w w')
        case atStart => exact ⟨(0), (by first | rfl | (simp; done) | (simp [*]; done)), H', ⟨Nat.le_refl _⟩, by repeat (first | exact Drawn0.refl _ | apply Drawn0.step)⟩
        case round =>
          clear H'
          try clear c1
          try clear c2
          try clear p2
          try clear c4
          try clear c4b0
          try clear c5
          try clear c5b0
          try clear c5b1
          try clear c6
          try clear p2
          obtain ⟨x24_2, rfl, HA, HK2, ⟨m2, rfl⟩⟩ := hrel
          cases gk with
          | zero => exact absurd HA.out (by simp [money_weighed.l0])
          | succ k2 =>
            have H := HA.out
            clear HA
            simp only [money_weighed.l0] at H
            by_cases c7 : x24_2 < (l1.length : Int)
            · rw [if_pos c7] at H
              have c7b0 : decide (x24_2 < (l1.length : Int)) = true := decide_eq_true c7
              clear c7
              by_cases c8 : 0 ≤ x24_2
              · rw [if_pos c8] at H
                have c8b0 : decide (0 ≤ x24_2) = true := decide_eq_true c8
                clear c8
                by_cases c9 : x24_2 < (l1.length : Int)
                · rw [if_pos c9] at H
                  have c9b0 : decide (x24_2 < (l1.length : Int)) = true := decide_eq_true c9
                  clear c9
                  by_cases c10 : (rd l1 x24_2) < 0
                  · rw [if_pos c10] at H
                    have c10b0 : decide ((rd l1 x24_2) < 0) = true := decide_eq_true c10
                    clear c10
                    simp only [Option.some.injEq, Prod.mk.injEq] at H
                    obtain ⟨rfl, rfl⟩ := H
                    have p309 : 0 ≤ (x24_2 : Int) := of_decide_eq_true (by first | (with_reducible assumption) | assumption)
                    have q309 : x24_2 < (l1.length : Int) := of_decide_eq_true (by first | (with_reducible assumption) | assumption)
                    obtain ⟨ad309, e309, hx309_0⟩ := Kd.at_int HR1.out x24_2 p309 q309
                    cases e309
                    replace p309 := eq_true p309
                    replace q309 := eq_true q309
                    go_wp2
                    go_ret2
                    exact ⟨by first | rfl | (simp; done) | (simp [*]; done), by repeat (first | exact Drawn0.refl _ | apply Drawn0.step)⟩
                  · rw [if_neg c10] at H
                    have c10b0 : decide ((rd l1 x24_2) < 0) = false := decide_eq_false c10
                    clear c10
                    have H' := Aside0.mk H
                    clear H
                    have p309 : 0 ≤ (x24_2 : Int) := of_decide_eq_true (by first | (with_reducible assumption) | assumption)
                    have q309 : x24_2 < (l1.length : Int) := of_decide_eq_true (by first | (with_reducible assumption) | assumption)
                    obtain ⟨ad309, e309, hx309_0⟩ := Kd.at_int HR1.out x24_2 p309 q309
                    cases e309
                    replace p309 := eq_true p309
                    replace q309 := eq_true q309
                    go_wp2
                    go_roundg k2
                    case measure => have := HJ2.out; have := HK2.out; omega
                    case rel => exact ⟨(wrap64 (x24_2 + 1)), (by first | rfl | (simp; done) | (simp [*]; done)), H', ⟨by have := HJ2.out; have := HK2.out; omega⟩, by repeat (first | exact Drawn0.refl _ | apply Drawn0.step)⟩
                · rw [if_neg c9] at H
                  exact absurd H (by simp)
              · rw [if_neg c8] at H
                exact absurd H (by simp)
            · rw [if_neg c7] at H
              have c7b0 : decide (x24_2 < (l1.length : Int)) = false := decide_eq_false c7
              clear c7
              replace H := Option.bind_eq_some_iff.mp H
              obtain ⟨⟨t310, t311⟩, A110, H⟩ := H
              replace H : (if t311 = true then (some (t310, decide (t310 > 0))) else (some (t310, false))) = some (r1, r2) := H
              have A11 := Aside0.mk A110
              clear A110
              by_cases c12 : t311 = true
              · subst c12
                have H1 : (some (t310, decide (t310 > 0))) = some (r1, r2) := by rw [if_pos rfl] at H; exact H
                clear H
                have H := H1
                clear H1
                simp only [Option.some.injEq, Prod.mk.injEq] at H
                obtain ⟨rfl, rfl⟩ := H
                go_wp2_with (first | ((with_reducible refine gate_callee (f := 13) rfl ?_); refine goesL_ (some 33) rfl rfl Try.func13 (by kernel_rfl) rfl #[.slice A1 l1.length c1] rfl (by (try simp only [List.map_toArray, List.map_cons, List.map_nil]); first | done | rfl | (simp only [List.length_drop, List.length_take]; rfl)) ?_; (with_reducible refine (money_Sum_int64.calls k2 _ _ l1 t310 true _ ?side1 ?side2 A11.out).mono ?_); (case side1 => repeat (first | exact HR1.out | (with_reducible refine Kd.C_alloc ?_ _) | (with_reducible refine Kd.C_drewN ?_ _) | (with_reducible refine Kd.C_drew ?_))); (case side2 => exact HC1.out); rintro e w' ⟨rfl, ⟨nd, rfl⟩⟩; refine ⟨_, rfl, ?_⟩))
                go_ret2
                exact ⟨by first | rfl | (simp; done) | (simp [*]; done), by repeat (first | exact Drawn0.refl _ | apply Drawn0.step)⟩
              · replace c12 := Bool.eq_false_iff.mpr c12
                subst c12
                have H1 : (some (t310, false)) = some (r1, r2) := by rw [if_neg (show ¬ (false = true) by decide)] at H; exact H
                clear H
                have H := H1
                clear H1
                simp only [Option.some.injEq, Prod.mk.injEq] at H
                obtain ⟨rfl, rfl⟩ := H
                go_wp2_with (first | ((with_reducible refine gate_callee (f := 13) rfl ?_); refine goesL_ (some 33) rfl rfl Try.func13 (by kernel_rfl) rfl #[.slice A1 l1.length c1] rfl (by (try simp only [List.map_toArray, List.map_cons, List.map_nil]); first | done | rfl | (simp only [List.length_drop, List.length_take]; rfl)) ?_; (with_reducible refine (money_Sum_int64.calls k2 _ _ l1 t310 false _ ?side1 ?side2 A11.out).mono ?_); (case side1 => repeat (first | exact HR1.out | (with_reducible refine Kd.C_alloc ?_ _) | (with_reducible refine Kd.C_drewN ?_ _) | (with_reducible refine Kd.C_drew ?_))); (case side2 => exact HC1.out); rintro e w' ⟨rfl, ⟨nd, rfl⟩⟩; refine ⟨_, rfl, ?_⟩))
                go_ret2
                exact ⟨by first | rfl | (simp; done) | (simp [*]; done), by repeat (first | exact Drawn0.refl _ | apply Drawn0.step)⟩

end Go.Proofs.Ytfofcgflamidhaa.PAll
