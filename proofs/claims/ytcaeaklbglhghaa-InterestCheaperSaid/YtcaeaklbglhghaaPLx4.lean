-- Laid by wip/myprint.py, a driver over the kit's print, for this claim: a lemma's text, not read by a person.
import Derived.Test.YtcaeaklbglhghaaPLx0
import Derived.Test.YtcaeaklbglhghaaPLx2
import Derived.Test.YtcaeaklbglhghaaPLx3
namespace Go.Proofs.Ytcaeaklbglhghaa.PL
open Go.RowKit Go.Proofs.YtcaeaklbglhghaaW.PrintWords Go.Proofs.YtcaeaklbglhghaaW.PrintLast Go.Proofs.YtcaeaklbglhghaaW.PrintMore
attribute [local go_sem] max2_int min2_int max_two min_two max_three min_three max_four min_four   -- for this text's walks alone
set_option linter.unusedVariables false
set_option linter.unusedSimpArgs false

/-! ### arrearsref3_isRate: function 26 -/
def arrearsref3_isRate.f (a0 : Int) : Option (Bool) := if a0 ≥ 0 then (some (decide (a0 ≤ 100000))) else (some false)
set_option maxHeartbeats 8000000 in
set_option maxRecDepth 100000 in
theorem arrearsref3_isRate.calls (a0 : Int) (r : Bool) (w : World) (h : arrearsref3_isRate.f a0 = some r) :
    Calls Try.prog 26 #[.int .i64 a0] w fun e w' => e = .returned (.bool r) ∧ Drawn0 w w' := by
  have H : (if a0 ≥ 0 then (some (decide (a0 ≤ 100000))) else (some false)) = some r := h
  clear h
  by_cases c2 : a0 ≥ 0
  · rw [if_pos c2] at H
    have c2b0 : decide (0 ≤ a0) = true := decide_eq_true c2
    clear c2
    obtain rfl := Option.some.inj H
    go_enter Try.func26, Try.ntmps26
    go_wp2
    go_ret
    exact ⟨by first | rfl | (simp; done) | (simp [*]; done), by repeat (first | exact Drawn0.refl _ | apply Drawn0.step)⟩
  · rw [if_neg c2] at H
    have c2b0 : decide (0 ≤ a0) = false := decide_eq_false c2
    clear c2
    obtain rfl := Option.some.inj H
    go_enter Try.func26, Try.ntmps26
    go_wp2
    go_ret
    exact ⟨by first | rfl | (simp; done) | (simp [*]; done), by repeat (first | exact Drawn0.refl _ | apply Drawn0.step)⟩

/-! ### arrearsref3_month: function 27 -/
def arrearsref3_month.f (a0 : Int) (a1 : Int) : Option (Int) := if (wrap64 (2 * (Int.tmod (wrap64 ((Int.tmod a0 120000) * a1)) 120000))) > 120000 then (some (wrap64 ((wrap64 ((wrap64 ((wrap64 (Int.tdiv a0 120000)) * a1)) + (wrap64 (Int.tdiv (wrap64 ((Int.tmod a0 120000) * a1)) 120000)))) + 1))) else (if (wrap64 (2 * (Int.tmod (wrap64 ((Int.tmod a0 120000) * a1)) 120000))) = 120000 then (if (Int.tmod (wrap64 ((wrap64 ((wrap64 (Int.tdiv a0 120000)) * a1)) + (wrap64 (Int.tdiv (wrap64 ((Int.tmod a0 120000) * a1)) 120000)))) 2) = 1 then (some (wrap64 ((wrap64 ((wrap64 ((wrap64 (Int.tdiv a0 120000)) * a1)) + (wrap64 (Int.tdiv (wrap64 ((Int.tmod a0 120000) * a1)) 120000)))) + 1))) else (some (wrap64 ((wrap64 ((wrap64 (Int.tdiv a0 120000)) * a1)) + (wrap64 (Int.tdiv (wrap64 ((Int.tmod a0 120000) * a1)) 120000)))))) else (some (wrap64 ((wrap64 ((wrap64 (Int.tdiv a0 120000)) * a1)) + (wrap64 (Int.tdiv (wrap64 ((Int.tmod a0 120000) * a1)) 120000))))))
set_option maxHeartbeats 8000000 in
set_option maxRecDepth 100000 in
theorem arrearsref3_month.calls (a0 : Int) (a1 : Int) (r : Int) (w : World) (h : arrearsref3_month.f a0 a1 = some r) :
    Calls Try.prog 27 #[.int .i64 a0, .int .i64 a1] w fun e w' => e = .returned (.int .i64 r) ∧ Drawn0 w w' := by
  have H : (if (wrap64 (2 * (Int.tmod (wrap64 ((Int.tmod a0 120000) * a1)) 120000))) > 120000 then (some (wrap64 ((wrap64 ((wrap64 ((wrap64 (Int.tdiv a0 120000)) * a1)) + (wrap64 (Int.tdiv (wrap64 ((Int.tmod a0 120000) * a1)) 120000)))) + 1))) else (if (wrap64 (2 * (Int.tmod (wrap64 ((Int.tmod a0 120000) * a1)) 120000))) = 120000 then (if (Int.tmod (wrap64 ((wrap64 ((wrap64 (Int.tdiv a0 120000)) * a1)) + (wrap64 (Int.tdiv (wrap64 ((Int.tmod a0 120000) * a1)) 120000)))) 2) = 1 then (some (wrap64 ((wrap64 ((wrap64 ((wrap64 (Int.tdiv a0 120000)) * a1)) + (wrap64 (Int.tdiv (wrap64 ((Int.tmod a0 120000) * a1)) 120000)))) + 1))) else (some (wrap64 ((wrap64 ((wrap64 (Int.tdiv a0 120000)) * a1)) + (wrap64 (Int.tdiv (wrap64 ((Int.tmod a0 120000) * a1)) 120000)))))) else (some (wrap64 ((wrap64 ((wrap64 (Int.tdiv a0 120000)) * a1)) + (wrap64 (Int.tdiv (wrap64 ((Int.tmod a0 120000) * a1)) 120000))))))) = some r := h
  clear h
  by_cases c3 : (wrap64 (2 * (Int.tmod (wrap64 ((Int.tmod a0 120000) * a1)) 120000))) > 120000
  · rw [if_pos c3] at H
    have c3b0 : decide (120000 < (wrap64 (2 * (Int.tmod (wrap64 ((Int.tmod a0 120000) * a1)) 120000)))) = true := decide_eq_true c3
    clear c3
    obtain rfl := Option.some.inj H
    go_enter Try.func27, Try.ntmps27
    go_wp2
    go_ret
    exact ⟨by first | rfl | (simp; done) | (simp [*]; done), by repeat (first | exact Drawn0.refl _ | apply Drawn0.step)⟩
  · rw [if_neg c3] at H
    have c3b0 : decide (120000 < (wrap64 (2 * (Int.tmod (wrap64 ((Int.tmod a0 120000) * a1)) 120000)))) = false := decide_eq_false c3
    clear c3
    by_cases c4 : (wrap64 (2 * (Int.tmod (wrap64 ((Int.tmod a0 120000) * a1)) 120000))) = 120000
    · rw [if_pos c4] at H
      have c4b0 : ((wrap64 (2 * (Int.tmod (wrap64 ((Int.tmod a0 120000) * a1)) 120000))) == 120000) = true := beq_iff_eq.mpr c4
      have c4b1 : ((wrap64 (2 * (Int.tmod (wrap64 ((Int.tmod a0 120000) * a1)) 120000))) != 120000) = false := bne_eq_false_iff_eq.mpr c4
      clear c4
      by_cases c5 : (Int.tmod (wrap64 ((wrap64 ((wrap64 (Int.tdiv a0 120000)) * a1)) + (wrap64 (Int.tdiv (wrap64 ((Int.tmod a0 120000) * a1)) 120000)))) 2) = 1
      · rw [if_pos c5] at H
        have c5b0 : ((Int.tmod (wrap64 ((wrap64 ((wrap64 (Int.tdiv a0 120000)) * a1)) + (wrap64 (Int.tdiv (wrap64 ((Int.tmod a0 120000) * a1)) 120000)))) 2) == 1) = true := beq_iff_eq.mpr c5
        have c5b1 : ((Int.tmod (wrap64 ((wrap64 ((wrap64 (Int.tdiv a0 120000)) * a1)) + (wrap64 (Int.tdiv (wrap64 ((Int.tmod a0 120000) * a1)) 120000)))) 2) != 1) = false := bne_eq_false_iff_eq.mpr c5
        clear c5
        obtain rfl := Option.some.inj H
        go_enter Try.func27, Try.ntmps27
        go_wp2
        go_ret
        exact ⟨by first | rfl | (simp; done) | (simp [*]; done), by repeat (first | exact Drawn0.refl _ | apply Drawn0.step)⟩
      · rw [if_neg c5] at H
        have c5b0 : ((Int.tmod (wrap64 ((wrap64 ((wrap64 (Int.tdiv a0 120000)) * a1)) + (wrap64 (Int.tdiv (wrap64 ((Int.tmod a0 120000) * a1)) 120000)))) 2) == 1) = false := beq_eq_false_iff_ne.mpr c5
        have c5b1 : ((Int.tmod (wrap64 ((wrap64 ((wrap64 (Int.tdiv a0 120000)) * a1)) + (wrap64 (Int.tdiv (wrap64 ((Int.tmod a0 120000) * a1)) 120000)))) 2) != 1) = true := bne_iff_ne.mpr c5
        obtain rfl := Option.some.inj H
        go_enter Try.func27, Try.ntmps27
        go_wp2
        go_ret
        exact ⟨by first | rfl | (simp; done) | (simp [*]; done), by repeat (first | exact Drawn0.refl _ | apply Drawn0.step)⟩
    · rw [if_neg c4] at H
      have c4b0 : ((wrap64 (2 * (Int.tmod (wrap64 ((Int.tmod a0 120000) * a1)) 120000))) == 120000) = false := beq_eq_false_iff_ne.mpr c4
      have c4b1 : ((wrap64 (2 * (Int.tmod (wrap64 ((Int.tmod a0 120000) * a1)) 120000))) != 120000) = true := bne_iff_ne.mpr c4
      obtain rfl := Option.some.inj H
      go_enter Try.func27, Try.ntmps27
      go_wp2
      go_ret
      exact ⟨by first | rfl | (simp; done) | (simp [*]; done), by repeat (first | exact Drawn0.refl _ | apply Drawn0.step)⟩

/-! ### arrearsref3_PaysOff: function 35 -/
def arrearsref3_PaysOff.l0 : Nat → Int → Int → Int → Int → Int → Option (Bool)
  | 0, _, _, _, _, _ => none
  | k + 1, x0, x1, x2, x3, x9 => if x9 < x3 then ((arrearsref3_month.f x1 x2).bind fun t118 => (if x0 ≤ t118 then (some false) else (if (wrap64 (x0 - t118)) ≥ x1 then (some true) else (arrearsref3_PaysOff.l0 k x0 (wrap64 (x1 - (wrap64 (x0 - t118)))) x2 x3 (wrap64 (x9 + 1)))))) else (some false)
def arrearsref3_PaysOff.f (k : Nat) (a0 : Int) (a1 : Int) (a2 : Int) (a3 : Int) : Option (Bool) := arrearsref3_PaysOff.l0 k a0 a1 a2 a3 0
theorem arrearsref3_PaysOff.mono_l : ∀ k, (∀ y0 y1 y2 y3 y4, LeO (arrearsref3_PaysOff.l0 k y0 y1 y2 y3 y4) (arrearsref3_PaysOff.l0 (k + 1) y0 y1 y2 y3 y4))
  | 0 => fun _ _ _ _ _ r h => by simp [arrearsref3_PaysOff.l0] at h
  | k + 1 => by
    have ih0 := arrearsref3_PaysOff.mono_l k
    · intro y0 y1 y2 y3 y4
      unfold arrearsref3_PaysOff.l0
      repeat' first
      | (with_reducible exact ih0 _ _ _ _ _)
      | (with_reducible exact LeO.refl _)
      | (with_reducible exact LeO.none _)
      | (with_reducible refine LeO.ite ?_ ?_)
      | (with_reducible refine LeO.bind ?_ (fun _ => ?_))
      | exact ih0 _ _ _ _ _
      | exact LeO.none _
      | refine LeO.ite ?_ ?_
      | refine LeO.bind ?_ (fun _ => ?_)
theorem arrearsref3_PaysOff.mono : ∀ a0 a1 a2 a3 k, LeO (arrearsref3_PaysOff.f k a0 a1 a2 a3) (arrearsref3_PaysOff.f (k + 1) a0 a1 a2 a3) := by
  intro a0 a1 a2 a3 k
  have ih0 := arrearsref3_PaysOff.mono_l k
  unfold arrearsref3_PaysOff.f
  repeat' first
      | (with_reducible exact ih0 _ _ _ _ _)
      | (with_reducible exact LeO.refl _)
      | (with_reducible exact LeO.none _)
      | (with_reducible refine LeO.ite ?_ ?_)
      | (with_reducible refine LeO.bind ?_ (fun _ => ?_))
      | exact ih0 _ _ _ _ _
      | exact LeO.none _
      | refine LeO.ite ?_ ?_
      | refine LeO.bind ?_ (fun _ => ?_)
set_option maxHeartbeats 8000000 in
set_option maxRecDepth 100000 in
theorem arrearsref3_PaysOff.calls (k : Nat) (a0 : Int) (a1 : Int) (a2 : Int) (a3 : Int) (r : Bool) (w : World) (h : arrearsref3_PaysOff.f k a0 a1 a2 a3 = some r) :
    Calls Try.prog 35 #[.int .i64 a0, .int .i64 a1, .int .i64 a2, .int .i64 a3] w fun e w' => e = .returned (.bool r) ∧ Drawn0 w w' := by
  have H : (arrearsref3_PaysOff.l0 k a0 a1 a2 a3 0) = some r := h
  clear h
  have H' := Aside0.mk H
  clear H
  go_enter Try.func35, Try.ntmps35
  go_wp2
  go_loopg [1, 9] k (fun kq v1 v9 w' => ∃ (x1_1 : Int) (x9_1 : Int), v1 = .int .i64 x1_1 ∧ v9 = .int .i64 x9_1 ∧ Aside0 (arrearsref3_PaysOff.l0 kq a0 x1_1 a2 a3 x9_1 = some r) ∧ Aside0 (kq ≤ k) ∧ Drawn0 w w')
  case atStart => exact ⟨(a1), (0), (by first | rfl | (simp; done) | (simp [*]; done)), (by first | rfl | (simp; done) | (simp [*]; done)), H', ⟨Nat.le_refl _⟩, by repeat (first | exact Drawn0.refl _ | apply Drawn0.step)⟩
  case round =>
    clear H'
    try clear p2
    try clear c3
    obtain ⟨x1_1, x9_1, rfl, rfl, HA, HK1, ⟨m1, rfl⟩⟩ := hrel
    cases gk with
    | zero => exact absurd HA.out (by simp [arrearsref3_PaysOff.l0])
    | succ k1 =>
      have H := HA.out
      clear HA
      simp only [arrearsref3_PaysOff.l0] at H
      by_cases c5 : x9_1 < a3
      · rw [if_pos c5] at H
        have c5b0 : decide (x9_1 < a3) = true := decide_eq_true c5
        clear c5
        replace H := Option.bind_eq_some_iff.mp H
        obtain ⟨t118, A60, H⟩ := H
        replace H : (if a0 ≤ t118 then (some false) else (if (wrap64 (a0 - t118)) ≥ x1_1 then (some true) else (arrearsref3_PaysOff.l0 k1 a0 (wrap64 (x1_1 - (wrap64 (a0 - t118)))) a2 a3 (wrap64 (x9_1 + 1))))) = some r := H
        have A6 := Aside0.mk A60
        clear A60
        by_cases c7 : a0 ≤ t118
        · rw [if_pos c7] at H
          have c7b0 : decide (a0 ≤ t118) = true := decide_eq_true c7
          clear c7
          obtain rfl := Option.some.inj H
          go_wp2_with (first | ((with_reducible refine gate_callee (f := 27) rfl ?_); refine goesL_ (some 18) rfl rfl Try.func27 (by kernel_rfl) rfl #[.int .i64 x1_1, .int .i64 a2] rfl (by (try simp only [List.map_toArray, List.map_cons, List.map_nil]); first | done | rfl | (simp only [List.length_drop, List.length_take]; rfl)) ?_; (with_reducible refine (arrearsref3_month.calls x1_1 a2 t118 _ A6.out).mono ?_); rintro e w' ⟨rfl, ⟨nd, rfl⟩⟩; refine ⟨_, rfl, ?_⟩))
          go_ret
          exact ⟨by first | rfl | (simp; done) | (simp [*]; done), by repeat (first | exact Drawn0.refl _ | apply Drawn0.step)⟩
        · rw [if_neg c7] at H
          have c7b0 : decide (a0 ≤ t118) = false := decide_eq_false c7
          clear c7
          by_cases c8 : (wrap64 (a0 - t118)) ≥ x1_1
          · rw [if_pos c8] at H
            have c8b0 : decide (x1_1 ≤ (wrap64 (a0 - t118))) = true := decide_eq_true c8
            clear c8
            obtain rfl := Option.some.inj H
            go_wp2_with (first | ((with_reducible refine gate_callee (f := 27) rfl ?_); refine goesL_ (some 18) rfl rfl Try.func27 (by kernel_rfl) rfl #[.int .i64 x1_1, .int .i64 a2] rfl (by (try simp only [List.map_toArray, List.map_cons, List.map_nil]); first | done | rfl | (simp only [List.length_drop, List.length_take]; rfl)) ?_; (with_reducible refine (arrearsref3_month.calls x1_1 a2 t118 _ A6.out).mono ?_); rintro e w' ⟨rfl, ⟨nd, rfl⟩⟩; refine ⟨_, rfl, ?_⟩))
            go_ret
            exact ⟨by first | rfl | (simp; done) | (simp [*]; done), by repeat (first | exact Drawn0.refl _ | apply Drawn0.step)⟩
          · rw [if_neg c8] at H
            have c8b0 : decide (x1_1 ≤ (wrap64 (a0 - t118))) = false := decide_eq_false c8
            clear c8
            have H' := Aside0.mk H
            clear H
            go_wp2_with (first | ((with_reducible refine gate_callee (f := 27) rfl ?_); refine goesL_ (some 18) rfl rfl Try.func27 (by kernel_rfl) rfl #[.int .i64 x1_1, .int .i64 a2] rfl (by (try simp only [List.map_toArray, List.map_cons, List.map_nil]); first | done | rfl | (simp only [List.length_drop, List.length_take]; rfl)) ?_; (with_reducible refine (arrearsref3_month.calls x1_1 a2 t118 _ A6.out).mono ?_); rintro e w' ⟨rfl, ⟨nd, rfl⟩⟩; refine ⟨_, rfl, ?_⟩))
            go_roundg k1
            case measure => have := HK1.out; omega
            case rel => exact ⟨(wrap64 (x1_1 - (wrap64 (a0 - t118)))), (wrap64 (x9_1 + 1)), (by first | rfl | (simp; done) | (simp [*]; done)), (by first | rfl | (simp; done) | (simp [*]; done)), H', ⟨by have := HK1.out; omega⟩, by repeat (first | exact Drawn0.refl _ | apply Drawn0.step)⟩
      · rw [if_neg c5] at H
        have c5b0 : decide (x9_1 < a3) = false := decide_eq_false c5
        clear c5
        obtain rfl := Option.some.inj H
        go_wp2
        go_ret
        exact ⟨by first | rfl | (simp; done) | (simp [*]; done), by repeat (first | exact Drawn0.refl _ | apply Drawn0.step)⟩

/-! ### arrearsref3_Level: function 21 -/
mutual
def arrearsref3_Level.j0 : Nat → Int → Int → Int → Bool → Option (Int × Bool)
  | 0, _, _, _, _ => none
  | k + 1, x0, x1, x2, x24 => if x24 = true then (some (0, false)) else ((arrearsref3_PaysOff.f k 9223372036854775807 x0 x1 x2).bind fun t120 => (if t120 = true then (arrearsref3_Level.l0 k x0 x1 x2 9223372036854775807 4611686018427387904) else (some (0, false))))
def arrearsref3_Level.l0 : Nat → Int → Int → Int → Int → Int → Option (Int × Bool)
  | 0, _, _, _, _, _ => none
  | k + 1, x0, x1, x2, x8, x9 => if x9 > 0 then (if x8 > x9 then ((arrearsref3_PaysOff.f k (wrap64 (x8 - x9)) x0 x1 x2).bind fun t121 => (if t121 = true then (arrearsref3_Level.l0 k x0 x1 x2 (wrap64 (x8 - x9)) (wrap64 (Int.tdiv x9 2))) else (arrearsref3_Level.l0 k x0 x1 x2 x8 (wrap64 (Int.tdiv x9 2))))) else (arrearsref3_Level.l0 k x0 x1 x2 x8 (wrap64 (Int.tdiv x9 2)))) else (some (x8, true))
end
def arrearsref3_Level.f (k : Nat) (a0 : Int) (a1 : Int) (a2 : Int) : Option (Int × Bool) := if a0 < 1 then (arrearsref3_Level.j0 k a0 a1 a2 true) else ((arrearsref3_isRate.f a1).bind fun t119 => (if t119 = true then (if a2 < 1 then (arrearsref3_Level.j0 k a0 a1 a2 true) else (arrearsref3_Level.j0 k a0 a1 a2 (decide (a2 > 120)))) else (arrearsref3_Level.j0 k a0 a1 a2 true)))
theorem arrearsref3_Level.mono_l : ∀ k, (∀ y0 y1 y2 y3, LeO (arrearsref3_Level.j0 k y0 y1 y2 y3) (arrearsref3_Level.j0 (k + 1) y0 y1 y2 y3)) ∧ (∀ y0 y1 y2 y3 y4, LeO (arrearsref3_Level.l0 k y0 y1 y2 y3 y4) (arrearsref3_Level.l0 (k + 1) y0 y1 y2 y3 y4))
  | 0 => ⟨fun _ _ _ _ r h => by simp [arrearsref3_Level.j0] at h, fun _ _ _ _ _ r h => by simp [arrearsref3_Level.l0] at h⟩
  | k + 1 => by
    obtain ⟨ih0, ih1⟩ := arrearsref3_Level.mono_l k
    refine ⟨?_, ?_⟩
    · intro y0 y1 y2 y3
      unfold arrearsref3_Level.j0
      repeat' first
      | (with_reducible exact ih0 _ _ _ _)
      | (with_reducible exact ih1 _ _ _ _ _)
      | (with_reducible exact arrearsref3_PaysOff.mono _ _ _ _ _)
      | (with_reducible exact LeO.refl _)
      | (with_reducible exact LeO.none _)
      | (with_reducible refine LeO.ite ?_ ?_)
      | (with_reducible refine LeO.bind ?_ (fun _ => ?_))
      | exact ih0 _ _ _ _
      | exact ih1 _ _ _ _ _
      | exact arrearsref3_PaysOff.mono _ _ _ _ _
      | exact LeO.none _
      | refine LeO.ite ?_ ?_
      | refine LeO.bind ?_ (fun _ => ?_)
    · intro y0 y1 y2 y3 y4
      unfold arrearsref3_Level.l0
      repeat' first
      | (with_reducible exact ih0 _ _ _ _)
      | (with_reducible exact ih1 _ _ _ _ _)
      | (with_reducible exact arrearsref3_PaysOff.mono _ _ _ _ _)
      | (with_reducible exact LeO.refl _)
      | (with_reducible exact LeO.none _)
      | (with_reducible refine LeO.ite ?_ ?_)
      | (with_reducible refine LeO.bind ?_ (fun _ => ?_))
      | exact ih0 _ _ _ _
      | exact ih1 _ _ _ _ _
      | exact arrearsref3_PaysOff.mono _ _ _ _ _
      | exact LeO.none _
      | refine LeO.ite ?_ ?_
      | refine LeO.bind ?_ (fun _ => ?_)
theorem arrearsref3_Level.mono : ∀ a0 a1 a2 k, LeO (arrearsref3_Level.f k a0 a1 a2) (arrearsref3_Level.f (k + 1) a0 a1 a2) := by
  intro a0 a1 a2 k
  obtain ⟨ih0, ih1⟩ := arrearsref3_Level.mono_l k
  unfold arrearsref3_Level.f
  repeat' first
      | (with_reducible exact ih0 _ _ _ _)
      | (with_reducible exact ih1 _ _ _ _ _)
      | (with_reducible exact arrearsref3_PaysOff.mono _ _ _ _ _)
      | (with_reducible exact LeO.refl _)
      | (with_reducible exact LeO.none _)
      | (with_reducible refine LeO.ite ?_ ?_)
      | (with_reducible refine LeO.bind ?_ (fun _ => ?_))
      | exact ih0 _ _ _ _
      | exact ih1 _ _ _ _ _
      | exact arrearsref3_PaysOff.mono _ _ _ _ _
      | exact LeO.none _
      | refine LeO.ite ?_ ?_
      | refine LeO.bind ?_ (fun _ => ?_)
set_option maxHeartbeats 8000000 in
set_option maxRecDepth 100000 in
theorem arrearsref3_Level.calls (k : Nat) (a0 : Int) (a1 : Int) (a2 : Int) (r1 : Int) (r2 : Bool) (w : World) (h : arrearsref3_Level.f k a0 a1 a2 = some (r1, r2)) :
    Calls Try.prog 21 #[.int .i64 a0, .int .i64 a1, .int .i64 a2] w fun e w' => e = .returned (.tuple #[.int .i64 r1, .bool r2]) ∧ Drawn0 w w' := by
  have H : (if a0 < 1 then (arrearsref3_Level.j0 k a0 a1 a2 true) else ((arrearsref3_isRate.f a1).bind fun t119 => (if t119 = true then (if a2 < 1 then (arrearsref3_Level.j0 k a0 a1 a2 true) else (arrearsref3_Level.j0 k a0 a1 a2 (decide (a2 > 120)))) else (arrearsref3_Level.j0 k a0 a1 a2 true)))) = some (r1, r2) := h
  clear h
  have HC4 := Aside0.mk H
  clear H
  go_enter Try.func21, Try.ntmps21
  go_upto_region 1 with (fail)
  go_cut [24] (fun v24 wc => ∃ (kq : Nat) (x24_3 : Bool), v24 = .bool x24_3 ∧ Aside0 (arrearsref3_Level.j0 kq a0 a1 a2 x24_3 = some (r1, r2)) ∧ Aside0 (kq ≤ k) ∧ Drawn0 w wc)
  case first =>
    have H := HC4.out
    clear HC4
    by_cases c5 : a0 < 1
    · rw [if_pos c5] at H
      have c5b0 : decide (a0 < 1) = true := decide_eq_true c5
      clear c5
      (first | rw [c5b0] | (simp only [i64_w, i32_w]; rw [c5b0]) | skip)
      have H' := Aside0.mk H
      clear H
      go_wp2
      go_meet
      case rel => exact ⟨_, (true), (by first | rfl | (simp; done) | (simp [*]; done)), H', ⟨by first | omega | exact Nat.le_refl _⟩, by repeat (first | exact Drawn0.refl _ | apply Drawn0.step)⟩
    · rw [if_neg c5] at H
      have c5b0 : decide (a0 < 1) = false := decide_eq_false c5
      clear c5
      (first | rw [c5b0] | (simp only [i64_w, i32_w]; rw [c5b0]) | skip)
      replace H := Option.bind_eq_some_iff.mp H
      obtain ⟨t119, A60, H⟩ := H
      replace H : (if t119 = true then (if a2 < 1 then (arrearsref3_Level.j0 k a0 a1 a2 true) else (arrearsref3_Level.j0 k a0 a1 a2 (decide (a2 > 120)))) else (arrearsref3_Level.j0 k a0 a1 a2 true)) = some (r1, r2) := H
      have A6 := Aside0.mk A60
      clear A60
      by_cases c7 : t119 = true
      · subst c7
        have H1 : (if a2 < 1 then (arrearsref3_Level.j0 k a0 a1 a2 true) else (arrearsref3_Level.j0 k a0 a1 a2 (decide (a2 > 120)))) = some (r1, r2) := by rw [if_pos rfl] at H; exact H
        clear H
        have H := H1
        clear H1
        by_cases c8 : a2 < 1
        · rw [if_pos c8] at H
          have c8b0 : decide (a2 < 1) = true := decide_eq_true c8
          clear c8
          have H' := Aside0.mk H
          clear H
          go_wp2_with (first | (go_at_call 26; (with_reducible refine (arrearsref3_isRate.calls a1 true _ A6.out).mono ?_); rintro e w' ⟨rfl, ⟨nd, rfl⟩⟩))
          go_meet
          case rel => exact ⟨_, (true), (by first | rfl | (simp; done) | (simp [*]; done)), H', ⟨by first | omega | exact Nat.le_refl _⟩, by repeat (first | exact Drawn0.refl _ | apply Drawn0.step)⟩
        · rw [if_neg c8] at H
          have c8b0 : decide (a2 < 1) = false := decide_eq_false c8
          clear c8
          have H' := Aside0.mk H
          clear H
          go_wp2_with (first | (go_at_call 26; (with_reducible refine (arrearsref3_isRate.calls a1 true _ A6.out).mono ?_); rintro e w' ⟨rfl, ⟨nd, rfl⟩⟩))
          go_meet
          case rel => exact ⟨_, (decide (a2 > 120)), (by first | rfl | (simp; done) | (simp [*]; done)), H', ⟨by first | omega | exact Nat.le_refl _⟩, by repeat (first | exact Drawn0.refl _ | apply Drawn0.step)⟩
      · replace c7 := Bool.eq_false_iff.mpr c7
        subst c7
        have H1 : (arrearsref3_Level.j0 k a0 a1 a2 true) = some (r1, r2) := by rw [if_neg (show ¬ (false = true) by decide)] at H; exact H
        clear H
        have H := H1
        clear H1
        have H' := Aside0.mk H
        clear H
        go_wp2_with (first | (go_at_call 26; (with_reducible refine (arrearsref3_isRate.calls a1 false _ A6.out).mono ?_); rintro e w' ⟨rfl, ⟨nd, rfl⟩⟩))
        go_meet
        case rel => exact ⟨_, (true), (by first | rfl | (simp; done) | (simp [*]; done)), H', ⟨by first | omega | exact Nat.le_refl _⟩, by repeat (first | exact Drawn0.refl _ | apply Drawn0.step)⟩
  case rest =>
    clear HC4
    try clear c2
    try clear p2
    try clear c5
    try clear c5b0
    try clear c7
    try clear c8
    try clear c8b0
    obtain ⟨kq, x24_3, rfl, HA, HJ3, ⟨mc3, rfl⟩⟩ := hcut
    cases kq with
    | zero => exact absurd HA.out (by simp [arrearsref3_Level.j0])
    | succ kj3 =>
      have H := HA.out
      clear HA
      simp only [arrearsref3_Level.j0] at H
      by_cases c9 : x24_3 = true
      · subst c9
        have H1 : (some (0, false)) = some (r1, r2) := by rw [if_pos rfl] at H; exact H
        clear H
        have H := H1
        clear H1
        simp only [Option.some.injEq, Prod.mk.injEq] at H
        obtain ⟨rfl, rfl⟩ := H
        go_wp2
        go_ret2
        exact ⟨by first | rfl | (simp; done) | (simp [*]; done), by repeat (first | exact Drawn0.refl _ | apply Drawn0.step)⟩
      · replace c9 := Bool.eq_false_iff.mpr c9
        subst c9
        have H1 : ((arrearsref3_PaysOff.f kj3 9223372036854775807 a0 a1 a2).bind fun t120 => (if t120 = true then (arrearsref3_Level.l0 kj3 a0 a1 a2 9223372036854775807 4611686018427387904) else (some (0, false)))) = some (r1, r2) := by rw [if_neg (show ¬ (false = true) by decide)] at H; exact H
        clear H
        have H := H1
        clear H1
        replace H := Option.bind_eq_some_iff.mp H
        obtain ⟨t120, A100, H⟩ := H
        replace H : (if t120 = true then (arrearsref3_Level.l0 kj3 a0 a1 a2 9223372036854775807 4611686018427387904) else (some (0, false))) = some (r1, r2) := H
        have A10 := Aside0.mk A100
        clear A100
        by_cases c11 : t120 = true
        · subst c11
          have H1 : (arrearsref3_Level.l0 kj3 a0 a1 a2 9223372036854775807 4611686018427387904) = some (r1, r2) := by rw [if_pos rfl] at H; exact H
          clear H
          have H := H1
          clear H1
          have H' := Aside0.mk H
          clear H
          go_wp2_with (first | ((with_reducible refine gate_callee (f := 35) rfl ?_); refine goesL_ (some 29) rfl rfl Try.func35 (by kernel_rfl) rfl #[.int .i64 9223372036854775807, .int .i64 a0, .int .i64 a1, .int .i64 a2] rfl (by (try simp only [List.map_toArray, List.map_cons, List.map_nil]); first | done | rfl | (simp only [List.length_drop, List.length_take]; rfl)) ?_; (with_reducible refine (arrearsref3_PaysOff.calls kj3 9223372036854775807 a0 a1 a2 true _ A10.out).mono ?_); rintro e w' ⟨rfl, ⟨nd, rfl⟩⟩; refine ⟨_, rfl, ?_⟩))
          go_loopg [8, 9] kj3 (fun kq v8 v9 w' => ∃ (x8_2 : Int) (x9_2 : Int), v8 = .int .i64 x8_2 ∧ v9 = .int .i64 x9_2 ∧ Aside0 (arrearsref3_Level.l0 kq a0 a1 a2 x8_2 x9_2 = some (r1, r2)) ∧ Aside0 (kq ≤ kj3) ∧ Drawn0 w w')
          case atStart => exact ⟨(9223372036854775807), (4611686018427387904), (by first | rfl | (simp; done) | (simp [*]; done)), (by first | rfl | (simp; done) | (simp [*]; done)), H', ⟨Nat.le_refl _⟩, by repeat (first | exact Drawn0.refl _ | apply Drawn0.step)⟩
          case round =>
            clear H'
            try clear c1
            try clear c2
            try clear p2
            try clear c3
            try clear c5
            try clear c5b0
            try clear c7
            try clear c8
            try clear c8b0
            try clear c9
            try clear c11
            try clear p2
            obtain ⟨x8_2, x9_2, rfl, rfl, HA, HK2, ⟨m2, rfl⟩⟩ := hrel
            cases gk with
            | zero => exact absurd HA.out (by simp [arrearsref3_Level.l0])
            | succ k2 =>
              have H := HA.out
              clear HA
              simp only [arrearsref3_Level.l0] at H
              by_cases c12 : x9_2 > 0
              · rw [if_pos c12] at H
                have c12b0 : decide (0 < x9_2) = true := decide_eq_true c12
                clear c12
                by_cases c13 : x8_2 > x9_2
                · rw [if_pos c13] at H
                  have c13b0 : decide (x9_2 < x8_2) = true := decide_eq_true c13
                  clear c13
                  replace H := Option.bind_eq_some_iff.mp H
                  obtain ⟨t121, A140, H⟩ := H
                  replace H : (if t121 = true then (arrearsref3_Level.l0 k2 a0 a1 a2 (wrap64 (x8_2 - x9_2)) (wrap64 (Int.tdiv x9_2 2))) else (arrearsref3_Level.l0 k2 a0 a1 a2 x8_2 (wrap64 (Int.tdiv x9_2 2)))) = some (r1, r2) := H
                  have A14 := Aside0.mk A140
                  clear A140
                  by_cases c15 : t121 = true
                  · subst c15
                    have H1 : (arrearsref3_Level.l0 k2 a0 a1 a2 (wrap64 (x8_2 - x9_2)) (wrap64 (Int.tdiv x9_2 2))) = some (r1, r2) := by rw [if_pos rfl] at H; exact H
                    clear H
                    have H := H1
                    clear H1
                    have H' := Aside0.mk H
                    clear H
                    go_wp2_with (first | (go_at_call 35; (with_reducible refine (arrearsref3_PaysOff.calls k2 (wrap64 (x8_2 - x9_2)) a0 a1 a2 true _ A14.out).mono ?_); rintro e w' ⟨rfl, ⟨nd, rfl⟩⟩))
                    go_roundg k2
                    case measure => have := HJ3.out; have := HK2.out; omega
                    case rel => exact ⟨(wrap64 (x8_2 - x9_2)), (wrap64 (Int.tdiv x9_2 2)), (by first | rfl | (simp; done) | (simp [*]; done)), (by first | rfl | (simp; done) | (simp [*]; done)), H', ⟨by have := HJ3.out; have := HK2.out; omega⟩, by repeat (first | exact Drawn0.refl _ | apply Drawn0.step)⟩
                  · replace c15 := Bool.eq_false_iff.mpr c15
                    subst c15
                    have H1 : (arrearsref3_Level.l0 k2 a0 a1 a2 x8_2 (wrap64 (Int.tdiv x9_2 2))) = some (r1, r2) := by rw [if_neg (show ¬ (false = true) by decide)] at H; exact H
                    clear H
                    have H := H1
                    clear H1
                    have H' := Aside0.mk H
                    clear H
                    go_wp2_with (first | (go_at_call 35; (with_reducible refine (arrearsref3_PaysOff.calls k2 (wrap64 (x8_2 - x9_2)) a0 a1 a2 false _ A14.out).mono ?_); rintro e w' ⟨rfl, ⟨nd, rfl⟩⟩))
                    go_roundg k2
                    case measure => have := HJ3.out; have := HK2.out; omega
                    case rel => exact ⟨(x8_2), (wrap64 (Int.tdiv x9_2 2)), (by first | rfl | (simp; done) | (simp [*]; done)), (by first | rfl | (simp; done) | (simp [*]; done)), H', ⟨by have := HJ3.out; have := HK2.out; omega⟩, by repeat (first | exact Drawn0.refl _ | apply Drawn0.step)⟩
                · rw [if_neg c13] at H
                  have c13b0 : decide (x9_2 < x8_2) = false := decide_eq_false c13
                  clear c13
                  have H' := Aside0.mk H
                  clear H
                  go_wp2
                  go_roundg k2
                  case measure => have := HJ3.out; have := HK2.out; omega
                  case rel => exact ⟨(x8_2), (wrap64 (Int.tdiv x9_2 2)), (by first | rfl | (simp; done) | (simp [*]; done)), (by first | rfl | (simp; done) | (simp [*]; done)), H', ⟨by have := HJ3.out; have := HK2.out; omega⟩, by repeat (first | exact Drawn0.refl _ | apply Drawn0.step)⟩
              · rw [if_neg c12] at H
                have c12b0 : decide (0 < x9_2) = false := decide_eq_false c12
                clear c12
                simp only [Option.some.injEq, Prod.mk.injEq] at H
                obtain ⟨rfl, rfl⟩ := H
                go_wp2
                go_ret2
                exact ⟨by first | rfl | (simp; done) | (simp [*]; done), by repeat (first | exact Drawn0.refl _ | apply Drawn0.step)⟩
        · replace c11 := Bool.eq_false_iff.mpr c11
          subst c11
          have H1 : (some (0, false)) = some (r1, r2) := by rw [if_neg (show ¬ (false = true) by decide)] at H; exact H
          clear H
          have H := H1
          clear H1
          simp only [Option.some.injEq, Prod.mk.injEq] at H
          obtain ⟨rfl, rfl⟩ := H
          go_wp2_with (first | ((with_reducible refine gate_callee (f := 35) rfl ?_); refine goesL_ (some 29) rfl rfl Try.func35 (by kernel_rfl) rfl #[.int .i64 9223372036854775807, .int .i64 a0, .int .i64 a1, .int .i64 a2] rfl (by (try simp only [List.map_toArray, List.map_cons, List.map_nil]); first | done | rfl | (simp only [List.length_drop, List.length_take]; rfl)) ?_; (with_reducible refine (arrearsref3_PaysOff.calls kj3 9223372036854775807 a0 a1 a2 false _ A10.out).mono ?_); rintro e w' ⟨rfl, ⟨nd, rfl⟩⟩; refine ⟨_, rfl, ?_⟩))
          go_ret2
          exact ⟨by first | rfl | (simp; done) | (simp [*]; done), by repeat (first | exact Drawn0.refl _ | apply Drawn0.step)⟩

/-! ### arrearslaw3_InterestLevels: function 9 -/
def arrearslaw3_InterestLevels.f (k : Nat) (a0 : Int) (a1 : Int) (a2 : Int) : Option (Bool) := (interest_Level.f k a0 a1 a2).bind fun bt122 => ((arrearsref3_Level.f k a0 a1 a2).bind fun bt124 => (if bt122.1 = bt124.1 then (some (bt122.2 == bt124.2)) else (some false)))
theorem arrearslaw3_InterestLevels.mono : ∀ a0 a1 a2 k, LeO (arrearslaw3_InterestLevels.f k a0 a1 a2) (arrearslaw3_InterestLevels.f (k + 1) a0 a1 a2) := by
  intro a0 a1 a2 k
  unfold arrearslaw3_InterestLevels.f
  repeat' first
      | (with_reducible exact arrearsref3_Level.mono _ _ _ _)
      | (with_reducible exact interest_Level.mono _ _ _ _)
      | (with_reducible exact LeO.refl _)
      | (with_reducible exact LeO.none _)
      | (with_reducible refine LeO.ite ?_ ?_)
      | (with_reducible refine LeO.bind ?_ (fun _ => ?_))
      | exact arrearsref3_Level.mono _ _ _ _
      | exact interest_Level.mono _ _ _ _
      | exact LeO.none _
      | refine LeO.ite ?_ ?_
      | refine LeO.bind ?_ (fun _ => ?_)
set_option maxHeartbeats 8000000 in
set_option maxRecDepth 100000 in
theorem arrearslaw3_InterestLevels.calls (k : Nat) (a0 : Int) (a1 : Int) (a2 : Int) (r : Bool) (w : World) (h : arrearslaw3_InterestLevels.f k a0 a1 a2 = some r) :
    Calls Try.prog 9 #[.int .i64 a0, .int .i64 a1, .int .i64 a2] w fun e w' => e = .returned (.bool r) ∧ Below w.heap.size w w' := by
  have HB := Aside0.mk (Below.refl w.heap.size w)
  have H : ((interest_Level.f k a0 a1 a2).bind fun bt122 => ((arrearsref3_Level.f k a0 a1 a2).bind fun bt124 => (if bt122.1 = bt124.1 then (some (bt122.2 == bt124.2)) else (some false)))) = some r := h
  clear h
  replace H := Option.bind_eq_some_iff.mp H
  obtain ⟨⟨t122, t123⟩, A40, H⟩ := H
  replace H : ((arrearsref3_Level.f k a0 a1 a2).bind fun bt124 => (if t122 = bt124.1 then (some (t123 == bt124.2)) else (some false))) = some r := H
  have A4 := Aside0.mk A40
  clear A40
  replace H := Option.bind_eq_some_iff.mp H
  obtain ⟨⟨t124, t125⟩, A50, H⟩ := H
  replace H : (if t122 = t124 then (some (t123 == t125)) else (some false)) = some r := H
  have A5 := Aside0.mk A50
  clear A50
  by_cases c6 : t122 = t124
  · rw [if_pos c6] at H
    have c6b0 : (t122 == t124) = true := beq_iff_eq.mpr c6
    have c6b1 : (t122 != t124) = false := bne_eq_false_iff_eq.mpr c6
    clear c6
    obtain rfl := Option.some.inj H
    go_enter Try.func9, Try.ntmps9
    go_wp2_with (first | ((with_reducible refine gate_callee (f := 20) rfl ?_); refine goesL_ (some 15) rfl rfl Try.func20 (by kernel_rfl) rfl #[.int .i64 a0, .int .i64 a1, .int .i64 a2] rfl (by (try simp only [List.map_toArray, List.map_cons, List.map_nil]); first | done | rfl | (simp only [List.length_drop, List.length_take]; rfl)) ?_; (with_reducible refine (interest_Level.calls k a0 a1 a2 t122 t123 _ A4.out).mono ?_); rintro e w7 ⟨rfl, hb⟩; refine ⟨_, rfl, ?_⟩; have n0_ := Aside0.mk (below_step (by repeat (first | (with_reducible first | exact HB.out | apply below_alloc | apply pw_below_drewN | apply below_drew1) | exact HB.out)) hb); clear HB; have HB := n0_; clear n0_; (try clear hb); (try clear hb2); (try clear hk); (try clear hi)) | ((with_reducible refine gate_callee (f := 21) rfl ?_); refine goesL_ (some 22) rfl rfl Try.func21 (by kernel_rfl) rfl #[.int .i64 a0, .int .i64 a1, .int .i64 a2] rfl (by (try simp only [List.map_toArray, List.map_cons, List.map_nil]); first | done | rfl | (simp only [List.length_drop, List.length_take]; rfl)) ?_; (with_reducible refine (arrearsref3_Level.calls k a0 a1 a2 t124 t125 _ A5.out).mono ?_); rintro e w' ⟨rfl, ⟨nd, rfl⟩⟩; refine ⟨_, rfl, ?_⟩))
    go_ret
    exact ⟨by first | rfl | (simp [errW_none, errW_some] <;> rfl) | (simp [*, errW_none, errW_some] <;> rfl), by repeat (first | (with_reducible first | exact HB.out | apply below_alloc | apply pw_below_drewN | apply below_drew1) | exact HB.out)⟩
  · rw [if_neg c6] at H
    have c6b0 : (t122 == t124) = false := beq_eq_false_iff_ne.mpr c6
    have c6b1 : (t122 != t124) = true := bne_iff_ne.mpr c6
    obtain rfl := Option.some.inj H
    go_enter Try.func9, Try.ntmps9
    go_wp2_with (first | ((with_reducible refine gate_callee (f := 20) rfl ?_); refine goesL_ (some 15) rfl rfl Try.func20 (by kernel_rfl) rfl #[.int .i64 a0, .int .i64 a1, .int .i64 a2] rfl (by (try simp only [List.map_toArray, List.map_cons, List.map_nil]); first | done | rfl | (simp only [List.length_drop, List.length_take]; rfl)) ?_; (with_reducible refine (interest_Level.calls k a0 a1 a2 t122 t123 _ A4.out).mono ?_); rintro e w8 ⟨rfl, hb⟩; refine ⟨_, rfl, ?_⟩; have n0_ := Aside0.mk (below_step (by repeat (first | (with_reducible first | exact HB.out | apply below_alloc | apply pw_below_drewN | apply below_drew1) | exact HB.out)) hb); clear HB; have HB := n0_; clear n0_; (try clear hb); (try clear hb2); (try clear hk); (try clear hi)) | ((with_reducible refine gate_callee (f := 21) rfl ?_); refine goesL_ (some 22) rfl rfl Try.func21 (by kernel_rfl) rfl #[.int .i64 a0, .int .i64 a1, .int .i64 a2] rfl (by (try simp only [List.map_toArray, List.map_cons, List.map_nil]); first | done | rfl | (simp only [List.length_drop, List.length_take]; rfl)) ?_; (with_reducible refine (arrearsref3_Level.calls k a0 a1 a2 t124 t125 _ A5.out).mono ?_); rintro e w' ⟨rfl, ⟨nd, rfl⟩⟩; refine ⟨_, rfl, ?_⟩))
    go_ret
    exact ⟨by first | rfl | (simp [errW_none, errW_some] <;> rfl) | (simp [*, errW_none, errW_some] <;> rfl), by repeat (first | (with_reducible first | exact HB.out | apply below_alloc | apply pw_below_drewN | apply below_drew1) | exact HB.out)⟩

/-- THE ONE PURE STATEMENT of arrearslaw3_InterestLevels: yours. -/
def arrearslaw3_InterestLevels.Pure : Prop := ∀ (a0 : Int) (a1 : Int) (a2 : Int), (Lit.int .i64 a0).wf = true → (Lit.int .i64 a1).wf = true → (Lit.int .i64 a2).wf = true → ∃ k, arrearslaw3_InterestLevels.f k a0 a1 a2 = some true
theorem arrearslaw3_InterestLevels.walk (P : arrearslaw3_InterestLevels.Pure) (a0 : Int) (a1 : Int) (a2 : Int) (w : World) (w0 : (Lit.int .i64 a0).wf = true) (w1 : (Lit.int .i64 a1).wf = true) (w2 : (Lit.int .i64 a2).wf = true) :
    Calls Try.prog 9 #[.int .i64 a0, .int .i64 a1, .int .i64 a2] w fun e w' => e = .returned (.bool true) ∧ Below w.heap.size w w' := by
  obtain ⟨k, h⟩ := P a0 a1 a2 w0 w1 w2
  refine (arrearslaw3_InterestLevels.calls k a0 a1 a2 true w h).mono ?_
  rintro e w' ⟨rfl, hd⟩
  exact ⟨rfl, hd⟩

/-! ### arrearslaw3_lending: function 22 -/
def arrearslaw3_lending.f (a0 : Int) (a1 : Int) (a2 : Int) : Option (Bool) := if a0 ≥ 1 then (if a0 ≤ 10000000000000 then (if a1 ≥ 0 then (if a1 ≤ 100000 then (if a2 ≥ 1 then (some (decide (a2 ≤ 120))) else (some false)) else (some false)) else (some false)) else (some false)) else (some false)
set_option maxHeartbeats 8000000 in
set_option maxRecDepth 100000 in
theorem arrearslaw3_lending.calls (a0 : Int) (a1 : Int) (a2 : Int) (r : Bool) (w : World) (h : arrearslaw3_lending.f a0 a1 a2 = some r) :
    Calls Try.prog 22 #[.int .i64 a0, .int .i64 a1, .int .i64 a2] w fun e w' => e = .returned (.bool r) ∧ Drawn0 w w' := by
  have H : (if a0 ≥ 1 then (if a0 ≤ 10000000000000 then (if a1 ≥ 0 then (if a1 ≤ 100000 then (if a2 ≥ 1 then (some (decide (a2 ≤ 120))) else (some false)) else (some false)) else (some false)) else (some false)) else (some false)) = some r := h
  clear h
  by_cases c4 : a0 ≥ 1
  · rw [if_pos c4] at H
    have c4b0 : decide (1 ≤ a0) = true := decide_eq_true c4
    clear c4
    by_cases c5 : a0 ≤ 10000000000000
    · rw [if_pos c5] at H
      have c5b0 : decide (a0 ≤ 10000000000000) = true := decide_eq_true c5
      clear c5
      by_cases c6 : a1 ≥ 0
      · rw [if_pos c6] at H
        have c6b0 : decide (0 ≤ a1) = true := decide_eq_true c6
        clear c6
        by_cases c7 : a1 ≤ 100000
        · rw [if_pos c7] at H
          have c7b0 : decide (a1 ≤ 100000) = true := decide_eq_true c7
          clear c7
          by_cases c8 : a2 ≥ 1
          · rw [if_pos c8] at H
            have c8b0 : decide (1 ≤ a2) = true := decide_eq_true c8
            clear c8
            obtain rfl := Option.some.inj H
            go_enter Try.func22, Try.ntmps22
            go_wp2
            go_ret
            exact ⟨by first | rfl | (simp; done) | (simp [*]; done), by repeat (first | exact Drawn0.refl _ | apply Drawn0.step)⟩
          · rw [if_neg c8] at H
            have c8b0 : decide (1 ≤ a2) = false := decide_eq_false c8
            clear c8
            obtain rfl := Option.some.inj H
            go_enter Try.func22, Try.ntmps22
            go_wp2
            go_ret
            exact ⟨by first | rfl | (simp; done) | (simp [*]; done), by repeat (first | exact Drawn0.refl _ | apply Drawn0.step)⟩
        · rw [if_neg c7] at H
          have c7b0 : decide (a1 ≤ 100000) = false := decide_eq_false c7
          clear c7
          obtain rfl := Option.some.inj H
          go_enter Try.func22, Try.ntmps22
          go_wp2
          go_ret
          exact ⟨by first | rfl | (simp; done) | (simp [*]; done), by repeat (first | exact Drawn0.refl _ | apply Drawn0.step)⟩
      · rw [if_neg c6] at H
        have c6b0 : decide (0 ≤ a1) = false := decide_eq_false c6
        clear c6
        obtain rfl := Option.some.inj H
        go_enter Try.func22, Try.ntmps22
        go_wp2
        go_ret
        exact ⟨by first | rfl | (simp; done) | (simp [*]; done), by repeat (first | exact Drawn0.refl _ | apply Drawn0.step)⟩
    · rw [if_neg c5] at H
      have c5b0 : decide (a0 ≤ 10000000000000) = false := decide_eq_false c5
      clear c5
      obtain rfl := Option.some.inj H
      go_enter Try.func22, Try.ntmps22
      go_wp2
      go_ret
      exact ⟨by first | rfl | (simp; done) | (simp [*]; done), by repeat (first | exact Drawn0.refl _ | apply Drawn0.step)⟩
  · rw [if_neg c4] at H
    have c4b0 : decide (1 ≤ a0) = false := decide_eq_false c4
    clear c4
    obtain rfl := Option.some.inj H
    go_enter Try.func22, Try.ntmps22
    go_wp2
    go_ret
    exact ⟨by first | rfl | (simp; done) | (simp [*]; done), by repeat (first | exact Drawn0.refl _ | apply Drawn0.step)⟩

/-! ### arrearslaw3_paysOff: function 23 -/
mutual
def arrearslaw3_paysOff.l0 : Nat → Int → Int → Int → Int → Int → Option (Bool)
  | 0, _, _, _, _, _ => none
  | k + 1, x0, x1, x2, x3, x9 => if x9 < x3 then ((interest_Month.f k x1 x2).bind fun bt126 => (if bt126.2 = true then (arrearslaw3_paysOff.j1 k x0 x1 x2 x3 x9 bt126.1 (decide (x0 ≤ bt126.1))) else (arrearslaw3_paysOff.j1 k x0 x1 x2 x3 x9 bt126.1 true))) else (some false)
def arrearslaw3_paysOff.j1 : Nat → Int → Int → Int → Int → Int → Int → Bool → Option (Bool)
  | 0, _, _, _, _, _, _, _ => none
  | k + 1, x0, x1, x2, x3, x9, x10, x29 => if x29 = true then (some false) else (if x1 ≤ (wrap64 (x0 - x10)) then (some true) else (arrearslaw3_paysOff.l0 k x0 (wrap64 (x1 - (wrap64 (x0 - x10)))) x2 x3 (wrap64 (x9 + 1))))
end
def arrearslaw3_paysOff.f (k : Nat) (a0 : Int) (a1 : Int) (a2 : Int) (a3 : Int) : Option (Bool) := arrearslaw3_paysOff.l0 k a0 a1 a2 a3 0
theorem arrearslaw3_paysOff.mono_l : ∀ k, (∀ y0 y1 y2 y3 y4, LeO (arrearslaw3_paysOff.l0 k y0 y1 y2 y3 y4) (arrearslaw3_paysOff.l0 (k + 1) y0 y1 y2 y3 y4)) ∧ (∀ y0 y1 y2 y3 y4 y5 y6, LeO (arrearslaw3_paysOff.j1 k y0 y1 y2 y3 y4 y5 y6) (arrearslaw3_paysOff.j1 (k + 1) y0 y1 y2 y3 y4 y5 y6))
  | 0 => ⟨fun _ _ _ _ _ r h => by simp [arrearslaw3_paysOff.l0] at h, fun _ _ _ _ _ _ _ r h => by simp [arrearslaw3_paysOff.j1] at h⟩
  | k + 1 => by
    obtain ⟨ih0, ih1⟩ := arrearslaw3_paysOff.mono_l k
    refine ⟨?_, ?_⟩
    · intro y0 y1 y2 y3 y4
      unfold arrearslaw3_paysOff.l0
      repeat' first
      | (with_reducible exact ih0 _ _ _ _ _)
      | (with_reducible exact ih1 _ _ _ _ _ _ _)
      | (with_reducible exact interest_Month.mono _ _ _)
      | (with_reducible exact LeO.refl _)
      | (with_reducible exact LeO.none _)
      | (with_reducible refine LeO.ite ?_ ?_)
      | (with_reducible refine LeO.bind ?_ (fun _ => ?_))
      | exact ih0 _ _ _ _ _
      | exact ih1 _ _ _ _ _ _ _
      | exact interest_Month.mono _ _ _
      | exact LeO.none _
      | refine LeO.ite ?_ ?_
      | refine LeO.bind ?_ (fun _ => ?_)
    · intro y0 y1 y2 y3 y4 y5 y6
      unfold arrearslaw3_paysOff.j1
      repeat' first
      | (with_reducible exact ih0 _ _ _ _ _)
      | (with_reducible exact ih1 _ _ _ _ _ _ _)
      | (with_reducible exact interest_Month.mono _ _ _)
      | (with_reducible exact LeO.refl _)
      | (with_reducible exact LeO.none _)
      | (with_reducible refine LeO.ite ?_ ?_)
      | (with_reducible refine LeO.bind ?_ (fun _ => ?_))
      | exact ih0 _ _ _ _ _
      | exact ih1 _ _ _ _ _ _ _
      | exact interest_Month.mono _ _ _
      | exact LeO.none _
      | refine LeO.ite ?_ ?_
      | refine LeO.bind ?_ (fun _ => ?_)
theorem arrearslaw3_paysOff.mono : ∀ a0 a1 a2 a3 k, LeO (arrearslaw3_paysOff.f k a0 a1 a2 a3) (arrearslaw3_paysOff.f (k + 1) a0 a1 a2 a3) := by
  intro a0 a1 a2 a3 k
  obtain ⟨ih0, ih1⟩ := arrearslaw3_paysOff.mono_l k
  unfold arrearslaw3_paysOff.f
  repeat' first
      | (with_reducible exact ih0 _ _ _ _ _)
      | (with_reducible exact ih1 _ _ _ _ _ _ _)
      | (with_reducible exact interest_Month.mono _ _ _)
      | (with_reducible exact LeO.refl _)
      | (with_reducible exact LeO.none _)
      | (with_reducible refine LeO.ite ?_ ?_)
      | (with_reducible refine LeO.bind ?_ (fun _ => ?_))
      | exact ih0 _ _ _ _ _
      | exact ih1 _ _ _ _ _ _ _
      | exact interest_Month.mono _ _ _
      | exact LeO.none _
      | refine LeO.ite ?_ ?_
      | refine LeO.bind ?_ (fun _ => ?_)
set_option maxHeartbeats 8000000 in
set_option maxRecDepth 100000 in
theorem arrearslaw3_paysOff.calls (k : Nat) (a0 : Int) (a1 : Int) (a2 : Int) (a3 : Int) (r : Bool) (w : World) (h : arrearslaw3_paysOff.f k a0 a1 a2 a3 = some r) :
    Calls Try.prog 23 #[.int .i64 a0, .int .i64 a1, .int .i64 a2, .int .i64 a3] w fun e w' => e = .returned (.bool r) ∧ Drawn0 w w' := by
  have H : (arrearslaw3_paysOff.l0 k a0 a1 a2 a3 0) = some r := h
  clear h
  have H' := Aside0.mk H
  clear H
  go_enter Try.func23, Try.ntmps23
  go_wp2
  go_loopg [1, 9] k (fun kq v1 v9 w' => ∃ (x1_1 : Int) (x9_1 : Int), v1 = .int .i64 x1_1 ∧ v9 = .int .i64 x9_1 ∧ Aside0 (arrearslaw3_paysOff.l0 kq a0 x1_1 a2 a3 x9_1 = some r) ∧ Aside0 (kq ≤ k) ∧ Drawn0 w w')
  case atStart => exact ⟨(a1), (0), (by first | rfl | (simp; done) | (simp [*]; done)), (by first | rfl | (simp; done) | (simp [*]; done)), H', ⟨Nat.le_refl _⟩, by repeat (first | exact Drawn0.refl _ | apply Drawn0.step)⟩
  case round =>
    clear H'
    try clear c2
    try clear p2
    obtain ⟨x1_1, x9_1, rfl, rfl, HA, HK1, ⟨m1, rfl⟩⟩ := hrel
    cases gk with
    | zero => exact absurd HA.out (by simp [arrearslaw3_paysOff.l0])
    | succ k1 =>
      have H := HA.out
      clear HA
      simp only [arrearslaw3_paysOff.l0] at H
      by_cases c5 : x9_1 < a3
      · rw [if_pos c5] at H
        have c5b0 : decide (x9_1 < a3) = true := decide_eq_true c5
        clear c5
        replace H := Option.bind_eq_some_iff.mp H
        obtain ⟨⟨t126, t127⟩, A60, H⟩ := H
        replace H : (if t127 = true then (arrearslaw3_paysOff.j1 k1 a0 x1_1 a2 a3 x9_1 t126 (decide (a0 ≤ t126))) else (arrearslaw3_paysOff.j1 k1 a0 x1_1 a2 a3 x9_1 t126 true)) = some r := H
        have A6 := Aside0.mk A60
        clear A60
        have HC7 := Aside0.mk H
        clear H
        go_upto_region 5 with (first | ((with_reducible refine gate_callee (f := 12) rfl ?_); refine goesL_ (some 20) rfl rfl Try.func12 (by kernel_rfl) rfl #[.int .i64 x1_1, .int .i64 a2] rfl (by (try simp only [List.map_toArray, List.map_cons, List.map_nil]); first | done | rfl | (simp only [List.length_drop, List.length_take]; rfl)) ?_; (with_reducible refine (interest_Month.calls k1 x1_1 a2 t126 t127 _ A6.out).mono ?_); rintro e w' ⟨rfl, ⟨nd, rfl⟩⟩; refine ⟨_, rfl, ?_⟩))
        (try simp only [Act.put, List.setIfInBounds_toArray, List.set_cons_zero, List.set_cons_succ])
        go_cut [29] (fun v29 wc => ∃ (kq : Nat) (x29_6 : Bool), v29 = .bool x29_6 ∧ Aside0 (arrearslaw3_paysOff.j1 kq a0 x1_1 a2 a3 x9_1 t126 x29_6 = some r) ∧ Aside0 (kq ≤ k1) ∧ Drawn0 w wc)
        case first =>
          have H := HC7.out
          clear HC7
          by_cases c8 : t127 = true
          · subst c8
            have H1 : (arrearslaw3_paysOff.j1 k1 a0 x1_1 a2 a3 x9_1 t126 (decide (a0 ≤ t126))) = some r := by rw [if_pos rfl] at H; exact H
            clear H
            have H := H1
            clear H1
            have H' := Aside0.mk H
            clear H
            go_wp2
            go_meet
            case rel => exact ⟨_, (decide (a0 ≤ t126)), (by first | rfl | (simp; done) | (simp [*]; done)), H', ⟨by have := HK1.out; first | omega | exact Nat.le_refl _⟩, by repeat (first | exact Drawn0.refl _ | apply Drawn0.step)⟩
          · replace c8 := Bool.eq_false_iff.mpr c8
            subst c8
            have H1 : (arrearslaw3_paysOff.j1 k1 a0 x1_1 a2 a3 x9_1 t126 true) = some r := by rw [if_neg (show ¬ (false = true) by decide)] at H; exact H
            clear H
            have H := H1
            clear H1
            have H' := Aside0.mk H
            clear H
            go_wp2
            go_meet
            case rel => exact ⟨_, (true), (by first | rfl | (simp; done) | (simp [*]; done)), H', ⟨by have := HK1.out; first | omega | exact Nat.le_refl _⟩, by repeat (first | exact Drawn0.refl _ | apply Drawn0.step)⟩
        case rest =>
          clear HC7
          try clear c1
          try clear c2
          try clear p2
          try clear c5
          try clear c5b0
          try clear c8
          try clear p2
          obtain ⟨kq, x29_6, rfl, HA, HJ6, ⟨mc6, rfl⟩⟩ := hcut
          cases kq with
          | zero => exact absurd HA.out (by simp [arrearslaw3_paysOff.j1])
          | succ kj6 =>
            have H := HA.out
            clear HA
            simp only [arrearslaw3_paysOff.j1] at H
            by_cases c9 : x29_6 = true
            · subst c9
              have H1 : (some false) = some r := by rw [if_pos rfl] at H; exact H
              clear H
              have H := H1
              clear H1
              obtain rfl := Option.some.inj H
              go_wp2
              go_ret
              exact ⟨by first | rfl | (simp; done) | (simp [*]; done), by repeat (first | exact Drawn0.refl _ | apply Drawn0.step)⟩
            · replace c9 := Bool.eq_false_iff.mpr c9
              subst c9
              have H1 : (if x1_1 ≤ (wrap64 (a0 - t126)) then (some true) else (arrearslaw3_paysOff.l0 kj6 a0 (wrap64 (x1_1 - (wrap64 (a0 - t126)))) a2 a3 (wrap64 (x9_1 + 1)))) = some r := by rw [if_neg (show ¬ (false = true) by decide)] at H; exact H
              clear H
              have H := H1
              clear H1
              by_cases c10 : x1_1 ≤ (wrap64 (a0 - t126))
              · rw [if_pos c10] at H
                have c10b0 : decide (x1_1 ≤ (wrap64 (a0 - t126))) = true := decide_eq_true c10
                clear c10
                obtain rfl := Option.some.inj H
                go_wp2
                go_ret
                exact ⟨by first | rfl | (simp; done) | (simp [*]; done), by repeat (first | exact Drawn0.refl _ | apply Drawn0.step)⟩
              · rw [if_neg c10] at H
                have c10b0 : decide (x1_1 ≤ (wrap64 (a0 - t126))) = false := decide_eq_false c10
                clear c10
                have H' := Aside0.mk H
                clear H
                go_wp2
                go_roundg kj6
                case measure => have := HK1.out; have := HJ6.out; omega
                case rel => exact ⟨(wrap64 (x1_1 - (wrap64 (a0 - t126)))), (wrap64 (x9_1 + 1)), (by first | rfl | (simp; done) | (simp [*]; done)), (by first | rfl | (simp; done) | (simp [*]; done)), H', ⟨by have := HK1.out; have := HJ6.out; omega⟩, by repeat (first | exact Drawn0.refl _ | apply Drawn0.step)⟩
      · rw [if_neg c5] at H
        have c5b0 : decide (x9_1 < a3) = false := decide_eq_false c5
        clear c5
        obtain rfl := Option.some.inj H
        go_wp2
        go_ret
        exact ⟨by first | rfl | (simp; done) | (simp [*]; done), by repeat (first | exact Drawn0.refl _ | apply Drawn0.step)⟩

end Go.Proofs.Ytcaeaklbglhghaa.PL
