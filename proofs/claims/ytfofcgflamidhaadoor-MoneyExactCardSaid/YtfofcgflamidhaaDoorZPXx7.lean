-- Laid by wip/myprint.py, a driver over the kit's print, for this claim: a lemma's text, not read by a person.
import Derived.Test.YtfofcgflamidhaaDoorZPXx0
namespace Go.Proofs.YtfofcgflamidhaaDoor.PX
open Go.RowKit Go.Proofs.YtfofcgflamidhaaDoorW.PrintWords Go.Proofs.YtfofcgflamidhaaDoorW.PrintLast Go.Proofs.YtfofcgflamidhaaDoorW.PrintMore
attribute [local go_sem] max2_int min2_int max_two min_two max_three min_three max_four min_four   -- for this text's walks alone
set_option linter.unusedVariables false
set_option linter.unusedSimpArgs false

attribute [local go_sem] run_ad64
/-! ### money_Sum_int64: function 38 -/
def money_Sum_int64.l0 : Nat → Int → Int → List Int → Int → Int → Option (Int × Bool)
  | 0, _, _, _, _, _ => none
  | k + 1, x4, x5, x9, x10, x11 => if x11 < x10 then (if 0 ≤ x11 then (if x11 < (x9.length : Int) then (if (rd x9 x11) < 0 then (money_Sum_int64.l0 k (IntKind.u64.wrap ((IntKind.u64.wrap (x4 + (ad64c x5 (IntKind.u64.wrap (rd x9 x11))))) - 1)) (ad64s x5 (IntKind.u64.wrap (rd x9 x11))) x9 x10 (wrap64 (x11 + 1))) else (money_Sum_int64.l0 k (IntKind.u64.wrap (x4 + (ad64c x5 (IntKind.u64.wrap (rd x9 x11))))) (ad64s x5 (IntKind.u64.wrap (rd x9 x11))) x9 x10 (wrap64 (x11 + 1)))) else (none)) else (none)) else (if x4 = 0 then (if x5 ≤ 9223372036854775807 then (some (wrap64 (x5), true)) else (if x4 = 18446744073709551615 then (if x5 ≥ 9223372036854775808 then (some (wrap64 (x5), true)) else (some (0, false))) else (some (0, false)))) else (if x4 = 18446744073709551615 then (if x5 ≥ 9223372036854775808 then (some (wrap64 (x5), true)) else (some (0, false))) else (some (0, false))))
def money_Sum_int64.f (k : Nat) (l0 : List Int) : Option (Int × Bool) := money_Sum_int64.l0 k 0 0 l0 (l0.length : Int) 0
theorem money_Sum_int64.mono_l : ∀ k, (∀ y0 y1 y2 y3 y4, LeO (money_Sum_int64.l0 k y0 y1 y2 y3 y4) (money_Sum_int64.l0 (k + 1) y0 y1 y2 y3 y4))
  | 0 => fun _ _ _ _ _ r h => by simp [money_Sum_int64.l0] at h
  | k + 1 => by
    have ih0 := money_Sum_int64.mono_l k
    · intro y0 y1 y2 y3 y4
      unfold money_Sum_int64.l0
      repeat' first
      | (with_reducible exact ih0 _ _ _ _ _)
      | (with_reducible exact LeO.refl _)
      | (with_reducible exact LeO.none _)
      | (with_reducible refine LeO.ite ?_ ?_)
      | (with_reducible refine LeO.bind ?_ (fun _ => ?_))
      | exact ih0 _ _ _ _ _
      | exact LeO.none _
      | refine LeO.ite ?_ ?_
      | refine LeO.bind ?_ (fun _ => ?_)
theorem money_Sum_int64.mono : ∀ a0 k, LeO (money_Sum_int64.f k a0) (money_Sum_int64.f (k + 1) a0) := by
  intro a0 k
  have ih0 := money_Sum_int64.mono_l k
  unfold money_Sum_int64.f
  repeat' first
      | (with_reducible exact ih0 _ _ _ _ _)
      | (with_reducible exact LeO.refl _)
      | (with_reducible exact LeO.none _)
      | (with_reducible refine LeO.ite ?_ ?_)
      | (with_reducible refine LeO.bind ?_ (fun _ => ?_))
      | exact ih0 _ _ _ _ _
      | exact LeO.none _
      | refine LeO.ite ?_ ?_
      | refine LeO.bind ?_ (fun _ => ?_)
set_option maxHeartbeats 8000000 in
set_option maxRecDepth 100000 in
theorem money_Sum_int64.calls (k : Nat) (A0 : Option Addr) (c0 : Nat) (l0 : List Int) (r1 : Int) (r2 : Bool) (w : World) (hr0 : Kd.C (Kd.int .i64) w A0 l0.length l0) (hc0 : l0.length ≤ c0) (h : money_Sum_int64.f k l0 = some (r1, r2)) :
    Calls Tryd.prog 38 #[.slice A0 l0.length c0] w fun e w' => e = .returned (.tuple #[.int .i64 r1, .bool r2]) ∧ Drawn0 w w' := by
  have HR0 := Aside0.mk hr0
  have HC0 := Aside0.mk hc0
  clear hr0 hc0
  have H : (money_Sum_int64.l0 k 0 0 l0 (l0.length : Int) 0) = some (r1, r2) := h
  clear h
  have H' := Aside0.mk H
  clear H
  go_enter Tryd.func38, Tryd.ntmps38
  go_wp2
  go_loopg [4, 5, 11] k (fun kq v4 v5 v11 w' => ∃ (x4_1 : Int) (x5_1 : Int) (x11_1 : Int), v4 = .int .u64 x4_1 ∧ v5 = .int .u64 x5_1 ∧ v11 = .int .i64 x11_1 ∧ Aside0 (money_Sum_int64.l0 kq x4_1 x5_1 l0 (l0.length : Int) x11_1 = some (r1, r2)) ∧ Aside0 (kq ≤ k) ∧ Drawn0 w w')
  case atStart => exact ⟨(0), (0), (0), (by first | rfl | (simp; done) | (simp [*]; done)), (by first | rfl | (simp; done) | (simp [*]; done)), (by first | rfl | (simp; done) | (simp [*]; done)), H', ⟨Nat.le_refl _⟩, by repeat (first | exact Drawn0.refl _ | apply Drawn0.step)⟩
  case round =>
    clear H'
    obtain ⟨x4_1, x5_1, x11_1, rfl, rfl, rfl, HA, HK1, ⟨m1, rfl⟩⟩ := hrel
    cases gk with
    | zero => exact absurd HA.out (by simp [money_Sum_int64.l0])
    | succ k1 =>
      have H := HA.out
      clear HA
      simp only [money_Sum_int64.l0] at H
      by_cases c2 : x11_1 < (l0.length : Int)
      · rw [if_pos c2] at H
        have c2b0 : decide (x11_1 < (l0.length : Int)) = true := decide_eq_true c2
        clear c2
        by_cases c3 : 0 ≤ x11_1
        · rw [if_pos c3] at H
          have c3b0 : decide (0 ≤ x11_1) = true := decide_eq_true c3
          clear c3
          by_cases c4 : x11_1 < (l0.length : Int)
          · rw [if_pos c4] at H
            have c4b0 : decide (x11_1 < (l0.length : Int)) = true := decide_eq_true c4
            clear c4
            by_cases c5 : (rd l0 x11_1) < 0
            · rw [if_pos c5] at H
              have c5b0 : decide ((rd l0 x11_1) < 0) = true := decide_eq_true c5
              clear c5
              have H' := Aside0.mk H
              clear H
              have p271 : 0 ≤ (x11_1 : Int) := of_decide_eq_true (by first | (with_reducible assumption) | assumption)
              have q271 : x11_1 < (l0.length : Int) := of_decide_eq_true (by first | (with_reducible assumption) | assumption)
              obtain ⟨ad271, e271, hx271_0⟩ := Kd.at_int HR0.out x11_1 p271 q271
              cases e271
              replace p271 := eq_true p271
              replace q271 := eq_true q271
              go_wp2
              go_roundg k1
              case measure => have := HK1.out; omega
              case rel => exact ⟨(IntKind.u64.wrap ((IntKind.u64.wrap (x4_1 + (ad64c x5_1 (IntKind.u64.wrap (rd l0 x11_1))))) - 1)), (ad64s x5_1 (IntKind.u64.wrap (rd l0 x11_1))), (wrap64 (x11_1 + 1)), (by first | rfl | (simp; done) | (simp [*]; done)), (by first | rfl | (simp; done) | (simp [*]; done)), (by first | rfl | (simp; done) | (simp [*]; done)), H', ⟨by have := HK1.out; omega⟩, by repeat (first | exact Drawn0.refl _ | apply Drawn0.step)⟩
            · rw [if_neg c5] at H
              have c5b0 : decide ((rd l0 x11_1) < 0) = false := decide_eq_false c5
              clear c5
              have H' := Aside0.mk H
              clear H
              have p271 : 0 ≤ (x11_1 : Int) := of_decide_eq_true (by first | (with_reducible assumption) | assumption)
              have q271 : x11_1 < (l0.length : Int) := of_decide_eq_true (by first | (with_reducible assumption) | assumption)
              obtain ⟨ad271, e271, hx271_0⟩ := Kd.at_int HR0.out x11_1 p271 q271
              cases e271
              replace p271 := eq_true p271
              replace q271 := eq_true q271
              go_wp2
              go_roundg k1
              case measure => have := HK1.out; omega
              case rel => exact ⟨(IntKind.u64.wrap (x4_1 + (ad64c x5_1 (IntKind.u64.wrap (rd l0 x11_1))))), (ad64s x5_1 (IntKind.u64.wrap (rd l0 x11_1))), (wrap64 (x11_1 + 1)), (by first | rfl | (simp; done) | (simp [*]; done)), (by first | rfl | (simp; done) | (simp [*]; done)), (by first | rfl | (simp; done) | (simp [*]; done)), H', ⟨by have := HK1.out; omega⟩, by repeat (first | exact Drawn0.refl _ | apply Drawn0.step)⟩
          · rw [if_neg c4] at H
            exact absurd H (by simp)
        · rw [if_neg c3] at H
          exact absurd H (by simp)
      · rw [if_neg c2] at H
        have c2b0 : decide (x11_1 < (l0.length : Int)) = false := decide_eq_false c2
        clear c2
        by_cases c6 : x4_1 = 0
        · rw [if_pos c6] at H
          have c6b0 : (x4_1 == 0) = true := beq_iff_eq.mpr c6
          have c6b1 : (x4_1 != 0) = false := bne_eq_false_iff_eq.mpr c6
          clear c6
          by_cases c7 : x5_1 ≤ 9223372036854775807
          · rw [if_pos c7] at H
            have c7b0 : decide (x5_1 ≤ 9223372036854775807) = true := decide_eq_true c7
            clear c7
            simp only [Option.some.injEq, Prod.mk.injEq] at H
            obtain ⟨rfl, rfl⟩ := H
            go_wp2
            go_ret2
            exact ⟨by first | rfl | (simp; done) | (simp [*]; done), by repeat (first | exact Drawn0.refl _ | apply Drawn0.step)⟩
          · rw [if_neg c7] at H
            have c7b0 : decide (x5_1 ≤ 9223372036854775807) = false := decide_eq_false c7
            clear c7
            by_cases c8 : x4_1 = 18446744073709551615
            · rw [if_pos c8] at H
              have c8b0 : (x4_1 == 18446744073709551615) = true := beq_iff_eq.mpr c8
              have c8b1 : (x4_1 != 18446744073709551615) = false := bne_eq_false_iff_eq.mpr c8
              clear c8
              by_cases c9 : x5_1 ≥ 9223372036854775808
              · rw [if_pos c9] at H
                have c9b0 : decide (9223372036854775808 ≤ x5_1) = true := decide_eq_true c9
                clear c9
                simp only [Option.some.injEq, Prod.mk.injEq] at H
                obtain ⟨rfl, rfl⟩ := H
                go_wp2
                go_ret2
                exact ⟨by first | rfl | (simp; done) | (simp [*]; done), by repeat (first | exact Drawn0.refl _ | apply Drawn0.step)⟩
              · rw [if_neg c9] at H
                have c9b0 : decide (9223372036854775808 ≤ x5_1) = false := decide_eq_false c9
                clear c9
                simp only [Option.some.injEq, Prod.mk.injEq] at H
                obtain ⟨rfl, rfl⟩ := H
                go_wp2
                go_ret2
                exact ⟨by first | rfl | (simp; done) | (simp [*]; done), by repeat (first | exact Drawn0.refl _ | apply Drawn0.step)⟩
            · rw [if_neg c8] at H
              have c8b0 : (x4_1 == 18446744073709551615) = false := beq_eq_false_iff_ne.mpr c8
              have c8b1 : (x4_1 != 18446744073709551615) = true := bne_iff_ne.mpr c8
              simp only [Option.some.injEq, Prod.mk.injEq] at H
              obtain ⟨rfl, rfl⟩ := H
              go_wp2
              go_ret2
              exact ⟨by first | rfl | (simp; done) | (simp [*]; done), by repeat (first | exact Drawn0.refl _ | apply Drawn0.step)⟩
        · rw [if_neg c6] at H
          have c6b0 : (x4_1 == 0) = false := beq_eq_false_iff_ne.mpr c6
          have c6b1 : (x4_1 != 0) = true := bne_iff_ne.mpr c6
          by_cases c10 : x4_1 = 18446744073709551615
          · rw [if_pos c10] at H
            have c10b0 : (x4_1 == 18446744073709551615) = true := beq_iff_eq.mpr c10
            have c10b1 : (x4_1 != 18446744073709551615) = false := bne_eq_false_iff_eq.mpr c10
            clear c10
            by_cases c11 : x5_1 ≥ 9223372036854775808
            · rw [if_pos c11] at H
              have c11b0 : decide (9223372036854775808 ≤ x5_1) = true := decide_eq_true c11
              clear c11
              simp only [Option.some.injEq, Prod.mk.injEq] at H
              obtain ⟨rfl, rfl⟩ := H
              go_wp2
              go_ret2
              exact ⟨by first | rfl | (simp; done) | (simp [*]; done), by repeat (first | exact Drawn0.refl _ | apply Drawn0.step)⟩
            · rw [if_neg c11] at H
              have c11b0 : decide (9223372036854775808 ≤ x5_1) = false := decide_eq_false c11
              clear c11
              simp only [Option.some.injEq, Prod.mk.injEq] at H
              obtain ⟨rfl, rfl⟩ := H
              go_wp2
              go_ret2
              exact ⟨by first | rfl | (simp; done) | (simp [*]; done), by repeat (first | exact Drawn0.refl _ | apply Drawn0.step)⟩
          · rw [if_neg c10] at H
            have c10b0 : (x4_1 == 18446744073709551615) = false := beq_eq_false_iff_ne.mpr c10
            have c10b1 : (x4_1 != 18446744073709551615) = true := bne_iff_ne.mpr c10
            simp only [Option.some.injEq, Prod.mk.injEq] at H
            obtain ⟨rfl, rfl⟩ := H
            go_wp2
            go_ret2
            exact ⟨by first | rfl | (simp; done) | (simp [*]; done), by repeat (first | exact Drawn0.refl _ | apply Drawn0.step)⟩

/-! ### arrearslaw1_Cents_39: function 39 -/
def arrearslaw1_Cents_39.l0 : Nat → Int → Int → List Int → Int → Int → Option (Int × Bool)
  | 0, _, _, _, _, _ => none
  | k + 1, x4, x5, x9, x10, x11 => if x11 < x10 then (if 0 ≤ x11 then (if x11 < (x9.length : Int) then (if (rd x9 x11) < 0 then (arrearslaw1_Cents_39.l0 k (IntKind.u64.wrap ((IntKind.u64.wrap (x4 + (ad64c x5 (IntKind.u64.wrap (rd x9 x11))))) - 1)) (ad64s x5 (IntKind.u64.wrap (rd x9 x11))) x9 x10 (wrap64 (x11 + 1))) else (arrearslaw1_Cents_39.l0 k (IntKind.u64.wrap (x4 + (ad64c x5 (IntKind.u64.wrap (rd x9 x11))))) (ad64s x5 (IntKind.u64.wrap (rd x9 x11))) x9 x10 (wrap64 (x11 + 1)))) else (none)) else (none)) else (if x4 = 0 then (if x5 ≤ 9223372036854775807 then (some (wrap64 (x5), true)) else (if x4 = 18446744073709551615 then (if x5 ≥ 9223372036854775808 then (some (wrap64 (x5), true)) else (some (0, false))) else (some (0, false)))) else (if x4 = 18446744073709551615 then (if x5 ≥ 9223372036854775808 then (some (wrap64 (x5), true)) else (some (0, false))) else (some (0, false))))
def arrearslaw1_Cents_39.f (k : Nat) (l0 : List Int) : Option (Int × Bool) := arrearslaw1_Cents_39.l0 k 0 0 l0 (l0.length : Int) 0
theorem arrearslaw1_Cents_39.mono_l : ∀ k, (∀ y0 y1 y2 y3 y4, LeO (arrearslaw1_Cents_39.l0 k y0 y1 y2 y3 y4) (arrearslaw1_Cents_39.l0 (k + 1) y0 y1 y2 y3 y4))
  | 0 => fun _ _ _ _ _ r h => by simp [arrearslaw1_Cents_39.l0] at h
  | k + 1 => by
    have ih0 := arrearslaw1_Cents_39.mono_l k
    · intro y0 y1 y2 y3 y4
      unfold arrearslaw1_Cents_39.l0
      repeat' first
      | (with_reducible exact ih0 _ _ _ _ _)
      | (with_reducible exact LeO.refl _)
      | (with_reducible exact LeO.none _)
      | (with_reducible refine LeO.ite ?_ ?_)
      | (with_reducible refine LeO.bind ?_ (fun _ => ?_))
      | exact ih0 _ _ _ _ _
      | exact LeO.none _
      | refine LeO.ite ?_ ?_
      | refine LeO.bind ?_ (fun _ => ?_)
theorem arrearslaw1_Cents_39.mono : ∀ a0 k, LeO (arrearslaw1_Cents_39.f k a0) (arrearslaw1_Cents_39.f (k + 1) a0) := by
  intro a0 k
  have ih0 := arrearslaw1_Cents_39.mono_l k
  unfold arrearslaw1_Cents_39.f
  repeat' first
      | (with_reducible exact ih0 _ _ _ _ _)
      | (with_reducible exact LeO.refl _)
      | (with_reducible exact LeO.none _)
      | (with_reducible refine LeO.ite ?_ ?_)
      | (with_reducible refine LeO.bind ?_ (fun _ => ?_))
      | exact ih0 _ _ _ _ _
      | exact LeO.none _
      | refine LeO.ite ?_ ?_
      | refine LeO.bind ?_ (fun _ => ?_)
set_option maxHeartbeats 8000000 in
set_option maxRecDepth 100000 in
theorem arrearslaw1_Cents_39.calls (k : Nat) (A0 : Option Addr) (c0 : Nat) (l0 : List Int) (r1 : Int) (r2 : Bool) (w : World) (hr0 : Kd.C (Kd.int .i64) w A0 l0.length l0) (hc0 : l0.length ≤ c0) (h : arrearslaw1_Cents_39.f k l0 = some (r1, r2)) :
    Calls Tryd.prog 39 #[.slice A0 l0.length c0] w fun e w' => e = .returned (.tuple #[.int .i64 r1, .bool r2]) ∧ Drawn0 w w' := by
  have HR0 := Aside0.mk hr0
  have HC0 := Aside0.mk hc0
  clear hr0 hc0
  have H : (arrearslaw1_Cents_39.l0 k 0 0 l0 (l0.length : Int) 0) = some (r1, r2) := h
  clear h
  have H' := Aside0.mk H
  clear H
  go_enter Tryd.func39, Tryd.ntmps39
  go_wp2
  go_loopg [4, 5, 11] k (fun kq v4 v5 v11 w' => ∃ (x4_1 : Int) (x5_1 : Int) (x11_1 : Int), v4 = .int .u64 x4_1 ∧ v5 = .int .u64 x5_1 ∧ v11 = .int .i64 x11_1 ∧ Aside0 (arrearslaw1_Cents_39.l0 kq x4_1 x5_1 l0 (l0.length : Int) x11_1 = some (r1, r2)) ∧ Aside0 (kq ≤ k) ∧ Drawn0 w w')
  case atStart => exact ⟨(0), (0), (0), (by first | rfl | (simp; done) | (simp [*]; done)), (by first | rfl | (simp; done) | (simp [*]; done)), (by first | rfl | (simp; done) | (simp [*]; done)), H', ⟨Nat.le_refl _⟩, by repeat (first | exact Drawn0.refl _ | apply Drawn0.step)⟩
  case round =>
    clear H'
    obtain ⟨x4_1, x5_1, x11_1, rfl, rfl, rfl, HA, HK1, ⟨m1, rfl⟩⟩ := hrel
    cases gk with
    | zero => exact absurd HA.out (by simp [arrearslaw1_Cents_39.l0])
    | succ k1 =>
      have H := HA.out
      clear HA
      simp only [arrearslaw1_Cents_39.l0] at H
      by_cases c2 : x11_1 < (l0.length : Int)
      · rw [if_pos c2] at H
        have c2b0 : decide (x11_1 < (l0.length : Int)) = true := decide_eq_true c2
        clear c2
        by_cases c3 : 0 ≤ x11_1
        · rw [if_pos c3] at H
          have c3b0 : decide (0 ≤ x11_1) = true := decide_eq_true c3
          clear c3
          by_cases c4 : x11_1 < (l0.length : Int)
          · rw [if_pos c4] at H
            have c4b0 : decide (x11_1 < (l0.length : Int)) = true := decide_eq_true c4
            clear c4
            by_cases c5 : (rd l0 x11_1) < 0
            · rw [if_pos c5] at H
              have c5b0 : decide ((rd l0 x11_1) < 0) = true := decide_eq_true c5
              clear c5
              have H' := Aside0.mk H
              clear H
              have p272 : 0 ≤ (x11_1 : Int) := of_decide_eq_true (by first | (with_reducible assumption) | assumption)
              have q272 : x11_1 < (l0.length : Int) := of_decide_eq_true (by first | (with_reducible assumption) | assumption)
              obtain ⟨ad272, e272, hx272_0⟩ := Kd.at_int HR0.out x11_1 p272 q272
              cases e272
              replace p272 := eq_true p272
              replace q272 := eq_true q272
              go_wp2
              go_roundg k1
              case measure => have := HK1.out; omega
              case rel => exact ⟨(IntKind.u64.wrap ((IntKind.u64.wrap (x4_1 + (ad64c x5_1 (IntKind.u64.wrap (rd l0 x11_1))))) - 1)), (ad64s x5_1 (IntKind.u64.wrap (rd l0 x11_1))), (wrap64 (x11_1 + 1)), (by first | rfl | (simp; done) | (simp [*]; done)), (by first | rfl | (simp; done) | (simp [*]; done)), (by first | rfl | (simp; done) | (simp [*]; done)), H', ⟨by have := HK1.out; omega⟩, by repeat (first | exact Drawn0.refl _ | apply Drawn0.step)⟩
            · rw [if_neg c5] at H
              have c5b0 : decide ((rd l0 x11_1) < 0) = false := decide_eq_false c5
              clear c5
              have H' := Aside0.mk H
              clear H
              have p272 : 0 ≤ (x11_1 : Int) := of_decide_eq_true (by first | (with_reducible assumption) | assumption)
              have q272 : x11_1 < (l0.length : Int) := of_decide_eq_true (by first | (with_reducible assumption) | assumption)
              obtain ⟨ad272, e272, hx272_0⟩ := Kd.at_int HR0.out x11_1 p272 q272
              cases e272
              replace p272 := eq_true p272
              replace q272 := eq_true q272
              go_wp2
              go_roundg k1
              case measure => have := HK1.out; omega
              case rel => exact ⟨(IntKind.u64.wrap (x4_1 + (ad64c x5_1 (IntKind.u64.wrap (rd l0 x11_1))))), (ad64s x5_1 (IntKind.u64.wrap (rd l0 x11_1))), (wrap64 (x11_1 + 1)), (by first | rfl | (simp; done) | (simp [*]; done)), (by first | rfl | (simp; done) | (simp [*]; done)), (by first | rfl | (simp; done) | (simp [*]; done)), H', ⟨by have := HK1.out; omega⟩, by repeat (first | exact Drawn0.refl _ | apply Drawn0.step)⟩
          · rw [if_neg c4] at H
            exact absurd H (by simp)
        · rw [if_neg c3] at H
          exact absurd H (by simp)
      · rw [if_neg c2] at H
        have c2b0 : decide (x11_1 < (l0.length : Int)) = false := decide_eq_false c2
        clear c2
        by_cases c6 : x4_1 = 0
        · rw [if_pos c6] at H
          have c6b0 : (x4_1 == 0) = true := beq_iff_eq.mpr c6
          have c6b1 : (x4_1 != 0) = false := bne_eq_false_iff_eq.mpr c6
          clear c6
          by_cases c7 : x5_1 ≤ 9223372036854775807
          · rw [if_pos c7] at H
            have c7b0 : decide (x5_1 ≤ 9223372036854775807) = true := decide_eq_true c7
            clear c7
            simp only [Option.some.injEq, Prod.mk.injEq] at H
            obtain ⟨rfl, rfl⟩ := H
            go_wp2
            go_ret2
            exact ⟨by first | rfl | (simp; done) | (simp [*]; done), by repeat (first | exact Drawn0.refl _ | apply Drawn0.step)⟩
          · rw [if_neg c7] at H
            have c7b0 : decide (x5_1 ≤ 9223372036854775807) = false := decide_eq_false c7
            clear c7
            by_cases c8 : x4_1 = 18446744073709551615
            · rw [if_pos c8] at H
              have c8b0 : (x4_1 == 18446744073709551615) = true := beq_iff_eq.mpr c8
              have c8b1 : (x4_1 != 18446744073709551615) = false := bne_eq_false_iff_eq.mpr c8
              clear c8
              by_cases c9 : x5_1 ≥ 9223372036854775808
              · rw [if_pos c9] at H
                have c9b0 : decide (9223372036854775808 ≤ x5_1) = true := decide_eq_true c9
                clear c9
                simp only [Option.some.injEq, Prod.mk.injEq] at H
                obtain ⟨rfl, rfl⟩ := H
                go_wp2
                go_ret2
                exact ⟨by first | rfl | (simp; done) | (simp [*]; done), by repeat (first | exact Drawn0.refl _ | apply Drawn0.step)⟩
              · rw [if_neg c9] at H
                have c9b0 : decide (9223372036854775808 ≤ x5_1) = false := decide_eq_false c9
                clear c9
                simp only [Option.some.injEq, Prod.mk.injEq] at H
                obtain ⟨rfl, rfl⟩ := H
                go_wp2
                go_ret2
                exact ⟨by first | rfl | (simp; done) | (simp [*]; done), by repeat (first | exact Drawn0.refl _ | apply Drawn0.step)⟩
            · rw [if_neg c8] at H
              have c8b0 : (x4_1 == 18446744073709551615) = false := beq_eq_false_iff_ne.mpr c8
              have c8b1 : (x4_1 != 18446744073709551615) = true := bne_iff_ne.mpr c8
              simp only [Option.some.injEq, Prod.mk.injEq] at H
              obtain ⟨rfl, rfl⟩ := H
              go_wp2
              go_ret2
              exact ⟨by first | rfl | (simp; done) | (simp [*]; done), by repeat (first | exact Drawn0.refl _ | apply Drawn0.step)⟩
        · rw [if_neg c6] at H
          have c6b0 : (x4_1 == 0) = false := beq_eq_false_iff_ne.mpr c6
          have c6b1 : (x4_1 != 0) = true := bne_iff_ne.mpr c6
          by_cases c10 : x4_1 = 18446744073709551615
          · rw [if_pos c10] at H
            have c10b0 : (x4_1 == 18446744073709551615) = true := beq_iff_eq.mpr c10
            have c10b1 : (x4_1 != 18446744073709551615) = false := bne_eq_false_iff_eq.mpr c10
            clear c10
            by_cases c11 : x5_1 ≥ 9223372036854775808
            · rw [if_pos c11] at H
              have c11b0 : decide (9223372036854775808 ≤ x5_1) = true := decide_eq_true c11
              clear c11
              simp only [Option.some.injEq, Prod.mk.injEq] at H
              obtain ⟨rfl, rfl⟩ := H
              go_wp2
              go_ret2
              exact ⟨by first | rfl | (simp; done) | (simp [*]; done), by repeat (first | exact Drawn0.refl _ | apply Drawn0.step)⟩
            · rw [if_neg c11] at H
              have c11b0 : decide (9223372036854775808 ≤ x5_1) = false := decide_eq_false c11
              clear c11
              simp only [Option.some.injEq, Prod.mk.injEq] at H
              obtain ⟨rfl, rfl⟩ := H
              go_wp2
              go_ret2
              exact ⟨by first | rfl | (simp; done) | (simp [*]; done), by repeat (first | exact Drawn0.refl _ | apply Drawn0.step)⟩
          · rw [if_neg c10] at H
            have c10b0 : (x4_1 == 18446744073709551615) = false := beq_eq_false_iff_ne.mpr c10
            have c10b1 : (x4_1 != 18446744073709551615) = true := bne_iff_ne.mpr c10
            simp only [Option.some.injEq, Prod.mk.injEq] at H
            obtain ⟨rfl, rfl⟩ := H
            go_wp2
            go_ret2
            exact ⟨by first | rfl | (simp; done) | (simp [*]; done), by repeat (first | exact Drawn0.refl _ | apply Drawn0.step)⟩

/-! ### arrearslaw1_Count_40: function 40 -/
def arrearslaw1_Count_40.l0 : Nat → Int → Int → List Int → Int → Int → Option (Int × Bool)
  | 0, _, _, _, _, _ => none
  | k + 1, x4, x5, x9, x10, x11 => if x11 < x10 then (if 0 ≤ x11 then (if x11 < (x9.length : Int) then (if (rd x9 x11) < 0 then (arrearslaw1_Count_40.l0 k (IntKind.u64.wrap ((IntKind.u64.wrap (x4 + (ad64c x5 (IntKind.u64.wrap (rd x9 x11))))) - 1)) (ad64s x5 (IntKind.u64.wrap (rd x9 x11))) x9 x10 (wrap64 (x11 + 1))) else (arrearslaw1_Count_40.l0 k (IntKind.u64.wrap (x4 + (ad64c x5 (IntKind.u64.wrap (rd x9 x11))))) (ad64s x5 (IntKind.u64.wrap (rd x9 x11))) x9 x10 (wrap64 (x11 + 1)))) else (none)) else (none)) else (if x4 = 0 then (if x5 ≤ 9223372036854775807 then (some (wrap64 (x5), true)) else (if x4 = 18446744073709551615 then (if x5 ≥ 9223372036854775808 then (some (wrap64 (x5), true)) else (some (0, false))) else (some (0, false)))) else (if x4 = 18446744073709551615 then (if x5 ≥ 9223372036854775808 then (some (wrap64 (x5), true)) else (some (0, false))) else (some (0, false))))
def arrearslaw1_Count_40.f (k : Nat) (l0 : List Int) : Option (Int × Bool) := arrearslaw1_Count_40.l0 k 0 0 l0 (l0.length : Int) 0
theorem arrearslaw1_Count_40.mono_l : ∀ k, (∀ y0 y1 y2 y3 y4, LeO (arrearslaw1_Count_40.l0 k y0 y1 y2 y3 y4) (arrearslaw1_Count_40.l0 (k + 1) y0 y1 y2 y3 y4))
  | 0 => fun _ _ _ _ _ r h => by simp [arrearslaw1_Count_40.l0] at h
  | k + 1 => by
    have ih0 := arrearslaw1_Count_40.mono_l k
    · intro y0 y1 y2 y3 y4
      unfold arrearslaw1_Count_40.l0
      repeat' first
      | (with_reducible exact ih0 _ _ _ _ _)
      | (with_reducible exact LeO.refl _)
      | (with_reducible exact LeO.none _)
      | (with_reducible refine LeO.ite ?_ ?_)
      | (with_reducible refine LeO.bind ?_ (fun _ => ?_))
      | exact ih0 _ _ _ _ _
      | exact LeO.none _
      | refine LeO.ite ?_ ?_
      | refine LeO.bind ?_ (fun _ => ?_)
theorem arrearslaw1_Count_40.mono : ∀ a0 k, LeO (arrearslaw1_Count_40.f k a0) (arrearslaw1_Count_40.f (k + 1) a0) := by
  intro a0 k
  have ih0 := arrearslaw1_Count_40.mono_l k
  unfold arrearslaw1_Count_40.f
  repeat' first
      | (with_reducible exact ih0 _ _ _ _ _)
      | (with_reducible exact LeO.refl _)
      | (with_reducible exact LeO.none _)
      | (with_reducible refine LeO.ite ?_ ?_)
      | (with_reducible refine LeO.bind ?_ (fun _ => ?_))
      | exact ih0 _ _ _ _ _
      | exact LeO.none _
      | refine LeO.ite ?_ ?_
      | refine LeO.bind ?_ (fun _ => ?_)
set_option maxHeartbeats 8000000 in
set_option maxRecDepth 100000 in
theorem arrearslaw1_Count_40.calls (k : Nat) (A0 : Option Addr) (c0 : Nat) (l0 : List Int) (r1 : Int) (r2 : Bool) (w : World) (hr0 : Kd.C (Kd.int .i64) w A0 l0.length l0) (hc0 : l0.length ≤ c0) (h : arrearslaw1_Count_40.f k l0 = some (r1, r2)) :
    Calls Tryd.prog 40 #[.slice A0 l0.length c0] w fun e w' => e = .returned (.tuple #[.int .i64 r1, .bool r2]) ∧ Drawn0 w w' := by
  have HR0 := Aside0.mk hr0
  have HC0 := Aside0.mk hc0
  clear hr0 hc0
  have H : (arrearslaw1_Count_40.l0 k 0 0 l0 (l0.length : Int) 0) = some (r1, r2) := h
  clear h
  have H' := Aside0.mk H
  clear H
  go_enter Tryd.func40, Tryd.ntmps40
  go_wp2
  go_loopg [4, 5, 11] k (fun kq v4 v5 v11 w' => ∃ (x4_1 : Int) (x5_1 : Int) (x11_1 : Int), v4 = .int .u64 x4_1 ∧ v5 = .int .u64 x5_1 ∧ v11 = .int .i64 x11_1 ∧ Aside0 (arrearslaw1_Count_40.l0 kq x4_1 x5_1 l0 (l0.length : Int) x11_1 = some (r1, r2)) ∧ Aside0 (kq ≤ k) ∧ Drawn0 w w')
  case atStart => exact ⟨(0), (0), (0), (by first | rfl | (simp; done) | (simp [*]; done)), (by first | rfl | (simp; done) | (simp [*]; done)), (by first | rfl | (simp; done) | (simp [*]; done)), H', ⟨Nat.le_refl _⟩, by repeat (first | exact Drawn0.refl _ | apply Drawn0.step)⟩
  case round =>
    clear H'
    obtain ⟨x4_1, x5_1, x11_1, rfl, rfl, rfl, HA, HK1, ⟨m1, rfl⟩⟩ := hrel
    cases gk with
    | zero => exact absurd HA.out (by simp [arrearslaw1_Count_40.l0])
    | succ k1 =>
      have H := HA.out
      clear HA
      simp only [arrearslaw1_Count_40.l0] at H
      by_cases c2 : x11_1 < (l0.length : Int)
      · rw [if_pos c2] at H
        have c2b0 : decide (x11_1 < (l0.length : Int)) = true := decide_eq_true c2
        clear c2
        by_cases c3 : 0 ≤ x11_1
        · rw [if_pos c3] at H
          have c3b0 : decide (0 ≤ x11_1) = true := decide_eq_true c3
          clear c3
          by_cases c4 : x11_1 < (l0.length : Int)
          · rw [if_pos c4] at H
            have c4b0 : decide (x11_1 < (l0.length : Int)) = true := decide_eq_true c4
            clear c4
            by_cases c5 : (rd l0 x11_1) < 0
            · rw [if_pos c5] at H
              have c5b0 : decide ((rd l0 x11_1) < 0) = true := decide_eq_true c5
              clear c5
              have H' := Aside0.mk H
              clear H
              have p273 : 0 ≤ (x11_1 : Int) := of_decide_eq_true (by first | (with_reducible assumption) | assumption)
              have q273 : x11_1 < (l0.length : Int) := of_decide_eq_true (by first | (with_reducible assumption) | assumption)
              obtain ⟨ad273, e273, hx273_0⟩ := Kd.at_int HR0.out x11_1 p273 q273
              cases e273
              replace p273 := eq_true p273
              replace q273 := eq_true q273
              go_wp2
              go_roundg k1
              case measure => have := HK1.out; omega
              case rel => exact ⟨(IntKind.u64.wrap ((IntKind.u64.wrap (x4_1 + (ad64c x5_1 (IntKind.u64.wrap (rd l0 x11_1))))) - 1)), (ad64s x5_1 (IntKind.u64.wrap (rd l0 x11_1))), (wrap64 (x11_1 + 1)), (by first | rfl | (simp; done) | (simp [*]; done)), (by first | rfl | (simp; done) | (simp [*]; done)), (by first | rfl | (simp; done) | (simp [*]; done)), H', ⟨by have := HK1.out; omega⟩, by repeat (first | exact Drawn0.refl _ | apply Drawn0.step)⟩
            · rw [if_neg c5] at H
              have c5b0 : decide ((rd l0 x11_1) < 0) = false := decide_eq_false c5
              clear c5
              have H' := Aside0.mk H
              clear H
              have p273 : 0 ≤ (x11_1 : Int) := of_decide_eq_true (by first | (with_reducible assumption) | assumption)
              have q273 : x11_1 < (l0.length : Int) := of_decide_eq_true (by first | (with_reducible assumption) | assumption)
              obtain ⟨ad273, e273, hx273_0⟩ := Kd.at_int HR0.out x11_1 p273 q273
              cases e273
              replace p273 := eq_true p273
              replace q273 := eq_true q273
              go_wp2
              go_roundg k1
              case measure => have := HK1.out; omega
              case rel => exact ⟨(IntKind.u64.wrap (x4_1 + (ad64c x5_1 (IntKind.u64.wrap (rd l0 x11_1))))), (ad64s x5_1 (IntKind.u64.wrap (rd l0 x11_1))), (wrap64 (x11_1 + 1)), (by first | rfl | (simp; done) | (simp [*]; done)), (by first | rfl | (simp; done) | (simp [*]; done)), (by first | rfl | (simp; done) | (simp [*]; done)), H', ⟨by have := HK1.out; omega⟩, by repeat (first | exact Drawn0.refl _ | apply Drawn0.step)⟩
          · rw [if_neg c4] at H
            exact absurd H (by simp)
        · rw [if_neg c3] at H
          exact absurd H (by simp)
      · rw [if_neg c2] at H
        have c2b0 : decide (x11_1 < (l0.length : Int)) = false := decide_eq_false c2
        clear c2
        by_cases c6 : x4_1 = 0
        · rw [if_pos c6] at H
          have c6b0 : (x4_1 == 0) = true := beq_iff_eq.mpr c6
          have c6b1 : (x4_1 != 0) = false := bne_eq_false_iff_eq.mpr c6
          clear c6
          by_cases c7 : x5_1 ≤ 9223372036854775807
          · rw [if_pos c7] at H
            have c7b0 : decide (x5_1 ≤ 9223372036854775807) = true := decide_eq_true c7
            clear c7
            simp only [Option.some.injEq, Prod.mk.injEq] at H
            obtain ⟨rfl, rfl⟩ := H
            go_wp2
            go_ret2
            exact ⟨by first | rfl | (simp; done) | (simp [*]; done), by repeat (first | exact Drawn0.refl _ | apply Drawn0.step)⟩
          · rw [if_neg c7] at H
            have c7b0 : decide (x5_1 ≤ 9223372036854775807) = false := decide_eq_false c7
            clear c7
            by_cases c8 : x4_1 = 18446744073709551615
            · rw [if_pos c8] at H
              have c8b0 : (x4_1 == 18446744073709551615) = true := beq_iff_eq.mpr c8
              have c8b1 : (x4_1 != 18446744073709551615) = false := bne_eq_false_iff_eq.mpr c8
              clear c8
              by_cases c9 : x5_1 ≥ 9223372036854775808
              · rw [if_pos c9] at H
                have c9b0 : decide (9223372036854775808 ≤ x5_1) = true := decide_eq_true c9
                clear c9
                simp only [Option.some.injEq, Prod.mk.injEq] at H
                obtain ⟨rfl, rfl⟩ := H
                go_wp2
                go_ret2
                exact ⟨by first | rfl | (simp; done) | (simp [*]; done), by repeat (first | exact Drawn0.refl _ | apply Drawn0.step)⟩
              · rw [if_neg c9] at H
                have c9b0 : decide (9223372036854775808 ≤ x5_1) = false := decide_eq_false c9
                clear c9
                simp only [Option.some.injEq, Prod.mk.injEq] at H
                obtain ⟨rfl, rfl⟩ := H
                go_wp2
                go_ret2
                exact ⟨by first | rfl | (simp; done) | (simp [*]; done), by repeat (first | exact Drawn0.refl _ | apply Drawn0.step)⟩
            · rw [if_neg c8] at H
              have c8b0 : (x4_1 == 18446744073709551615) = false := beq_eq_false_iff_ne.mpr c8
              have c8b1 : (x4_1 != 18446744073709551615) = true := bne_iff_ne.mpr c8
              simp only [Option.some.injEq, Prod.mk.injEq] at H
              obtain ⟨rfl, rfl⟩ := H
              go_wp2
              go_ret2
              exact ⟨by first | rfl | (simp; done) | (simp [*]; done), by repeat (first | exact Drawn0.refl _ | apply Drawn0.step)⟩
        · rw [if_neg c6] at H
          have c6b0 : (x4_1 == 0) = false := beq_eq_false_iff_ne.mpr c6
          have c6b1 : (x4_1 != 0) = true := bne_iff_ne.mpr c6
          by_cases c10 : x4_1 = 18446744073709551615
          · rw [if_pos c10] at H
            have c10b0 : (x4_1 == 18446744073709551615) = true := beq_iff_eq.mpr c10
            have c10b1 : (x4_1 != 18446744073709551615) = false := bne_eq_false_iff_eq.mpr c10
            clear c10
            by_cases c11 : x5_1 ≥ 9223372036854775808
            · rw [if_pos c11] at H
              have c11b0 : decide (9223372036854775808 ≤ x5_1) = true := decide_eq_true c11
              clear c11
              simp only [Option.some.injEq, Prod.mk.injEq] at H
              obtain ⟨rfl, rfl⟩ := H
              go_wp2
              go_ret2
              exact ⟨by first | rfl | (simp; done) | (simp [*]; done), by repeat (first | exact Drawn0.refl _ | apply Drawn0.step)⟩
            · rw [if_neg c11] at H
              have c11b0 : decide (9223372036854775808 ≤ x5_1) = false := decide_eq_false c11
              clear c11
              simp only [Option.some.injEq, Prod.mk.injEq] at H
              obtain ⟨rfl, rfl⟩ := H
              go_wp2
              go_ret2
              exact ⟨by first | rfl | (simp; done) | (simp [*]; done), by repeat (first | exact Drawn0.refl _ | apply Drawn0.step)⟩
          · rw [if_neg c10] at H
            have c10b0 : (x4_1 == 18446744073709551615) = false := beq_eq_false_iff_ne.mpr c10
            have c10b1 : (x4_1 != 18446744073709551615) = true := bne_iff_ne.mpr c10
            simp only [Option.some.injEq, Prod.mk.injEq] at H
            obtain ⟨rfl, rfl⟩ := H
            go_wp2
            go_ret2
            exact ⟨by first | rfl | (simp; done) | (simp [*]; done), by repeat (first | exact Drawn0.refl _ | apply Drawn0.step)⟩

end Go.Proofs.YtfofcgflamidhaaDoor.PX
