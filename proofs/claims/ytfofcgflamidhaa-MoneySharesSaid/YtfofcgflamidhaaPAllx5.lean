-- Laid by wip/myprint.py, a driver over the kit's print, for this claim: a lemma's text, not read by a person.
import Derived.Test.YtfofcgflamidhaaPAllx0
import Derived.Test.YtfofcgflamidhaaPAllx3
import Derived.Test.YtfofcgflamidhaaPAllx4
namespace Go.Proofs.Ytfofcgflamidhaa.PAll
open Go.RowKit Go.Proofs.YtfofcgflamidhaaW.PrintWords Go.Proofs.YtfofcgflamidhaaW.PrintLast Go.Proofs.YtfofcgflamidhaaW.PrintMore
attribute [local go_sem] max2_int min2_int max_two min_two max_three min_three max_four min_four   -- for this text's walks alone
set_option linter.unusedVariables false
set_option linter.unusedSimpArgs false

attribute [local go_sem] run_ad64
/-! ### money_MulDiv: function 19 -/
mutual
def money_MulDiv.j0 : Nat → Int → Int → Int → Int → Int → Int → Bool → Option (Int × Bool)
  | 0, _, _, _, _, _, _, _ => none
  | k + 1, x0, x1, x2, x8, x9, x10, x30 => if x30 = true then (some (0, false)) else ((bits_Div64.f k x9 x10 x8).bind fun bt173 => (if bt173.2 > (IntKind.u64.wrap (x8 - bt173.2)) then (money_MulDiv.j1 k x0 x1 x2 bt173.1 true) else (if bt173.2 = (IntKind.u64.wrap (x8 - bt173.2)) then (money_MulDiv.j1 k x0 x1 x2 bt173.1 ((Go.bits .and .u64 bt173.1 1) == 1)) else (money_MulDiv.j1 k x0 x1 x2 bt173.1 false))))
def money_MulDiv.j1 : Nat → Int → Int → Int → Int → Bool → Option (Int × Bool)
  | 0, _, _, _, _, _ => none
  | k + 1, x0, x1, x2, x11, x54 => if x54 = true then (if (IntKind.u64.wrap (x11 + 1)) = 0 then (some (0, false)) else ((money_withSign.f (((decide (x0 < 0)) != (decide (x1 < 0))) != (decide (x2 < 0))) (IntKind.u64.wrap (x11 + 1))).bind fun bt175 => (some (bt175.1, bt175.2)))) else ((money_withSign.f (((decide (x0 < 0)) != (decide (x1 < 0))) != (decide (x2 < 0))) x11).bind fun bt177 => (some (bt177.1, bt177.2)))
end
def money_MulDiv.f (k : Nat) (a0 : Int) (a1 : Int) (a2 : Int) : Option (Int × Bool) := (money_magnitude.f a2).bind fun t168 => ((money_magnitude.f a0).bind fun t169 => ((money_magnitude.f a1).bind fun t170 => ((bits_Mul64.f t169 t170).bind fun bt171 => (if t168 = 0 then (money_MulDiv.j0 k a0 a1 a2 t168 bt171.1 bt171.2 true) else (money_MulDiv.j0 k a0 a1 a2 t168 bt171.1 bt171.2 (decide (bt171.1 ≥ t168)))))))
theorem money_MulDiv.mono_l : ∀ k, (∀ y0 y1 y2 y3 y4 y5 y6, LeO (money_MulDiv.j0 k y0 y1 y2 y3 y4 y5 y6) (money_MulDiv.j0 (k + 1) y0 y1 y2 y3 y4 y5 y6)) ∧ (∀ y0 y1 y2 y3 y4, LeO (money_MulDiv.j1 k y0 y1 y2 y3 y4) (money_MulDiv.j1 (k + 1) y0 y1 y2 y3 y4))
  | 0 => ⟨fun _ _ _ _ _ _ _ r h => by simp [money_MulDiv.j0] at h, fun _ _ _ _ _ r h => by simp [money_MulDiv.j1] at h⟩
  | k + 1 => by
    obtain ⟨ih0, ih1⟩ := money_MulDiv.mono_l k
    refine ⟨?_, ?_⟩
    · intro y0 y1 y2 y3 y4 y5 y6
      unfold money_MulDiv.j0
      repeat' first
      | (with_reducible exact ih0 _ _ _ _ _ _ _)
      | (with_reducible exact ih1 _ _ _ _ _)
      | (with_reducible exact bits_Div64.mono _ _ _ _)
      | (with_reducible exact LeO.refl _)
      | (with_reducible exact LeO.none _)
      | (with_reducible refine LeO.ite ?_ ?_)
      | (with_reducible refine LeO.bind ?_ (fun _ => ?_))
      | exact ih0 _ _ _ _ _ _ _
      | exact ih1 _ _ _ _ _
      | exact bits_Div64.mono _ _ _ _
      | exact LeO.none _
      | refine LeO.ite ?_ ?_
      | refine LeO.bind ?_ (fun _ => ?_)
    · intro y0 y1 y2 y3 y4
      unfold money_MulDiv.j1
      repeat' first
      | (with_reducible exact ih0 _ _ _ _ _ _ _)
      | (with_reducible exact ih1 _ _ _ _ _)
      | (with_reducible exact bits_Div64.mono _ _ _ _)
      | (with_reducible exact LeO.refl _)
      | (with_reducible exact LeO.none _)
      | (with_reducible refine LeO.ite ?_ ?_)
      | (with_reducible refine LeO.bind ?_ (fun _ => ?_))
      | exact ih0 _ _ _ _ _ _ _
      | exact ih1 _ _ _ _ _
      | exact bits_Div64.mono _ _ _ _
      | exact LeO.none _
      | refine LeO.ite ?_ ?_
      | refine LeO.bind ?_ (fun _ => ?_)
theorem money_MulDiv.mono : ∀ a0 a1 a2 k, LeO (money_MulDiv.f k a0 a1 a2) (money_MulDiv.f (k + 1) a0 a1 a2) := by
  intro a0 a1 a2 k
  obtain ⟨ih0, ih1⟩ := money_MulDiv.mono_l k
  unfold money_MulDiv.f
  repeat' first
      | (with_reducible exact ih0 _ _ _ _ _ _ _)
      | (with_reducible exact ih1 _ _ _ _ _)
      | (with_reducible exact bits_Div64.mono _ _ _ _)
      | (with_reducible exact LeO.refl _)
      | (with_reducible exact LeO.none _)
      | (with_reducible refine LeO.ite ?_ ?_)
      | (with_reducible refine LeO.bind ?_ (fun _ => ?_))
      | exact ih0 _ _ _ _ _ _ _
      | exact ih1 _ _ _ _ _
      | exact bits_Div64.mono _ _ _ _
      | exact LeO.none _
      | refine LeO.ite ?_ ?_
      | refine LeO.bind ?_ (fun _ => ?_)
set_option maxHeartbeats 8000000 in
set_option maxRecDepth 100000 in
theorem money_MulDiv.calls (k : Nat) (a0 : Int) (a1 : Int) (a2 : Int) (r1 : Int) (r2 : Bool) (w : World) (h : money_MulDiv.f k a0 a1 a2 = some (r1, r2)) :
    Calls Try.prog 19 #[.int .i64 a0, .int .i64 a1, .int .i64 a2] w fun e w' => e = .returned (.tuple #[.int .i64 r1, .bool r2]) ∧ Drawn0 w w' := by
  have H : ((money_magnitude.f a2).bind fun t168 => ((money_magnitude.f a0).bind fun t169 => ((money_magnitude.f a1).bind fun t170 => ((bits_Mul64.f t169 t170).bind fun bt171 => (if t168 = 0 then (money_MulDiv.j0 k a0 a1 a2 t168 bt171.1 bt171.2 true) else (money_MulDiv.j0 k a0 a1 a2 t168 bt171.1 bt171.2 (decide (bt171.1 ≥ t168)))))))) = some (r1, r2) := h
  clear h
  replace H := Option.bind_eq_some_iff.mp H
  obtain ⟨t168, A40, H⟩ := H
  replace H : ((money_magnitude.f a0).bind fun t169 => ((money_magnitude.f a1).bind fun t170 => ((bits_Mul64.f t169 t170).bind fun bt171 => (if t168 = 0 then (money_MulDiv.j0 k a0 a1 a2 t168 bt171.1 bt171.2 true) else (money_MulDiv.j0 k a0 a1 a2 t168 bt171.1 bt171.2 (decide (bt171.1 ≥ t168))))))) = some (r1, r2) := H
  have A4 := Aside0.mk A40
  clear A40
  replace H := Option.bind_eq_some_iff.mp H
  obtain ⟨t169, A50, H⟩ := H
  replace H : ((money_magnitude.f a1).bind fun t170 => ((bits_Mul64.f t169 t170).bind fun bt171 => (if t168 = 0 then (money_MulDiv.j0 k a0 a1 a2 t168 bt171.1 bt171.2 true) else (money_MulDiv.j0 k a0 a1 a2 t168 bt171.1 bt171.2 (decide (bt171.1 ≥ t168)))))) = some (r1, r2) := H
  have A5 := Aside0.mk A50
  clear A50
  replace H := Option.bind_eq_some_iff.mp H
  obtain ⟨t170, A60, H⟩ := H
  replace H : ((bits_Mul64.f t169 t170).bind fun bt171 => (if t168 = 0 then (money_MulDiv.j0 k a0 a1 a2 t168 bt171.1 bt171.2 true) else (money_MulDiv.j0 k a0 a1 a2 t168 bt171.1 bt171.2 (decide (bt171.1 ≥ t168))))) = some (r1, r2) := H
  have A6 := Aside0.mk A60
  clear A60
  replace H := Option.bind_eq_some_iff.mp H
  obtain ⟨⟨t171, t172⟩, A70, H⟩ := H
  replace H : (if t168 = 0 then (money_MulDiv.j0 k a0 a1 a2 t168 t171 t172 true) else (money_MulDiv.j0 k a0 a1 a2 t168 t171 t172 (decide (t171 ≥ t168)))) = some (r1, r2) := H
  have A7 := Aside0.mk A70
  clear A70
  have HC8 := Aside0.mk H
  clear H
  go_enter Try.func19, Try.ntmps19
  go_upto_region 3 with (first | ((with_reducible refine gate_callee (f := 32) rfl ?_); refine goesL_ (some 15) rfl rfl Try.func32 (by kernel_rfl) rfl #[.int .i64 a2] rfl (by (try simp only [List.map_toArray, List.map_cons, List.map_nil]); first | done | rfl | (simp only [List.length_drop, List.length_take]; rfl)) ?_; (with_reducible refine (money_magnitude.calls a2 t168 _ A4.out).mono ?_); rintro e w' ⟨rfl, ⟨nd, rfl⟩⟩; refine ⟨_, rfl, ?_⟩) | ((with_reducible refine gate_callee (f := 32) rfl ?_); refine goesL_ (some 18) rfl rfl Try.func32 (by kernel_rfl) rfl #[.int .i64 a0] rfl (by (try simp only [List.map_toArray, List.map_cons, List.map_nil]); first | done | rfl | (simp only [List.length_drop, List.length_take]; rfl)) ?_; (with_reducible refine (money_magnitude.calls a0 t169 _ A5.out).mono ?_); rintro e w' ⟨rfl, ⟨nd, rfl⟩⟩; refine ⟨_, rfl, ?_⟩) | ((with_reducible refine gate_callee (f := 32) rfl ?_); refine goesL_ (some 20) rfl rfl Try.func32 (by kernel_rfl) rfl #[.int .i64 a1] rfl (by (try simp only [List.map_toArray, List.map_cons, List.map_nil]); first | done | rfl | (simp only [List.length_drop, List.length_take]; rfl)) ?_; (with_reducible refine (money_magnitude.calls a1 t170 _ A6.out).mono ?_); rintro e w' ⟨rfl, ⟨nd, rfl⟩⟩; refine ⟨_, rfl, ?_⟩) | ((with_reducible refine gate_callee (f := 33) rfl ?_); refine goesL_ (some 21) rfl rfl Try.func33 (by kernel_rfl) rfl #[.int .u64 t169, .int .u64 t170] rfl (by (try simp only [List.map_toArray, List.map_cons, List.map_nil]); first | done | rfl | (simp only [List.length_drop, List.length_take]; rfl)) ?_; (with_reducible refine (bits_Mul64.calls t169 t170 t171 t172 _ A7.out).mono ?_); rintro e w' ⟨rfl, ⟨nd, rfl⟩⟩; refine ⟨_, rfl, ?_⟩))
  (try simp only [Act.put, List.setIfInBounds_toArray, List.set_cons_zero, List.set_cons_succ])
  go_cut [30] (fun v30 wc => ∃ (kq : Nat) (x30_7 : Bool), v30 = .bool x30_7 ∧ Aside0 (money_MulDiv.j0 kq a0 a1 a2 t168 t171 t172 x30_7 = some (r1, r2)) ∧ Aside0 (kq ≤ k) ∧ Drawn0 w wc)
  case first =>
    have H := HC8.out
    clear HC8
    by_cases c9 : t168 = 0
    · rw [if_pos c9] at H
      have c9b0 : (t168 == 0) = true := beq_iff_eq.mpr c9
      have c9b1 : (t168 != 0) = false := bne_eq_false_iff_eq.mpr c9
      clear c9
      (first | rw [c9b0] | (simp only [i64_w, i32_w]; rw [c9b0]) | skip)
      have H' := Aside0.mk H
      clear H
      go_wp2
      go_meet
      case rel => exact ⟨_, (true), (by first | rfl | (simp; done) | (simp [*]; done)), H', ⟨by first | omega | exact Nat.le_refl _⟩, by repeat (first | exact Drawn0.refl _ | apply Drawn0.step)⟩
    · rw [if_neg c9] at H
      have c9b0 : (t168 == 0) = false := beq_eq_false_iff_ne.mpr c9
      have c9b1 : (t168 != 0) = true := bne_iff_ne.mpr c9
      (first | rw [c9b0] | (simp only [i64_w, i32_w]; rw [c9b0]) | skip)
      have H' := Aside0.mk H
      clear H
      go_wp2
      go_meet
      case rel => exact ⟨_, (decide (t171 ≥ t168)), (by first | rfl | (simp; done) | (simp [*]; done)), H', ⟨by first | omega | exact Nat.le_refl _⟩, by repeat (first | exact Drawn0.refl _ | apply Drawn0.step)⟩
  case rest =>
    clear HC8
    try clear c1
    try clear p2
    try clear c3
    try clear c9
    try clear c9b0
    try clear c9b1
    obtain ⟨kq, x30_7, rfl, HA, HJ7, ⟨mc7, rfl⟩⟩ := hcut
    cases kq with
    | zero => exact absurd HA.out (by simp [money_MulDiv.j0])
    | succ kj7 =>
      have H := HA.out
      clear HA
      simp only [money_MulDiv.j0] at H
      by_cases c10 : x30_7 = true
      · subst c10
        have H1 : (some (0, false)) = some (r1, r2) := by rw [if_pos rfl] at H; exact H
        clear H
        have H := H1
        clear H1
        simp only [Option.some.injEq, Prod.mk.injEq] at H
        obtain ⟨rfl, rfl⟩ := H
        go_wp2
        go_ret2
        exact ⟨by first | rfl | (simp; done) | (simp [*]; done), by repeat (first | exact Drawn0.refl _ | apply Drawn0.step)⟩
      · replace c10 := Bool.eq_false_iff.mpr c10
        subst c10
        have H1 : ((bits_Div64.f kj7 t171 t172 t168).bind fun bt173 => (if bt173.2 > (IntKind.u64.wrap (t168 - bt173.2)) then (money_MulDiv.j1 kj7 a0 a1 a2 bt173.1 true) else (if bt173.2 = (IntKind.u64.wrap (t168 - bt173.2)) then (money_MulDiv.j1 kj7 a0 a1 a2 bt173.1 ((Go.bits .and .u64 bt173.1 1) == 1)) else (money_MulDiv.j1 kj7 a0 a1 a2 bt173.1 false)))) = some (r1, r2) := by rw [if_neg (show ¬ (false = true) by decide)] at H; exact H
        clear H
        have H := H1
        clear H1
        replace H := Option.bind_eq_some_iff.mp H
        obtain ⟨⟨t173, t174⟩, A110, H⟩ := H
        replace H : (if t174 > (IntKind.u64.wrap (t168 - t174)) then (money_MulDiv.j1 kj7 a0 a1 a2 t173 true) else (if t174 = (IntKind.u64.wrap (t168 - t174)) then (money_MulDiv.j1 kj7 a0 a1 a2 t173 ((Go.bits .and .u64 t173 1) == 1)) else (money_MulDiv.j1 kj7 a0 a1 a2 t173 false))) = some (r1, r2) := H
        have A11 := Aside0.mk A110
        clear A110
        have HC12 := Aside0.mk H
        clear H
        go_upto_region 6 with (first | ((with_reducible refine gate_callee (f := 34) rfl ?_); refine goesL_ (some 35) rfl rfl Try.func34 (by kernel_rfl) rfl #[.int .u64 t171, .int .u64 t172, .int .u64 t168] rfl (by (try simp only [List.map_toArray, List.map_cons, List.map_nil]); first | done | rfl | (simp only [List.length_drop, List.length_take]; rfl)) ?_; (with_reducible refine (bits_Div64.calls kj7 t171 t172 t168 t173 t174 _ A11.out).mono ?_); rintro e w' ⟨rfl, ⟨nd, rfl⟩⟩; refine ⟨_, rfl, ?_⟩))
        (try simp only [Act.put, List.setIfInBounds_toArray, List.set_cons_zero, List.set_cons_succ])
        go_cut [54] (fun v54 wc => ∃ (kq : Nat) (x54_11 : Bool), v54 = .bool x54_11 ∧ Aside0 (money_MulDiv.j1 kq a0 a1 a2 t173 x54_11 = some (r1, r2)) ∧ Aside0 (kq ≤ kj7) ∧ Drawn0 w wc)
        case first =>
          have H := HC12.out
          clear HC12
          by_cases c13 : t174 > (IntKind.u64.wrap (t168 - t174))
          · rw [if_pos c13] at H
            have c13b0 : decide ((IntKind.u64.wrap (t168 - t174)) < t174) = true := decide_eq_true c13
            clear c13
            (first | rw [c13b0] | (simp only [i64_w, i32_w]; rw [c13b0]) | skip)
            have H' := Aside0.mk H
            clear H
            go_wp2
            go_meet
            case rel => exact ⟨_, (true), (by first | rfl | (simp; done) | (simp [*]; done)), H', ⟨by have := HJ7.out; first | omega | exact Nat.le_refl _⟩, by repeat (first | exact Drawn0.refl _ | apply Drawn0.step)⟩
          · rw [if_neg c13] at H
            have c13b0 : decide ((IntKind.u64.wrap (t168 - t174)) < t174) = false := decide_eq_false c13
            clear c13
            (first | rw [c13b0] | (simp only [i64_w, i32_w]; rw [c13b0]) | skip)
            by_cases c14 : t174 = (IntKind.u64.wrap (t168 - t174))
            · rw [if_pos c14] at H
              have c14b0 : (t174 == (IntKind.u64.wrap (t168 - t174))) = true := beq_iff_eq.mpr c14
              have c14b1 : (t174 != (IntKind.u64.wrap (t168 - t174))) = false := bne_eq_false_iff_eq.mpr c14
              clear c14
              have H' := Aside0.mk H
              clear H
              go_wp2
              go_meet
              case rel => exact ⟨_, (((Go.bits .and .u64 t173 1) == 1)), (by first | rfl | (simp; done) | (simp [*]; done)), H', ⟨by have := HJ7.out; first | omega | exact Nat.le_refl _⟩, by repeat (first | exact Drawn0.refl _ | apply Drawn0.step)⟩
            · rw [if_neg c14] at H
              have c14b0 : (t174 == (IntKind.u64.wrap (t168 - t174))) = false := beq_eq_false_iff_ne.mpr c14
              have c14b1 : (t174 != (IntKind.u64.wrap (t168 - t174))) = true := bne_iff_ne.mpr c14
              have H' := Aside0.mk H
              clear H
              go_wp2
              go_meet
              case rel => exact ⟨_, (false), (by first | rfl | (simp; done) | (simp [*]; done)), H', ⟨by have := HJ7.out; first | omega | exact Nat.le_refl _⟩, by repeat (first | exact Drawn0.refl _ | apply Drawn0.step)⟩
        case rest =>
          clear HC12
          try clear c1
          try clear p2
          try clear c3
          try clear c7
          try clear c9
          try clear c9b0
          try clear c9b1
          try clear c10
          try clear c13
          try clear c13b0
          try clear c14
          try clear c14b0
          try clear c14b1
          try clear p2
          obtain ⟨kq, x54_11, rfl, HA, HJ11, ⟨mc11, rfl⟩⟩ := hcut
          cases kq with
          | zero => exact absurd HA.out (by simp [money_MulDiv.j1])
          | succ kj11 =>
            have H := HA.out
            clear HA
            simp only [money_MulDiv.j1] at H
            by_cases c15 : x54_11 = true
            · subst c15
              have H1 : (if (IntKind.u64.wrap (t173 + 1)) = 0 then (some (0, false)) else ((money_withSign.f (((decide (a0 < 0)) != (decide (a1 < 0))) != (decide (a2 < 0))) (IntKind.u64.wrap (t173 + 1))).bind fun bt175 => (some (bt175.1, bt175.2)))) = some (r1, r2) := by rw [if_pos rfl] at H; exact H
              clear H
              have H := H1
              clear H1
              by_cases c16 : (IntKind.u64.wrap (t173 + 1)) = 0
              · rw [if_pos c16] at H
                have c16b0 : ((IntKind.u64.wrap (t173 + 1)) == 0) = true := beq_iff_eq.mpr c16
                have c16b1 : ((IntKind.u64.wrap (t173 + 1)) != 0) = false := bne_eq_false_iff_eq.mpr c16
                clear c16
                simp only [Option.some.injEq, Prod.mk.injEq] at H
                obtain ⟨rfl, rfl⟩ := H
                go_wp2
                go_ret2
                exact ⟨by first | rfl | (simp; done) | (simp [*]; done), by repeat (first | exact Drawn0.refl _ | apply Drawn0.step)⟩
              · rw [if_neg c16] at H
                have c16b0 : ((IntKind.u64.wrap (t173 + 1)) == 0) = false := beq_eq_false_iff_ne.mpr c16
                have c16b1 : ((IntKind.u64.wrap (t173 + 1)) != 0) = true := bne_iff_ne.mpr c16
                replace H := Option.bind_eq_some_iff.mp H
                obtain ⟨⟨t175, t176⟩, A170, H⟩ := H
                replace H : (some (t175, t176)) = some (r1, r2) := H
                have A17 := Aside0.mk A170
                clear A170
                simp only [Option.some.injEq, Prod.mk.injEq] at H
                obtain ⟨rfl, rfl⟩ := H
                go_wp2_with (first | ((with_reducible refine gate_callee (f := 35) rfl ?_); refine goesL_ (some 69) rfl rfl Try.func35 (by kernel_rfl) rfl #[.bool (((decide (a0 < 0)) != (decide (a1 < 0))) != (decide (a2 < 0))), .int .u64 (IntKind.u64.wrap (t173 + 1))] rfl (by (try simp only [List.map_toArray, List.map_cons, List.map_nil]); first | done | rfl | (simp only [List.length_drop, List.length_take]; rfl)) ?_; (with_reducible refine (money_withSign.calls (((decide (a0 < 0)) != (decide (a1 < 0))) != (decide (a2 < 0))) (IntKind.u64.wrap (t173 + 1)) t175 t176 _ A17.out).mono ?_); rintro e w' ⟨rfl, ⟨nd, rfl⟩⟩; refine ⟨_, rfl, ?_⟩))
                go_ret2
                exact ⟨by first | rfl | (simp; done) | (simp [*]; done), by repeat (first | exact Drawn0.refl _ | apply Drawn0.step)⟩
            · replace c15 := Bool.eq_false_iff.mpr c15
              subst c15
              have H1 : ((money_withSign.f (((decide (a0 < 0)) != (decide (a1 < 0))) != (decide (a2 < 0))) t173).bind fun bt177 => (some (bt177.1, bt177.2))) = some (r1, r2) := by rw [if_neg (show ¬ (false = true) by decide)] at H; exact H
              clear H
              have H := H1
              clear H1
              replace H := Option.bind_eq_some_iff.mp H
              obtain ⟨⟨t177, t178⟩, A180, H⟩ := H
              replace H : (some (t177, t178)) = some (r1, r2) := H
              have A18 := Aside0.mk A180
              clear A180
              simp only [Option.some.injEq, Prod.mk.injEq] at H
              obtain ⟨rfl, rfl⟩ := H
              go_wp2_with (first | ((with_reducible refine gate_callee (f := 35) rfl ?_); refine goesL_ (some 69) rfl rfl Try.func35 (by kernel_rfl) rfl #[.bool (((decide (a0 < 0)) != (decide (a1 < 0))) != (decide (a2 < 0))), .int .u64 t173] rfl (by (try simp only [List.map_toArray, List.map_cons, List.map_nil]); first | done | rfl | (simp only [List.length_drop, List.length_take]; rfl)) ?_; (with_reducible refine (money_withSign.calls (((decide (a0 < 0)) != (decide (a1 < 0))) != (decide (a2 < 0))) t173 t177 t178 _ A18.out).mono ?_); rintro e w' ⟨rfl, ⟨nd, rfl⟩⟩; refine ⟨_, rfl, ?_⟩))
              go_ret2
              exact ⟨by first | rfl | (simp; done) | (simp [*]; done), by repeat (first | exact Drawn0.refl _ | apply Drawn0.step)⟩

/-! ### arrearslaw1_MoneyNearest: function 5 -/
mutual
def arrearslaw1_MoneyNearest.j0 : Nat → Int → Int → Int → Bool → Option (Bool)
  | 0, _, _, _, _ => none
  | k + 1, x0, x1, x2, x26 => if x26 = true then (some true) else ((money_MulDiv.f k x0 x1 x2).bind fun bt182 => (if bt182.2 = true then (if bt182.1 < (-1152921504606846976) then (arrearslaw1_MoneyNearest.j1 k x0 x1 x2 bt182.1 true) else (arrearslaw1_MoneyNearest.j1 k x0 x1 x2 bt182.1 (decide (bt182.1 > 1152921504606846976)))) else (arrearslaw1_MoneyNearest.j1 k x0 x1 x2 bt182.1 true)))
def arrearslaw1_MoneyNearest.j1 : Nat → Int → Int → Int → Int → Bool → Option (Bool)
  | 0, _, _, _, _, _ => none
  | k + 1, x0, x1, x2, x7, x43 => if x43 = true then (some false) else (if x2 < 0 then (arrearslaw1_MoneyNearest.j2 k (wrap64 (-x0)) x1 (wrap64 (-x2)) x7) else (arrearslaw1_MoneyNearest.j2 k x0 x1 x2 x7))
def arrearslaw1_MoneyNearest.j2 : Nat → Int → Int → Int → Int → Option (Bool)
  | 0, _, _, _, _ => none
  | k + 1, x0, x1, x2, x7 => if x2 = 0 then (none) else (if x7 > (wrap64 ((wrap64 (Int.tdiv (wrap64 (x0 * x1)) x2)) + 1)) then (arrearslaw1_MoneyNearest.j3 k x0 x1 x2 x7 true) else (arrearslaw1_MoneyNearest.j3 k x0 x1 x2 x7 (decide (x7 < (wrap64 ((wrap64 (Int.tdiv (wrap64 (x0 * x1)) x2)) - 1))))))
def arrearslaw1_MoneyNearest.j3 : Nat → Int → Int → Int → Int → Bool → Option (Bool)
  | 0, _, _, _, _, _ => none
  | k + 1, x0, x1, x2, x7, x67 => if x67 = true then (some false) else (if (wrap64 (2 * (wrap64 ((wrap64 (x0 * x1)) - (wrap64 (x7 * x2)))))) = x2 then (some ((Int.tmod x7 2) == 0)) else (if (wrap64 (2 * (wrap64 ((wrap64 (x0 * x1)) - (wrap64 (x7 * x2)))))) = (wrap64 (-x2)) then (some ((Int.tmod x7 2) == 0)) else (if (wrap64 (2 * (wrap64 ((wrap64 (x0 * x1)) - (wrap64 (x7 * x2)))))) < x2 then (some (decide ((wrap64 (2 * (wrap64 ((wrap64 (x0 * x1)) - (wrap64 (x7 * x2)))))) > (wrap64 (-x2))))) else (some false))))
end
def arrearslaw1_MoneyNearest.f (k : Nat) (a0 : Int) (a1 : Int) (a2 : Int) : Option (Bool) := (arrearslaw1_small.f a0).bind fun t179 => (if t179 = true then ((arrearslaw1_small.f a1).bind fun t180 => (if t180 = true then ((arrearslaw1_small.f a2).bind fun t181 => (if t181 = true then (arrearslaw1_MoneyNearest.j0 k a0 a1 a2 (a2 == 0)) else (arrearslaw1_MoneyNearest.j0 k a0 a1 a2 true))) else (arrearslaw1_MoneyNearest.j0 k a0 a1 a2 true))) else (arrearslaw1_MoneyNearest.j0 k a0 a1 a2 true))
theorem arrearslaw1_MoneyNearest.mono_l : ∀ k, (∀ y0 y1 y2 y3, LeO (arrearslaw1_MoneyNearest.j0 k y0 y1 y2 y3) (arrearslaw1_MoneyNearest.j0 (k + 1) y0 y1 y2 y3)) ∧ (∀ y0 y1 y2 y3 y4, LeO (arrearslaw1_MoneyNearest.j1 k y0 y1 y2 y3 y4) (arrearslaw1_MoneyNearest.j1 (k + 1) y0 y1 y2 y3 y4)) ∧ (∀ y0 y1 y2 y3, LeO (arrearslaw1_MoneyNearest.j2 k y0 y1 y2 y3) (arrearslaw1_MoneyNearest.j2 (k + 1) y0 y1 y2 y3)) ∧ (∀ y0 y1 y2 y3 y4, LeO (arrearslaw1_MoneyNearest.j3 k y0 y1 y2 y3 y4) (arrearslaw1_MoneyNearest.j3 (k + 1) y0 y1 y2 y3 y4))
  | 0 => ⟨fun _ _ _ _ r h => by simp [arrearslaw1_MoneyNearest.j0] at h, fun _ _ _ _ _ r h => by simp [arrearslaw1_MoneyNearest.j1] at h, fun _ _ _ _ r h => by simp [arrearslaw1_MoneyNearest.j2] at h, fun _ _ _ _ _ r h => by simp [arrearslaw1_MoneyNearest.j3] at h⟩
  | k + 1 => by
    obtain ⟨ih0, ih1, ih2, ih3⟩ := arrearslaw1_MoneyNearest.mono_l k
    refine ⟨?_, ?_, ?_, ?_⟩
    · intro y0 y1 y2 y3
      unfold arrearslaw1_MoneyNearest.j0
      repeat' first
      | (with_reducible exact ih0 _ _ _ _)
      | (with_reducible exact ih1 _ _ _ _ _)
      | (with_reducible exact ih2 _ _ _ _)
      | (with_reducible exact ih3 _ _ _ _ _)
      | (with_reducible exact money_MulDiv.mono _ _ _ _)
      | (with_reducible exact LeO.refl _)
      | (with_reducible exact LeO.none _)
      | (with_reducible refine LeO.ite ?_ ?_)
      | (with_reducible refine LeO.bind ?_ (fun _ => ?_))
      | exact ih0 _ _ _ _
      | exact ih1 _ _ _ _ _
      | exact ih2 _ _ _ _
      | exact ih3 _ _ _ _ _
      | exact money_MulDiv.mono _ _ _ _
      | exact LeO.none _
      | refine LeO.ite ?_ ?_
      | refine LeO.bind ?_ (fun _ => ?_)
    · intro y0 y1 y2 y3 y4
      unfold arrearslaw1_MoneyNearest.j1
      repeat' first
      | (with_reducible exact ih0 _ _ _ _)
      | (with_reducible exact ih1 _ _ _ _ _)
      | (with_reducible exact ih2 _ _ _ _)
      | (with_reducible exact ih3 _ _ _ _ _)
      | (with_reducible exact money_MulDiv.mono _ _ _ _)
      | (with_reducible exact LeO.refl _)
      | (with_reducible exact LeO.none _)
      | (with_reducible refine LeO.ite ?_ ?_)
      | (with_reducible refine LeO.bind ?_ (fun _ => ?_))
      | exact ih0 _ _ _ _
      | exact ih1 _ _ _ _ _
      | exact ih2 _ _ _ _
      | exact ih3 _ _ _ _ _
      | exact money_MulDiv.mono _ _ _ _
      | exact LeO.none _
      | refine LeO.ite ?_ ?_
      | refine LeO.bind ?_ (fun _ => ?_)
    · intro y0 y1 y2 y3
      unfold arrearslaw1_MoneyNearest.j2
      repeat' first
      | (with_reducible exact ih0 _ _ _ _)
      | (with_reducible exact ih1 _ _ _ _ _)
      | (with_reducible exact ih2 _ _ _ _)
      | (with_reducible exact ih3 _ _ _ _ _)
      | (with_reducible exact money_MulDiv.mono _ _ _ _)
      | (with_reducible exact LeO.refl _)
      | (with_reducible exact LeO.none _)
      | (with_reducible refine LeO.ite ?_ ?_)
      | (with_reducible refine LeO.bind ?_ (fun _ => ?_))
      | exact ih0 _ _ _ _
      | exact ih1 _ _ _ _ _
      | exact ih2 _ _ _ _
      | exact ih3 _ _ _ _ _
      | exact money_MulDiv.mono _ _ _ _
      | exact LeO.none _
      | refine LeO.ite ?_ ?_
      | refine LeO.bind ?_ (fun _ => ?_)
    · intro y0 y1 y2 y3 y4
      unfold arrearslaw1_MoneyNearest.j3
      repeat' first
      | (with_reducible exact ih0 _ _ _ _)
      | (with_reducible exact ih1 _ _ _ _ _)
      | (with_reducible exact ih2 _ _ _ _)
      | (with_reducible exact ih3 _ _ _ _ _)
      | (with_reducible exact money_MulDiv.mono _ _ _ _)
      | (with_reducible exact LeO.refl _)
      | (with_reducible exact LeO.none _)
      | (with_reducible refine LeO.ite ?_ ?_)
      | (with_reducible refine LeO.bind ?_ (fun _ => ?_))
      | exact ih0 _ _ _ _
      | exact ih1 _ _ _ _ _
      | exact ih2 _ _ _ _
      | exact ih3 _ _ _ _ _
      | exact money_MulDiv.mono _ _ _ _
      | exact LeO.none _
      | refine LeO.ite ?_ ?_
      | refine LeO.bind ?_ (fun _ => ?_)
theorem arrearslaw1_MoneyNearest.mono : ∀ a0 a1 a2 k, LeO (arrearslaw1_MoneyNearest.f k a0 a1 a2) (arrearslaw1_MoneyNearest.f (k + 1) a0 a1 a2) := by
  intro a0 a1 a2 k
  obtain ⟨ih0, ih1, ih2, ih3⟩ := arrearslaw1_MoneyNearest.mono_l k
  unfold arrearslaw1_MoneyNearest.f
  repeat' first
      | (with_reducible exact ih0 _ _ _ _)
      | (with_reducible exact ih1 _ _ _ _ _)
      | (with_reducible exact ih2 _ _ _ _)
      | (with_reducible exact ih3 _ _ _ _ _)
      | (with_reducible exact money_MulDiv.mono _ _ _ _)
      | (with_reducible exact LeO.refl _)
      | (with_reducible exact LeO.none _)
      | (with_reducible refine LeO.ite ?_ ?_)
      | (with_reducible refine LeO.bind ?_ (fun _ => ?_))
      | exact ih0 _ _ _ _
      | exact ih1 _ _ _ _ _
      | exact ih2 _ _ _ _
      | exact ih3 _ _ _ _ _
      | exact money_MulDiv.mono _ _ _ _
      | exact LeO.none _
      | refine LeO.ite ?_ ?_
      | refine LeO.bind ?_ (fun _ => ?_)
set_option maxHeartbeats 8000000 in
set_option maxRecDepth 100000 in
theorem arrearslaw1_MoneyNearest.calls (k : Nat) (a0 : Int) (a1 : Int) (a2 : Int) (r : Bool) (w : World) (h : arrearslaw1_MoneyNearest.f k a0 a1 a2 = some r) :
    Calls Try.prog 5 #[.int .i64 a0, .int .i64 a1, .int .i64 a2] w fun e w' => e = .returned (.bool r) ∧ Drawn0 w w' := by
  have H : ((arrearslaw1_small.f a0).bind fun t179 => (if t179 = true then ((arrearslaw1_small.f a1).bind fun t180 => (if t180 = true then ((arrearslaw1_small.f a2).bind fun t181 => (if t181 = true then (arrearslaw1_MoneyNearest.j0 k a0 a1 a2 (a2 == 0)) else (arrearslaw1_MoneyNearest.j0 k a0 a1 a2 true))) else (arrearslaw1_MoneyNearest.j0 k a0 a1 a2 true))) else (arrearslaw1_MoneyNearest.j0 k a0 a1 a2 true))) = some r := h
  clear h
  have HC4 := Aside0.mk H
  clear H
  go_enter Try.func5, Try.ntmps5
  go_upto_region 1 with (fail)
  go_cut [26] (fun v26 wc => ∃ (kq : Nat) (x26_3 : Bool), v26 = .bool x26_3 ∧ Aside0 (arrearslaw1_MoneyNearest.j0 kq a0 a1 a2 x26_3 = some r) ∧ Aside0 (kq ≤ k) ∧ Drawn0 w wc)
  case first =>
    have H := HC4.out
    clear HC4
    replace H := Option.bind_eq_some_iff.mp H
    obtain ⟨t179, A50, H⟩ := H
    replace H : (if t179 = true then ((arrearslaw1_small.f a1).bind fun t180 => (if t180 = true then ((arrearslaw1_small.f a2).bind fun t181 => (if t181 = true then (arrearslaw1_MoneyNearest.j0 k a0 a1 a2 (a2 == 0)) else (arrearslaw1_MoneyNearest.j0 k a0 a1 a2 true))) else (arrearslaw1_MoneyNearest.j0 k a0 a1 a2 true))) else (arrearslaw1_MoneyNearest.j0 k a0 a1 a2 true)) = some r := H
    have A5 := Aside0.mk A50
    clear A50
    by_cases c6 : t179 = true
    · subst c6
      have H1 : ((arrearslaw1_small.f a1).bind fun t180 => (if t180 = true then ((arrearslaw1_small.f a2).bind fun t181 => (if t181 = true then (arrearslaw1_MoneyNearest.j0 k a0 a1 a2 (a2 == 0)) else (arrearslaw1_MoneyNearest.j0 k a0 a1 a2 true))) else (arrearslaw1_MoneyNearest.j0 k a0 a1 a2 true))) = some r := by rw [if_pos rfl] at H; exact H
      clear H
      have H := H1
      clear H1
      replace H := Option.bind_eq_some_iff.mp H
      obtain ⟨t180, A70, H⟩ := H
      replace H : (if t180 = true then ((arrearslaw1_small.f a2).bind fun t181 => (if t181 = true then (arrearslaw1_MoneyNearest.j0 k a0 a1 a2 (a2 == 0)) else (arrearslaw1_MoneyNearest.j0 k a0 a1 a2 true))) else (arrearslaw1_MoneyNearest.j0 k a0 a1 a2 true)) = some r := H
      have A7 := Aside0.mk A70
      clear A70
      by_cases c8 : t180 = true
      · subst c8
        have H1 : ((arrearslaw1_small.f a2).bind fun t181 => (if t181 = true then (arrearslaw1_MoneyNearest.j0 k a0 a1 a2 (a2 == 0)) else (arrearslaw1_MoneyNearest.j0 k a0 a1 a2 true))) = some r := by rw [if_pos rfl] at H; exact H
        clear H
        have H := H1
        clear H1
        replace H := Option.bind_eq_some_iff.mp H
        obtain ⟨t181, A90, H⟩ := H
        replace H : (if t181 = true then (arrearslaw1_MoneyNearest.j0 k a0 a1 a2 (a2 == 0)) else (arrearslaw1_MoneyNearest.j0 k a0 a1 a2 true)) = some r := H
        have A9 := Aside0.mk A90
        clear A90
        by_cases c10 : t181 = true
        · subst c10
          have H1 : (arrearslaw1_MoneyNearest.j0 k a0 a1 a2 (a2 == 0)) = some r := by rw [if_pos rfl] at H; exact H
          clear H
          have H := H1
          clear H1
          have H' := Aside0.mk H
          clear H
          go_wp2_with (first | ((with_reducible refine gate_callee (f := 18) rfl ?_); refine goesL_ (some 11) rfl rfl Try.func18 (by kernel_rfl) rfl #[.int .i64 a0] rfl (by (try simp only [List.map_toArray, List.map_cons, List.map_nil]); first | done | rfl | (simp only [List.length_drop, List.length_take]; rfl)) ?_; (with_reducible refine (arrearslaw1_small.calls a0 true _ A5.out).mono ?_); rintro e w' ⟨rfl, ⟨nd, rfl⟩⟩; refine ⟨_, rfl, ?_⟩) | (go_at_call 18; (with_reducible refine (arrearslaw1_small.calls a1 true _ A7.out).mono ?_); rintro e w' ⟨rfl, ⟨nd, rfl⟩⟩) | (go_at_call 18; (with_reducible refine (arrearslaw1_small.calls a2 true _ A9.out).mono ?_); rintro e w' ⟨rfl, ⟨nd, rfl⟩⟩))
          go_meet
          case rel => exact ⟨_, ((a2 == 0)), (by first | rfl | (simp; done) | (simp [*]; done)), H', ⟨by first | omega | exact Nat.le_refl _⟩, by repeat (first | exact Drawn0.refl _ | apply Drawn0.step)⟩
        · replace c10 := Bool.eq_false_iff.mpr c10
          subst c10
          have H1 : (arrearslaw1_MoneyNearest.j0 k a0 a1 a2 true) = some r := by rw [if_neg (show ¬ (false = true) by decide)] at H; exact H
          clear H
          have H := H1
          clear H1
          have H' := Aside0.mk H
          clear H
          go_wp2_with (first | ((with_reducible refine gate_callee (f := 18) rfl ?_); refine goesL_ (some 11) rfl rfl Try.func18 (by kernel_rfl) rfl #[.int .i64 a0] rfl (by (try simp only [List.map_toArray, List.map_cons, List.map_nil]); first | done | rfl | (simp only [List.length_drop, List.length_take]; rfl)) ?_; (with_reducible refine (arrearslaw1_small.calls a0 true _ A5.out).mono ?_); rintro e w' ⟨rfl, ⟨nd, rfl⟩⟩; refine ⟨_, rfl, ?_⟩) | (go_at_call 18; (with_reducible refine (arrearslaw1_small.calls a1 true _ A7.out).mono ?_); rintro e w' ⟨rfl, ⟨nd, rfl⟩⟩) | (go_at_call 18; (with_reducible refine (arrearslaw1_small.calls a2 false _ A9.out).mono ?_); rintro e w' ⟨rfl, ⟨nd, rfl⟩⟩))
          go_meet
          case rel => exact ⟨_, (true), (by first | rfl | (simp; done) | (simp [*]; done)), H', ⟨by first | omega | exact Nat.le_refl _⟩, by repeat (first | exact Drawn0.refl _ | apply Drawn0.step)⟩
      · replace c8 := Bool.eq_false_iff.mpr c8
        subst c8
        have H1 : (arrearslaw1_MoneyNearest.j0 k a0 a1 a2 true) = some r := by rw [if_neg (show ¬ (false = true) by decide)] at H; exact H
        clear H
        have H := H1
        clear H1
        have H' := Aside0.mk H
        clear H
        go_wp2_with (first | ((with_reducible refine gate_callee (f := 18) rfl ?_); refine goesL_ (some 11) rfl rfl Try.func18 (by kernel_rfl) rfl #[.int .i64 a0] rfl (by (try simp only [List.map_toArray, List.map_cons, List.map_nil]); first | done | rfl | (simp only [List.length_drop, List.length_take]; rfl)) ?_; (with_reducible refine (arrearslaw1_small.calls a0 true _ A5.out).mono ?_); rintro e w' ⟨rfl, ⟨nd, rfl⟩⟩; refine ⟨_, rfl, ?_⟩) | (go_at_call 18; (with_reducible refine (arrearslaw1_small.calls a1 false _ A7.out).mono ?_); rintro e w' ⟨rfl, ⟨nd, rfl⟩⟩))
        go_meet
        case rel => exact ⟨_, (true), (by first | rfl | (simp; done) | (simp [*]; done)), H', ⟨by first | omega | exact Nat.le_refl _⟩, by repeat (first | exact Drawn0.refl _ | apply Drawn0.step)⟩
    · replace c6 := Bool.eq_false_iff.mpr c6
      subst c6
      have H1 : (arrearslaw1_MoneyNearest.j0 k a0 a1 a2 true) = some r := by rw [if_neg (show ¬ (false = true) by decide)] at H; exact H
      clear H
      have H := H1
      clear H1
      have H' := Aside0.mk H
      clear H
      go_wp2_with (first | ((with_reducible refine gate_callee (f := 18) rfl ?_); refine goesL_ (some 11) rfl rfl Try.func18 (by kernel_rfl) rfl #[.int .i64 a0] rfl (by (try simp only [List.map_toArray, List.map_cons, List.map_nil]); first | done | rfl | (simp only [List.length_drop, List.length_take]; rfl)) ?_; (with_reducible refine (arrearslaw1_small.calls a0 false _ A5.out).mono ?_); rintro e w' ⟨rfl, ⟨nd, rfl⟩⟩; refine ⟨_, rfl, ?_⟩))
      go_meet
      case rel => exact ⟨_, (true), (by first | rfl | (simp; done) | (simp [*]; done)), H', ⟨by first | omega | exact Nat.le_refl _⟩, by repeat (first | exact Drawn0.refl _ | apply Drawn0.step)⟩
  case rest =>
    clear HC4
    try clear c1
    try clear p2
    try clear c5
    try clear c6
    try clear c8
    try clear c10
    obtain ⟨kq, x26_3, rfl, HA, HJ3, ⟨mc3, rfl⟩⟩ := hcut
    cases kq with
    | zero => exact absurd HA.out (by simp [arrearslaw1_MoneyNearest.j0])
    | succ kj3 =>
      have H := HA.out
      clear HA
      simp only [arrearslaw1_MoneyNearest.j0] at H
      by_cases c11 : x26_3 = true
      · subst c11
        have H1 : (some true) = some r := by rw [if_pos rfl] at H; exact H
        clear H
        have H := H1
        clear H1
        obtain rfl := Option.some.inj H
        go_wp2
        go_ret
        exact ⟨by first | rfl | (simp; done) | (simp [*]; done), by repeat (first | exact Drawn0.refl _ | apply Drawn0.step)⟩
      · replace c11 := Bool.eq_false_iff.mpr c11
        subst c11
        have H1 : ((money_MulDiv.f kj3 a0 a1 a2).bind fun bt182 => (if bt182.2 = true then (if bt182.1 < (-1152921504606846976) then (arrearslaw1_MoneyNearest.j1 kj3 a0 a1 a2 bt182.1 true) else (arrearslaw1_MoneyNearest.j1 kj3 a0 a1 a2 bt182.1 (decide (bt182.1 > 1152921504606846976)))) else (arrearslaw1_MoneyNearest.j1 kj3 a0 a1 a2 bt182.1 true))) = some r := by rw [if_neg (show ¬ (false = true) by decide)] at H; exact H
        clear H
        have H := H1
        clear H1
        replace H := Option.bind_eq_some_iff.mp H
        obtain ⟨⟨t182, t183⟩, A120, H⟩ := H
        replace H : (if t183 = true then (if t182 < (-1152921504606846976) then (arrearslaw1_MoneyNearest.j1 kj3 a0 a1 a2 t182 true) else (arrearslaw1_MoneyNearest.j1 kj3 a0 a1 a2 t182 (decide (t182 > 1152921504606846976)))) else (arrearslaw1_MoneyNearest.j1 kj3 a0 a1 a2 t182 true)) = some r := H
        have A12 := Aside0.mk A120
        clear A120
        have HC13 := Aside0.mk H
        clear H
        go_upto_region 4 with (first | ((with_reducible refine gate_callee (f := 19) rfl ?_); refine goesL_ (some 31) rfl rfl Try.func19 (by kernel_rfl) rfl #[.int .i64 a0, .int .i64 a1, .int .i64 a2] rfl (by (try simp only [List.map_toArray, List.map_cons, List.map_nil]); first | done | rfl | (simp only [List.length_drop, List.length_take]; rfl)) ?_; (with_reducible refine (money_MulDiv.calls kj3 a0 a1 a2 t182 t183 _ A12.out).mono ?_); rintro e w' ⟨rfl, ⟨nd, rfl⟩⟩; refine ⟨_, rfl, ?_⟩))
        (try simp only [Act.put, List.setIfInBounds_toArray, List.set_cons_zero, List.set_cons_succ])
        go_cut [43] (fun v43 wc => ∃ (kq : Nat) (x43_12 : Bool), v43 = .bool x43_12 ∧ Aside0 (arrearslaw1_MoneyNearest.j1 kq a0 a1 a2 t182 x43_12 = some r) ∧ Aside0 (kq ≤ kj3) ∧ Drawn0 w wc)
        case first =>
          have H := HC13.out
          clear HC13
          by_cases c14 : t183 = true
          · subst c14
            have H1 : (if t182 < (-1152921504606846976) then (arrearslaw1_MoneyNearest.j1 kj3 a0 a1 a2 t182 true) else (arrearslaw1_MoneyNearest.j1 kj3 a0 a1 a2 t182 (decide (t182 > 1152921504606846976)))) = some r := by rw [if_pos rfl] at H; exact H
            clear H
            have H := H1
            clear H1
            by_cases c15 : t182 < (-1152921504606846976)
            · rw [if_pos c15] at H
              have c15b0 : decide (t182 < (-1152921504606846976)) = true := decide_eq_true c15
              clear c15
              (first | rw [c15b0] | (simp only [i64_w, i32_w]; rw [c15b0]) | skip)
              have H' := Aside0.mk H
              clear H
              go_wp2
              go_meet
              case rel => exact ⟨_, (true), (by first | rfl | (simp; done) | (simp [*]; done)), H', ⟨by have := HJ3.out; first | omega | exact Nat.le_refl _⟩, by repeat (first | exact Drawn0.refl _ | apply Drawn0.step)⟩
            · rw [if_neg c15] at H
              have c15b0 : decide (t182 < (-1152921504606846976)) = false := decide_eq_false c15
              clear c15
              (first | rw [c15b0] | (simp only [i64_w, i32_w]; rw [c15b0]) | skip)
              have H' := Aside0.mk H
              clear H
              go_wp2
              go_meet
              case rel => exact ⟨_, (decide (t182 > 1152921504606846976)), (by first | rfl | (simp; done) | (simp [*]; done)), H', ⟨by have := HJ3.out; first | omega | exact Nat.le_refl _⟩, by repeat (first | exact Drawn0.refl _ | apply Drawn0.step)⟩
          · replace c14 := Bool.eq_false_iff.mpr c14
            subst c14
            have H1 : (arrearslaw1_MoneyNearest.j1 kj3 a0 a1 a2 t182 true) = some r := by rw [if_neg (show ¬ (false = true) by decide)] at H; exact H
            clear H
            have H := H1
            clear H1
            have H' := Aside0.mk H
            clear H
            go_wp2
            go_meet
            case rel => exact ⟨_, (true), (by first | rfl | (simp; done) | (simp [*]; done)), H', ⟨by have := HJ3.out; first | omega | exact Nat.le_refl _⟩, by repeat (first | exact Drawn0.refl _ | apply Drawn0.step)⟩
        case rest =>
          clear HC13
          try clear c1
          try clear p2
          try clear c3
          try clear c5
          try clear c6
          try clear c8
          try clear c10
          try clear c11
          try clear c14
          try clear c15
          try clear c15b0
          try clear p2
          obtain ⟨kq, x43_12, rfl, HA, HJ12, ⟨mc12, rfl⟩⟩ := hcut
          cases kq with
          | zero => exact absurd HA.out (by simp [arrearslaw1_MoneyNearest.j1])
          | succ kj12 =>
            have H := HA.out
            clear HA
            simp only [arrearslaw1_MoneyNearest.j1] at H
            by_cases c16 : x43_12 = true
            · subst c16
              have H1 : (some false) = some r := by rw [if_pos rfl] at H; exact H
              clear H
              have H := H1
              clear H1
              obtain rfl := Option.some.inj H
              go_wp2
              go_ret
              exact ⟨by first | rfl | (simp; done) | (simp [*]; done), by repeat (first | exact Drawn0.refl _ | apply Drawn0.step)⟩
            · replace c16 := Bool.eq_false_iff.mpr c16
              subst c16
              have H1 : (if a2 < 0 then (arrearslaw1_MoneyNearest.j2 kj12 (wrap64 (-a0)) a1 (wrap64 (-a2)) t182) else (arrearslaw1_MoneyNearest.j2 kj12 a0 a1 a2 t182)) = some r := by rw [if_neg (show ¬ (false = true) by decide)] at H; exact H
              clear H
              have H := H1
              clear H1
              have HC17 := Aside0.mk H
              clear H
              go_upto_if 45 with (fail)
              go_cut [0, 2] (fun v0 v2 wc => ∃ (kq : Nat) (x0_16 : Int) (x2_16 : Int), v0 = .int .i64 x0_16 ∧ v2 = .int .i64 x2_16 ∧ Aside0 (arrearslaw1_MoneyNearest.j2 kq x0_16 a1 x2_16 t182 = some r) ∧ Aside0 (kq ≤ kj12) ∧ Drawn0 w wc)
              case first =>
                have H := HC17.out
                clear HC17
                by_cases c18 : a2 < 0
                · rw [if_pos c18] at H
                  have c18b0 : decide (a2 < 0) = true := decide_eq_true c18
                  clear c18
                  (first | rw [c18b0] | (simp only [i64_w, i32_w]; rw [c18b0]) | skip)
                  have H' := Aside0.mk H
                  clear H
                  go_wp2
                  go_meet
                  case rel => exact ⟨_, (wrap64 (-a0)), (wrap64 (-a2)), (by first | rfl | (simp; done) | (simp [*]; done)), (by first | rfl | (simp; done) | (simp [*]; done)), H', ⟨by have := HJ3.out; have := HJ12.out; first | omega | exact Nat.le_refl _⟩, by repeat (first | exact Drawn0.refl _ | apply Drawn0.step)⟩
                · rw [if_neg c18] at H
                  have c18b0 : decide (a2 < 0) = false := decide_eq_false c18
                  clear c18
                  (first | rw [c18b0] | (simp only [i64_w, i32_w]; rw [c18b0]) | skip)
                  have H' := Aside0.mk H
                  clear H
                  go_wp2
                  go_meet
                  case rel => exact ⟨_, (a0), (a2), (by first | rfl | (simp; done) | (simp [*]; done)), (by first | rfl | (simp; done) | (simp [*]; done)), H', ⟨by have := HJ3.out; have := HJ12.out; first | omega | exact Nat.le_refl _⟩, by repeat (first | exact Drawn0.refl _ | apply Drawn0.step)⟩
              case rest =>
                clear HC17
                try clear c1
                try clear p2
                try clear c3
                try clear c5
                try clear c6
                try clear p6
                try clear c8
                try clear c10
                try clear c11
                try clear c12
                try clear c14
                try clear c15
                try clear c15b0
                try clear c16
                try clear c18
                try clear c18b0
                try clear p2
                obtain ⟨kq, x0_16, x2_16, rfl, rfl, HA, HJ16, ⟨mc16, rfl⟩⟩ := hcut
                cases kq with
                | zero => exact absurd HA.out (by simp [arrearslaw1_MoneyNearest.j2])
                | succ kj16 =>
                  have H := HA.out
                  clear HA
                  simp only [arrearslaw1_MoneyNearest.j2] at H
                  have HC19 := Aside0.mk H
                  clear H
                  go_upto_region 9 with (fail)
                  go_cut [67] (fun v67 wc => ∃ (kq : Nat) (x67_18 : Bool), v67 = .bool x67_18 ∧ Aside0 (arrearslaw1_MoneyNearest.j3 kq x0_16 a1 x2_16 t182 x67_18 = some r) ∧ Aside0 (kq ≤ kj16) ∧ Drawn0 w wc)
                  case first =>
                    have H := HC19.out
                    clear HC19
                    by_cases c20 : x2_16 = 0
                    · rw [if_pos c20] at H
                      exact absurd H (by simp)
                    · rw [if_neg c20] at H
                      have c20b0 : (x2_16 == 0) = false := beq_eq_false_iff_ne.mpr c20
                      have c20b1 : (x2_16 != 0) = true := bne_iff_ne.mpr c20
                      (first | rw [c20b0] | (simp only [i64_w, i32_w]; rw [c20b0]) | skip)
                      by_cases c21 : t182 > (wrap64 ((wrap64 (Int.tdiv (wrap64 (x0_16 * a1)) x2_16)) + 1))
                      · rw [if_pos c21] at H
                        have c21b0 : decide ((wrap64 ((wrap64 (Int.tdiv (wrap64 (x0_16 * a1)) x2_16)) + 1)) < t182) = true := decide_eq_true c21
                        clear c21
                        have H' := Aside0.mk H
                        clear H
                        go_wp2
                        go_meet
                        case rel => exact ⟨_, (true), (by first | rfl | (simp; done) | (simp [*]; done)), H', ⟨by have := HJ3.out; have := HJ12.out; have := HJ16.out; first | omega | exact Nat.le_refl _⟩, by repeat (first | exact Drawn0.refl _ | apply Drawn0.step)⟩
                      · rw [if_neg c21] at H
                        have c21b0 : decide ((wrap64 ((wrap64 (Int.tdiv (wrap64 (x0_16 * a1)) x2_16)) + 1)) < t182) = false := decide_eq_false c21
                        clear c21
                        have H' := Aside0.mk H
                        clear H
                        go_wp2
                        go_meet
                        case rel => exact ⟨_, (decide (t182 < (wrap64 ((wrap64 (Int.tdiv (wrap64 (x0_16 * a1)) x2_16)) - 1)))), (by first | rfl | (simp; done) | (simp [*]; done)), H', ⟨by have := HJ3.out; have := HJ12.out; have := HJ16.out; first | omega | exact Nat.le_refl _⟩, by repeat (first | exact Drawn0.refl _ | apply Drawn0.step)⟩
                  case rest =>
                    clear HC19
                    try clear c1
                    try clear c2
                    try clear p2
                    try clear c3
                    try clear c5
                    try clear c6
                    try clear p6
                    try clear c8
                    try clear c10
                    try clear c11
                    try clear c12
                    try clear c14
                    try clear c15
                    try clear c15b0
                    try clear c16
                    try clear c18
                    try clear c18b0
                    try clear c19
                    try clear c20
                    try clear c20b0
                    try clear c20b1
                    try clear c21
                    try clear c21b0
                    try clear p2
                    try clear p6
                    obtain ⟨kq, x67_18, rfl, HA, HJ18, ⟨mc18, rfl⟩⟩ := hcut
                    cases kq with
                    | zero => exact absurd HA.out (by simp [arrearslaw1_MoneyNearest.j3])
                    | succ kj18 =>
                      have H := HA.out
                      clear HA
                      simp only [arrearslaw1_MoneyNearest.j3] at H
                      by_cases c22 : x67_18 = true
                      · subst c22
                        have H1 : (some false) = some r := by rw [if_pos rfl] at H; exact H
                        clear H
                        have H := H1
                        clear H1
                        obtain rfl := Option.some.inj H
                        go_wp2
                        go_ret
                        exact ⟨by first | rfl | (simp; done) | (simp [*]; done), by repeat (first | exact Drawn0.refl _ | apply Drawn0.step)⟩
                      · replace c22 := Bool.eq_false_iff.mpr c22
                        subst c22
                        have H1 : (if (wrap64 (2 * (wrap64 ((wrap64 (x0_16 * a1)) - (wrap64 (t182 * x2_16)))))) = x2_16 then (some ((Int.tmod t182 2) == 0)) else (if (wrap64 (2 * (wrap64 ((wrap64 (x0_16 * a1)) - (wrap64 (t182 * x2_16)))))) = (wrap64 (-x2_16)) then (some ((Int.tmod t182 2) == 0)) else (if (wrap64 (2 * (wrap64 ((wrap64 (x0_16 * a1)) - (wrap64 (t182 * x2_16)))))) < x2_16 then (some (decide ((wrap64 (2 * (wrap64 ((wrap64 (x0_16 * a1)) - (wrap64 (t182 * x2_16)))))) > (wrap64 (-x2_16))))) else (some false)))) = some r := by rw [if_neg (show ¬ (false = true) by decide)] at H; exact H
                        clear H
                        have H := H1
                        clear H1
                        by_cases c23 : (wrap64 (2 * (wrap64 ((wrap64 (x0_16 * a1)) - (wrap64 (t182 * x2_16)))))) = x2_16
                        · rw [if_pos c23] at H
                          have c23b0 : ((wrap64 (2 * (wrap64 ((wrap64 (x0_16 * a1)) - (wrap64 (t182 * x2_16)))))) == x2_16) = true := beq_iff_eq.mpr c23
                          have c23b1 : ((wrap64 (2 * (wrap64 ((wrap64 (x0_16 * a1)) - (wrap64 (t182 * x2_16)))))) != x2_16) = false := bne_eq_false_iff_eq.mpr c23
                          clear c23
                          obtain rfl := Option.some.inj H
                          go_wp2
                          go_ret
                          exact ⟨by first | rfl | (simp; done) | (simp [*]; done), by repeat (first | exact Drawn0.refl _ | apply Drawn0.step)⟩
                        · rw [if_neg c23] at H
                          have c23b0 : ((wrap64 (2 * (wrap64 ((wrap64 (x0_16 * a1)) - (wrap64 (t182 * x2_16)))))) == x2_16) = false := beq_eq_false_iff_ne.mpr c23
                          have c23b1 : ((wrap64 (2 * (wrap64 ((wrap64 (x0_16 * a1)) - (wrap64 (t182 * x2_16)))))) != x2_16) = true := bne_iff_ne.mpr c23
                          by_cases c24 : (wrap64 (2 * (wrap64 ((wrap64 (x0_16 * a1)) - (wrap64 (t182 * x2_16)))))) = (wrap64 (-x2_16))
                          · rw [if_pos c24] at H
                            have c24b0 : ((wrap64 (2 * (wrap64 ((wrap64 (x0_16 * a1)) - (wrap64 (t182 * x2_16)))))) == (wrap64 (-x2_16))) = true := beq_iff_eq.mpr c24
                            have c24b1 : ((wrap64 (2 * (wrap64 ((wrap64 (x0_16 * a1)) - (wrap64 (t182 * x2_16)))))) != (wrap64 (-x2_16))) = false := bne_eq_false_iff_eq.mpr c24
                            clear c24
                            obtain rfl := Option.some.inj H
                            go_wp2
                            go_ret
                            exact ⟨by first | rfl | (simp; done) | (simp [*]; done), by repeat (first | exact Drawn0.refl _ | apply Drawn0.step)⟩
                          · rw [if_neg c24] at H
                            have c24b0 : ((wrap64 (2 * (wrap64 ((wrap64 (x0_16 * a1)) - (wrap64 (t182 * x2_16)))))) == (wrap64 (-x2_16))) = false := beq_eq_false_iff_ne.mpr c24
                            have c24b1 : ((wrap64 (2 * (wrap64 ((wrap64 (x0_16 * a1)) - (wrap64 (t182 * x2_16)))))) != (wrap64 (-x2_16))) = true := bne_iff_ne.mpr c24
                            by_cases c25 : (wrap64 (2 * (wrap64 ((wrap64 (x0_16 * a1)) - (wrap64 (t182 * x2_16)))))) < x2_16
                            · rw [if_pos c25] at H
                              have c25b0 : decide ((wrap64 (2 * (wrap64 ((wrap64 (x0_16 * a1)) - (wrap64 (t182 * x2_16)))))) < x2_16) = true := decide_eq_true c25
                              clear c25
                              obtain rfl := Option.some.inj H
                              go_wp2
                              go_ret
                              exact ⟨by first | rfl | (simp; done) | (simp [*]; done), by repeat (first | exact Drawn0.refl _ | apply Drawn0.step)⟩
                            · rw [if_neg c25] at H
                              have c25b0 : decide ((wrap64 (2 * (wrap64 ((wrap64 (x0_16 * a1)) - (wrap64 (t182 * x2_16)))))) < x2_16) = false := decide_eq_false c25
                              clear c25
                              obtain rfl := Option.some.inj H
                              go_wp2
                              go_ret
                              exact ⟨by first | rfl | (simp; done) | (simp [*]; done), by repeat (first | exact Drawn0.refl _ | apply Drawn0.step)⟩

/-- THE ONE PURE STATEMENT of arrearslaw1_MoneyNearest: yours. -/
def arrearslaw1_MoneyNearest.Pure : Prop := ∀ (a0 : Int) (a1 : Int) (a2 : Int), (Lit.int .i64 a0).wf = true → (Lit.int .i64 a1).wf = true → (Lit.int .i64 a2).wf = true → ∃ k, arrearslaw1_MoneyNearest.f k a0 a1 a2 = some true
theorem arrearslaw1_MoneyNearest.walk (P : arrearslaw1_MoneyNearest.Pure) (a0 : Int) (a1 : Int) (a2 : Int) (w : World) (w0 : (Lit.int .i64 a0).wf = true) (w1 : (Lit.int .i64 a1).wf = true) (w2 : (Lit.int .i64 a2).wf = true) :
    Calls Try.prog 5 #[.int .i64 a0, .int .i64 a1, .int .i64 a2] w fun e w' => e = .returned (.bool true) ∧ Below w.heap.size w w' := by
  obtain ⟨k, h⟩ := P a0 a1 a2 w0 w1 w2
  refine (arrearslaw1_MoneyNearest.calls k a0 a1 a2 true w h).mono ?_
  rintro e w' ⟨rfl, hd⟩
  exact ⟨rfl, hd.below⟩

/-! ### arrearsref1_size: function 36 -/
def arrearsref1_size.f (a0 : Int) : Option (Int) := if a0 < 0 then (some (IntKind.u64.wrap ((IntKind.u64.wrap (wrap64 (-(wrap64 (a0 + 1))))) + 1))) else (some (IntKind.u64.wrap (a0)))
set_option maxHeartbeats 8000000 in
set_option maxRecDepth 100000 in
theorem arrearsref1_size.calls (a0 : Int) (r : Int) (w : World) (h : arrearsref1_size.f a0 = some r) :
    Calls Try.prog 36 #[.int .i64 a0] w fun e w' => e = .returned (.int .u64 r) ∧ Drawn0 w w' := by
  have H : (if a0 < 0 then (some (IntKind.u64.wrap ((IntKind.u64.wrap (wrap64 (-(wrap64 (a0 + 1))))) + 1))) else (some (IntKind.u64.wrap (a0)))) = some r := h
  clear h
  by_cases c2 : a0 < 0
  · rw [if_pos c2] at H
    have c2b0 : decide (a0 < 0) = true := decide_eq_true c2
    clear c2
    obtain rfl := Option.some.inj H
    go_enter Try.func36, Try.ntmps36
    go_wp2
    go_ret
    exact ⟨by first | rfl | (simp; done) | (simp [*]; done), by repeat (first | exact Drawn0.refl _ | apply Drawn0.step)⟩
  · rw [if_neg c2] at H
    have c2b0 : decide (a0 < 0) = false := decide_eq_false c2
    clear c2
    obtain rfl := Option.some.inj H
    go_enter Try.func36, Try.ntmps36
    go_wp2
    go_ret
    exact ⟨by first | rfl | (simp; done) | (simp [*]; done), by repeat (first | exact Drawn0.refl _ | apply Drawn0.step)⟩

end Go.Proofs.Ytfofcgflamidhaa.PAll
