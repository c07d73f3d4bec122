/- The document's Span, Daily and Month answer the same numbers. Plain Lean over the printed functions. -/
import Derived.Test.YtcaeaklbglhghaaISpan
import Derived.Test.YtcaeaklbglhghaaPAx4
import Derived.Test.YtcaeaklbglhghaaPAx2
namespace Go.Proofs.Ytcaeaklbglhghaa.IRef
open Go.RowKit Go.Proofs.Ytcaeaklbglhghaa.PA Go.Proofs.YtcaeaklbglhghaaW.PrintWords Go.Proofs.YtcaeaklbglhghaaW.PrintLast Go.Proofs.YtcaeaklbglhghaaW.PrintMore Go.Proofs.Ytcaeaklbglhghaa.MB Go.Proofs.Ytcaeaklbglhghaa.MMul Go.Proofs.Ytcaeaklbglhghaa.ISpan
set_option linter.unusedVariables false
set_option linter.unusedSectionVars false
set_option linter.unusedSimpArgs false

theorem refRate_eq (x : Int) : arrearsref3_isRate.f x = some (decide (0 ≤ x ∧ x ≤ 100000)) := by
  unfold arrearsref3_isRate.f
  by_cases c : x ≥ 0
  · rw [if_pos c]
    congr 1
    by_cases c2 : x ≤ 100000
    · rw [decide_eq_true c2, decide_eq_true (by omega)]
    · rw [decide_eq_false c2, decide_eq_false (by omega)]
  · rw [if_neg c, decide_eq_false (by omega)]
theorem refSpan_in (p r c d : Int) (hp : I64 p) (h : may p r c d) (k : Nat) : arrearsref3_Span.j0 (k + 1) p r c d false = some (spanN (p * (r * d) + c)) := by
  obtain ⟨h1, ⟨h2, h3⟩, h4, h5, h6, h7⟩ := h
  unfold I64 at hp
  obtain ⟨w, hw⟩ : ∃ w, w = p / 3650000 := ⟨_, rfl⟩
  obtain ⟨m, hm⟩ : ∃ m, m = p % 3650000 := ⟨_, rfl⟩
  have A := mul_bd (show 0 ≤ m by omega) (show m ≤ 3649999 by omega) h2 h3
  have B := mul_bd A.1 A.2 h6 h7
  have E := mul_bd (show 0 ≤ w by omega) (show w ≤ 2526951242973 by omega) h2 h3
  have F : 0 ≤ w * r * d := Int.mul_nonneg E.1 h6
  have id : p * (r * d) = w * r * d * 3650000 + m * r * d := by
    have ep : p = w * 3650000 + m := by omega
    rw [ep, Int.add_mul, ← Int.mul_assoc m, Int.mul_assoc w, Int.mul_comm 3650000 (r * d), ← Int.mul_assoc w, ← Int.mul_assoc w]
  have q0 : 0 ≤ (m * r * d + c) / 3650000 := by omega
  simp only [arrearsref3_Span.j0]
  rw [if_neg (by decide), Int.tdiv_eq_ediv_of_nonneg h1, Int.tmod_eq_emod_of_nonneg h1, ← hw, ← hm, w64 (x := w) (by omega) (by omega), w64 (x := w * r) (by omega) (by omega), w64 (x := m * r) (by omega) (by omega), w64 (x := m * r * d) (by omega) (by omega),
    w64 (x := m * r * d + c) (by omega) (by omega), Int.tdiv_eq_ediv_of_nonneg (a := m * r * d + c) (by omega), Int.tmod_eq_emod_of_nonneg (a := m * r * d + c) (by omega), w64 (x := (m * r * d + c) / 3650000) (by omega) (by omega), w64 (x := 9223372036854775807 - (m * r * d + c) / 3650000) (by omega) (by omega),
    Int.tdiv_eq_ediv_of_nonneg (a := 9223372036854775807 - (m * r * d + c) / 3650000) (by omega)]
  unfold spanN
  rw [id]
  have good : ∀ (_ : w * r * d ≤ 9223372036854775807 - (m * r * d + c) / 3650000), (some (wrap64 (wrap64 (w * r * d) + (m * r * d + c) / 3650000), (m * r * d + c) % 3650000, true) : Option (Int × Int × Bool)) = some (if (w * r * d * 3650000 + m * r * d + c) / 3650000 ≤ 9223372036854775807 then ((w * r * d * 3650000 + m * r * d + c) / 3650000, (w * r * d * 3650000 + m * r * d + c) % 3650000, true) else (0, 0, false)) := by
    intro g
    rw [w64 (x := w * r * d) (by omega) (by omega), w64 (by omega) (by omega), if_pos (by omega)]
    congr 2
    · omega
    · congr 1
      omega
  by_cases z : d > 0
  · have t0 : 0 ≤ (9223372036854775807 - (m * r * d + c) / 3650000) / d := Int.ediv_nonneg (by omega) (by omega)
    have t1 : (9223372036854775807 - (m * r * d + c) / 3650000) / d ≤ 9223372036854775807 - (m * r * d + c) / 3650000 := Int.ediv_le_self _ (by omega)
    rw [if_pos z, if_neg (by omega), w64 (x := (9223372036854775807 - (m * r * d + c) / 3650000) / d) (by omega) (by omega)]
    by_cases g : w * r > (9223372036854775807 - (m * r * d + c) / 3650000) / d
    · have := (Int.ediv_lt_iff_lt_mul z).mp g
      rw [if_pos g, if_neg (by omega)]
    · have : w * r * d ≤ 9223372036854775807 - (m * r * d + c) / 3650000 := (Int.le_ediv_iff_mul_le z).mp (by omega)
      rw [if_neg g]
      exact good this
  · have dz : d = 0 := by omega
    rw [if_neg z]
    refine good ?_
    rw [dz, Int.mul_zero, Int.mul_zero]
    omega
theorem refSpan_ev (p r c d : Int) (hp : I64 p) : Ev (fun k => arrearsref3_Span.f k p r c d) (span p r c d) := by
  have no : Ev (fun k => arrearsref3_Span.j0 k p r c d true) ((0 : Int), (0 : Int), false) := Ev_one (fun k => by simp only [arrearsref3_Span.j0]; rw [if_pos True.intro])
  unfold span
  by_cases c1 : p < 0
  · rw [if_neg (fun h => by unfold may at h; omega)]
    exact Ev.congr (fun k => by simp only [arrearsref3_Span.f]; rw [if_pos c1]) no
  · by_cases c2 : 0 ≤ r ∧ r ≤ 100000
    · by_cases c3 : c < 0
      · rw [if_neg (fun h => by unfold may at h; omega)]
        exact Ev.congr (fun k => by simp only [arrearsref3_Span.f]; rw [if_neg c1, refRate_eq, decide_eq_true c2, Option.bind_some, if_pos rfl, if_pos c3]) no
      · by_cases c4 : c ≥ 3650000
        · rw [if_neg (fun h => by unfold may at h; omega)]
          exact Ev.congr (fun k => by simp only [arrearsref3_Span.f]; rw [if_neg c1, refRate_eq, decide_eq_true c2, Option.bind_some, if_pos rfl, if_neg c3, if_pos c4]) no
        · by_cases c5 : d < 0
          · rw [if_neg (fun h => by unfold may at h; omega)]
            exact Ev.congr (fun k => by simp only [arrearsref3_Span.f]; rw [if_neg c1, refRate_eq, decide_eq_true c2, Option.bind_some, if_pos rfl, if_neg c3, if_neg c4, if_pos c5]) no
          · by_cases c6 : d > 3652059
            · rw [if_neg (fun h => by unfold may at h; omega)]
              exact Ev.congr (fun k => by simp only [arrearsref3_Span.f]; rw [if_neg c1, refRate_eq, decide_eq_true c2, Option.bind_some, if_pos rfl, if_neg c3, if_neg c4, if_neg c5, decide_eq_true c6]) no
            · have m : may p r c d := by unfold may; omega
              rw [if_pos m]
              exact Ev.congr (f := fun k => arrearsref3_Span.j0 k p r c d false) (fun k => by simp only [arrearsref3_Span.f]; rw [if_neg c1, refRate_eq, decide_eq_true c2, Option.bind_some, if_pos rfl, if_neg c3, if_neg c4, if_neg c5, decide_eq_false c6]) (Ev_one (refSpan_in p r c d hp m))
    · rw [if_neg (fun h => by unfold may at h; omega)]
      exact Ev.congr (fun k => by simp only [arrearsref3_Span.f]; rw [if_neg c1, refRate_eq, decide_eq_false c2, Option.bind_some, if_neg Bool.false_ne_true]) no
theorem refmonth_eq (b r : Int) (hb0 : 0 ≤ b) (hb : b ≤ 9223372036854775807) (hr : 0 ≤ r) (hr1 : r ≤ 100000) : arrearsref3_month.f b r = some (month b r) := by
  have mb := month_bd b r hb0 hr hr1
  obtain ⟨p0, p1⟩ := prod_le b r hb0 hr hr1
  obtain ⟨w, hw⟩ : ∃ w, w = b / 120000 := ⟨_, rfl⟩
  obtain ⟨m, hm⟩ : ∃ m, m = b % 120000 := ⟨_, rfl⟩
  have A := mul_bd (show 0 ≤ m by omega) (show m ≤ 119999 by omega) hr hr1
  have E := mul_bd (show 0 ≤ w by omega) (show w ≤ 76861433640457 by omega) hr hr1
  have id : b * r = w * r * 120000 + m * r := by
    have eb : b = w * 120000 + m := by omega
    rw [eb, Int.add_mul, Int.mul_right_comm]
  unfold arrearsref3_month.f
  rw [Int.tdiv_eq_ediv_of_nonneg hb0, Int.tmod_eq_emod_of_nonneg hb0, ← hw, ← hm, w64 (x := w) (by omega) (by omega), w64 (x := w * r) (by omega) (by omega), w64 (x := m * r) (by omega) (by omega), Int.tdiv_eq_ediv_of_nonneg A.1, Int.tmod_eq_emod_of_nonneg A.1]
  unfold month rnd at mb ⊢
  rw [id] at mb ⊢
  generalize m * r = M at A mb ⊢
  generalize w * r = Z at E mb ⊢
  rw [w64 (x := M / 120000) (by omega) (by omega), w64 (x := 2 * (M % 120000)) (by omega) (by omega), w64 (x := Z + M / 120000) (by omega) (by omega), w64 (x := Z + M / 120000 + 1) (by omega) (by omega), Int.tmod_eq_emod_of_nonneg (a := Z + M / 120000) (by omega)]
  have e1 : (Z * 120000 + M) / 120000 = Z + M / 120000 := by omega
  have e2 : (Z * 120000 + M) % 120000 = M % 120000 := by omega
  rw [e1, e2]
  by_cases c1 : 2 * (M % 120000) > 120000
  · rw [if_pos c1, if_pos (show M % 120000 > 120000 - M % 120000 by omega)]
  · rw [if_neg c1, if_neg (show ¬ M % 120000 > 120000 - M % 120000 by omega)]
    by_cases c2 : 2 * (M % 120000) = 120000
    · rw [if_pos c2, if_pos (show M % 120000 = 120000 - M % 120000 by omega)]
      by_cases c3 : (Z + M / 120000) % 2 = 1
      · rw [if_pos c3, if_pos c3]
      · rw [if_neg c3, if_neg c3]
    · rw [if_neg c2, if_neg (show ¬ M % 120000 = 120000 - M % 120000 by omega)]
theorem refMonth_eq (b r : Int) (hb : I64 b) : arrearsref3_Month.f b r = some (monthOk b r) := by
  unfold I64 at hb
  unfold arrearsref3_Month.f monthOk
  by_cases c1 : b < 0
  · rw [if_pos c1, if_neg (by omega)]
  · rw [if_neg c1, refRate_eq]
    by_cases c2 : 0 ≤ r ∧ r ≤ 100000
    · rw [decide_eq_true c2, Option.bind_some, if_pos rfl, refmonth_eq b r (by omega) hb.2 c2.1 c2.2, if_pos ⟨by omega, c2⟩]
      rfl
    · rw [decide_eq_false c2, Option.bind_some, if_neg Bool.false_ne_true, if_neg (fun h => c2 h.2)]

end Go.Proofs.Ytcaeaklbglhghaa.IRef
