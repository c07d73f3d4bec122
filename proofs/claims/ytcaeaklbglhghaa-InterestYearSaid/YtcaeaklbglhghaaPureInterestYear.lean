/- InterestYear: 365 days earn the rate itself, so many ten-thousandths of the principal, by layer 1's MulDivFloor. This text is the part over numbers alone. -/
import Derived.Test.YtcaeaklbglhghaaISpan
import Derived.Test.YtcaeaklbglhghaaPAx4
import Derived.Test.YtcaeaklbglhghaaPAx2
namespace Go.Proofs.Ytcaeaklbglhghaa.Pure
open Go.RowKit Go.Proofs.Ytcaeaklbglhghaa.PA Go.Proofs.YtcaeaklbglhghaaW.PrintWords Go.Proofs.YtcaeaklbglhghaaW.PrintLast Go.Proofs.Ytcaeaklbglhghaa.MB Go.Proofs.Ytcaeaklbglhghaa.MMul Go.Proofs.Ytcaeaklbglhghaa.ISpan

theorem earning_year (p r c : Int) : arrearslaw3_earning.f p r c = some (decide (0 ≤ p ∧ (0 ≤ r ∧ r ≤ 100000) ∧ 0 ≤ c ∧ c < 3650000)) := by
  unfold arrearslaw3_earning.f
  repeat' split
  all_goals
    congr 1
    first | exact (decide_eq_decide.mpr (by omega)) | exact (decide_eq_false (by omega)).symm
theorem InterestYear : arrearslaw3_InterestYear.Pure := by
  intro p r hp hr
  replace hp := I64.of hp
  replace hr := I64.of hr
  by_cases m : 0 ≤ p ∧ (0 ≤ r ∧ r ≤ 100000) ∧ 0 ≤ (0 : Int) ∧ (0 : Int) < 3650000
  · obtain ⟨K1, h1⟩ := Ev_out (span_ev 1234567 1000 0 365 (by unfold I64; omega))
    obtain ⟨K2, h2⟩ := Ev_out (span_ev p r 0 365 hp)
    obtain ⟨K3, h3⟩ := Ev_out (floor_ev p r 10000 hp hr (by unfold I64; omega))
    have e1 : span 1234567 1000 0 365 = (123456, 2555000, true) := by decide
    have e2 : span p r 0 365 = spanN (p * r * 365) := by
      unfold span
      rw [if_pos (by unfold may; omega), Int.add_zero, Int.mul_assoc]
    have e3 : mfloor p r 10000 = if -9223372036854775808 ≤ p * r / 10000 ∧ p * r / 10000 ≤ 9223372036854775807 then (p * r / 10000, p * r % 10000, true) else (0, 0, false) := by unfold mfloor; rw [if_neg (by omega)]
    have n0 : 0 ≤ p * r := Int.mul_nonneg m.1 m.2.1.1
    rw [e1] at h1
    rw [e2] at h2
    rw [e3] at h3
    refine ⟨K1 + K2 + K3 + 1, ?_⟩
    simp only [arrearslaw3_InterestYear.f]
    rw [earning_year, decide_eq_true m, Option.bind_some, if_pos rfl, h1 _ (by omega), Option.bind_some, if_pos rfl, if_pos rfl]
    simp only [arrearslaw3_InterestYear.j0]
    rw [if_neg (by decide), h2 _ (by omega), Option.bind_some, h3 _ (by omega), Option.bind_some]
    unfold spanN
    generalize p * r = n at n0 ⊢
    by_cases f : -9223372036854775808 ≤ n / 10000 ∧ n / 10000 ≤ 9223372036854775807
    · rw [if_pos f, if_pos (show n * 365 / 3650000 ≤ 9223372036854775807 by omega), if_pos rfl, if_pos rfl]
      simp only []
      rw [if_pos (by omega), w64 (by omega) (by omega)]
      congr 1
      rw [beq_iff_eq]
      omega
    · rw [if_neg f, if_neg (show ¬ n * 365 / 3650000 ≤ 9223372036854775807 by omega), if_neg Bool.false_ne_true]
      rfl
  · refine ⟨0, ?_⟩
    simp only [arrearslaw3_InterestYear.f]
    rw [earning_year, decide_eq_false m, Option.bind_some, if_neg Bool.false_ne_true]

end Go.Proofs.Ytcaeaklbglhghaa.Pure
