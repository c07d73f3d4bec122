/- InterestNearest: a month's interest is the nearest cent to a twelfth of the year's, a half to the even one (balances up to 10^13 cents). This text is the part over numbers alone. -/
import Derived.Test.YtcaeaklbglhghaaISpan
import Derived.Test.YtcaeaklbglhghaaPAx2
namespace Go.Proofs.Ytcaeaklbglhghaa.Pure
open Go.RowKit Go.Proofs.Ytcaeaklbglhghaa.PA Go.Proofs.YtcaeaklbglhghaaW.PrintWords Go.Proofs.YtcaeaklbglhghaaW.PrintLast Go.Proofs.Ytcaeaklbglhghaa.MB Go.Proofs.Ytcaeaklbglhghaa.MMul Go.Proofs.Ytcaeaklbglhghaa.ISpan

theorem earning_near (p r c : Int) : arrearslaw3_earning.f p r c = some (decide (0 ≤ p ∧ (0 ≤ r ∧ r ≤ 100000) ∧ 0 ≤ c ∧ c < 3650000)) := by
  unfold arrearslaw3_earning.f
  repeat' split
  all_goals
    congr 1
    first | exact (decide_eq_decide.mpr (by omega)) | exact (decide_eq_false (by omega)).symm
theorem InterestNearest : arrearslaw3_InterestNearest.Pure := by
  intro b r hb hr
  have out : ∀ k, arrearslaw3_InterestNearest.j0 (k + 1) b r true = some true := fun k => by simp only [arrearslaw3_InterestNearest.j0]; rw [if_pos True.intro]
  by_cases m : 0 ≤ b ∧ (0 ≤ r ∧ r ≤ 100000) ∧ 0 ≤ (0 : Int) ∧ (0 : Int) < 3650000
  · by_cases g : b > 10000000000000
    · refine ⟨1, ?_⟩
      simp only [arrearslaw3_InterestNearest.f]
      rw [earning_near, decide_eq_true m, Option.bind_some, if_pos rfl, decide_eq_true g]
      exact out 0
    · obtain ⟨K, h⟩ := Ev_out (month_ev b r (I64.of hb) (I64.of hr))
      have mb := month_bd b r m.1 m.2.1.1 m.2.1.2
      obtain ⟨p0, p1⟩ := prod_le b r m.1 m.2.1.1 m.2.1.2
      unfold monthOk at h
      rw [if_pos ⟨m.1, m.2.1⟩] at h
      have facts : 2 * (month b r * 120000 - b * r) ≤ 120000 ∧ -120000 ≤ 2 * (month b r * 120000 - b * r) ∧ (2 * (month b r * 120000 - b * r) = 120000 ∨ 2 * (month b r * 120000 - b * r) = -120000 → month b r % 2 = 0) := by
        unfold month rnd
        generalize b * r = n at p0 p1
        repeat' split
        all_goals omega
      obtain ⟨f1, f2, f3⟩ := facts
      generalize month b r = c at h mb f1 f2 f3
      obtain ⟨n, hn⟩ : ∃ n, n = b * r := ⟨_, rfl⟩
      rw [← hn] at p0 p1 f1 f2 f3
      have even : (c % 2 = 0) → (Int.tmod c 2 == 0) = true := fun z => by rw [Int.tmod_eq_emod_of_nonneg mb.1, z]; rfl
      refine ⟨K + 2, ?_⟩
      simp only [arrearslaw3_InterestNearest.f]
      rw [earning_near, decide_eq_true m, Option.bind_some, if_pos rfl, decide_eq_false g]
      simp only [arrearslaw3_InterestNearest.j0]
      rw [if_neg (by decide), h (K + 1) (by omega), Option.bind_some, if_pos rfl]
      simp only []
      rw [if_neg (by omega), decide_eq_false (by omega)]
      simp only [arrearslaw3_InterestNearest.j1]
      rw [if_neg (by decide), ← hn, w64 (x := c * 120000) (by omega) (by omega), w64 (x := n) (by omega) (by omega), w64 (x := c * 120000 - n) (by omega) (by omega), w64 (x := 2 * (c * 120000 - n)) (by omega) (by omega)]
      by_cases c1 : 2 * (c * 120000 - n) = 120000
      · rw [if_pos c1, even (f3 (.inl c1))]
      · rw [if_neg c1]
        by_cases c2 : 2 * (c * 120000 - n) = -120000
        · rw [if_pos c2, even (f3 (.inr c2))]
        · rw [if_neg c2, if_pos (by omega), decide_eq_true (by omega)]
  · refine ⟨1, ?_⟩
    simp only [arrearslaw3_InterestNearest.f]
    rw [earning_near, decide_eq_false m, Option.bind_some, if_neg Bool.false_ne_true]
    exact out 0

end Go.Proofs.Ytcaeaklbglhghaa.Pure
