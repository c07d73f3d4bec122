/- InterestCheaper: a month more never makes the level payment greater, a cent more of principal never less. This text is the part over numbers alone. -/
import Derived.Test.YtcaeaklbglhghaaLILevel
import Derived.Test.YtcaeaklbglhghaaPLx5
import Derived.Test.YtcaeaklbglhghaaPLx4
namespace Go.Proofs.Ytcaeaklbglhghaa.Pure
open Go.RowKit Go.Proofs.Ytcaeaklbglhghaa.PL Go.Proofs.YtcaeaklbglhghaaW.PrintWords Go.Proofs.YtcaeaklbglhghaaW.PrintLast Go.Proofs.Ytcaeaklbglhghaa.LMB Go.Proofs.Ytcaeaklbglhghaa.LIMonth Go.Proofs.Ytcaeaklbglhghaa.LILevel
set_option linter.unusedVariables false

theorem lending_cheap (b r c : Int) : arrearslaw3_lending.f b r c = some (decide ((1 ≤ b ∧ b ≤ 10000000000000) ∧ (0 ≤ r ∧ r ≤ 100000) ∧ 1 ≤ c ∧ c ≤ 120)) := by
  unfold arrearslaw3_lending.f
  repeat' split
  all_goals
    congr 1
    first | exact (decide_eq_decide.mpr (by omega)) | exact (decide_eq_false (by omega)).symm
theorem InterestCheaper : arrearslaw3_InterestCheaper.Pure := by
  intro b r c hb hr hc
  have out : ∀ k, arrearslaw3_InterestCheaper.j0 (k + 1) b r c true = some true := fun k => by simp only [arrearslaw3_InterestCheaper.j0]; rw [if_pos True.intro]
  by_cases m : (1 ≤ b ∧ b ≤ 10000000000000) ∧ (0 ≤ r ∧ r ≤ 100000) ∧ 1 ≤ c ∧ c ≤ 120
  · have wb : wrap64 (b + 1) = b + 1 := w64 (by omega) (by omega)
    have wc : wrap64 (c + 1) = c + 1 := w64 (by omega) (by omega)
    by_cases g : (1 ≤ b + 1 ∧ b + 1 ≤ 10000000000000) ∧ (0 ≤ r ∧ r ≤ 100000) ∧ 1 ≤ c + 1 ∧ c + 1 ≤ 120
    · have m' := m
      obtain ⟨⟨m0, m1⟩, ⟨m2, m3⟩, m4, m5⟩ := m
      obtain ⟨n, rfl⟩ := Int.eq_ofNat_of_zero_le (show 0 ≤ c by omega)
      obtain ⟨p, e1, p1, p2, p3, p4⟩ := level_yes b r n m2 m3 (by omega) (by omega) (by omega) m0 (by omega) (great_pays b r n m2 m3 m0 (by omega) (by omega))
      obtain ⟨q, e2, q1, q2, q3, q4⟩ := level_yes b r (n + 1) m2 m3 (by omega) (by omega) (by omega) m0 (by omega) (great_pays b r (n + 1) m2 m3 m0 (by omega) (by omega))
      obtain ⟨s, e3, s1, s2, s3, s4⟩ := level_yes (b + 1) r n m2 m3 (by omega) (by omega) (by omega) (by omega) (by omega) (great_pays (b + 1) r n m2 m3 (by omega) (by omega) (by omega))
      have qp : q ≤ p := by
        rcases Int.lt_or_le p q with z | z
        · have := q4 p p1 z
          rw [pay_more r m2 m3 n p b p3] at this
          cases this
        · exact z
      have ps : p ≤ s := by
        rcases Int.lt_or_le s p with z | z
        · have := p4 s s1 z
          rw [pay_mono r m2 m3 n s s (b + 1) b (Int.le_refl _) (by omega) s3] at this
          cases this
        · exact z
      obtain ⟨K1, h1⟩ := Ev_out e1
      obtain ⟨K2, h2⟩ := Ev_out e2
      obtain ⟨K3, h3⟩ := Ev_out e3
      rw [Int.natCast_succ] at h2
      refine ⟨K1 + K2 + K3 + 1, ?_⟩
      simp only [arrearslaw3_InterestCheaper.f]
      rw [lending_cheap, decide_eq_true m', Option.bind_some, if_pos rfl, wb, wc, lending_cheap, decide_eq_true g, Option.bind_some]
      simp only [Bool.not_true, arrearslaw3_InterestCheaper.j0]
      rw [if_neg (by decide), wb, wc, h1 _ (by omega), h2 _ (by omega), h3 _ (by omega)]
      simp only [Option.bind_some, if_true]
      rw [if_pos (by omega), if_pos (by omega), if_pos (by omega), decide_eq_true (by omega)]
    · refine ⟨1, ?_⟩
      simp only [arrearslaw3_InterestCheaper.f]
      rw [lending_cheap, decide_eq_true m, Option.bind_some, if_pos rfl, wb, wc, lending_cheap, decide_eq_false g, Option.bind_some]
      exact out 0
  · refine ⟨1, ?_⟩
    simp only [arrearslaw3_InterestCheaper.f]
    rw [lending_cheap, decide_eq_false m, Option.bind_some, if_neg Bool.false_ne_true]
    exact out 0

end Go.Proofs.Ytcaeaklbglhghaa.Pure
