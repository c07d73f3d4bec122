/- InterestLeast: the level payment pays off in time by the program's own Month, and a cent less does not. This text is the part over numbers alone. -/
import Derived.Test.YtcaeaklbglhghaaLILevel
import Derived.Test.YtcaeaklbglhghaaPLx5
import Derived.Test.YtcaeaklbglhghaaPLx4
namespace Go.Proofs.Ytcaeaklbglhghaa.Pure
open Go.RowKit Go.Proofs.Ytcaeaklbglhghaa.PL Go.Proofs.YtcaeaklbglhghaaW.PrintWords Go.Proofs.YtcaeaklbglhghaaW.PrintLast Go.Proofs.Ytcaeaklbglhghaa.LMB Go.Proofs.Ytcaeaklbglhghaa.LIMonth Go.Proofs.Ytcaeaklbglhghaa.LILevel
set_option linter.unusedVariables false

theorem lending_least (b r c : Int) : arrearslaw3_lending.f b r c = some (decide ((1 ≤ b ∧ b ≤ 10000000000000) ∧ (0 ≤ r ∧ r ≤ 100000) ∧ 1 ≤ c ∧ c ≤ 120)) := by
  unfold arrearslaw3_lending.f
  repeat' split
  all_goals
    congr 1
    first | exact (decide_eq_decide.mpr (by omega)) | exact (decide_eq_false (by omega)).symm
theorem law_loop (r : Int) (hr : 0 ≤ r) (hr1 : r ≤ 100000) (P n : Int) (hP : I64 P) (hn : n ≤ 9223372036854775807) : ∀ (d : Nat) (i b : Int), 0 ≤ i → i + (d : Int) = n → 0 ≤ b → b ≤ 9223372036854775807 → Ev (fun k => arrearslaw3_paysOff.l0 k P b r n i) (pay P r d b) := by
  unfold I64 at hP
  intro d
  induction d with
  | zero =>
    intro i b hi0 hi hb0 hb
    refine Ev_one (fun k => ?_)
    simp only [arrearslaw3_paysOff.l0]
    rw [if_neg (by omega)]
    rfl
  | succ d ih =>
    intro i b hi0 hi hb0 hb
    have mb := month_bd b r hb0 hr hr1
    obtain ⟨K, h⟩ := Ev_out (month_ev b r (by unfold I64; omega) (by unfold I64; omega))
    have em : monthOk b r = (month b r, true) := by unfold monthOk; rw [if_pos ⟨hb0, hr, hr1⟩]
    rw [em] at h
    have tail : Ev (fun k => arrearslaw3_paysOff.j1 k P b r n i (month b r) (decide (P ≤ month b r))) (pay P r (d + 1) b) := by
      unfold pay
      by_cases c1 : P ≤ month b r
      · rw [if_pos c1, decide_eq_true c1]
        exact Ev_one (fun k => by simp only [arrearslaw3_paysOff.j1]; rw [if_pos True.intro])
      · rw [if_neg c1, decide_eq_false c1]
        by_cases c2 : b ≤ P - month b r
        · rw [if_pos c2]
          refine Ev_one (fun k => ?_)
          simp only [arrearslaw3_paysOff.j1]
          rw [if_neg (by decide), w64 (by omega) (by omega), if_pos c2]
        · rw [if_neg c2]
          refine Ev.step (fun k => ?_) (ih (i + 1) (b - (P - month b r)) (by omega) (by omega) (by omega) (by omega))
          simp only [arrearslaw3_paysOff.j1]
          rw [if_neg (by decide), w64 (x := P - month b r) (by omega) (by omega), if_neg c2, w64 (x := b - _) (by omega) (by omega), w64 (x := i + 1) (by omega) (by omega)]
    obtain ⟨K2, h2⟩ := Ev_out tail
    refine ⟨K + K2 + 1, fun k hk => ?_⟩
    obtain ⟨k, rfl⟩ : ∃ m, k = m + 1 := ⟨k - 1, by omega⟩
    simp only [arrearslaw3_paysOff.l0]
    rw [if_pos (by omega), h k (by omega), Option.bind_some, if_pos rfl]
    exact h2 k (by omega)
theorem InterestLeast : arrearslaw3_InterestLeast.Pure := by
  intro b r c hb hr hc
  by_cases m : (1 ≤ b ∧ b ≤ 10000000000000) ∧ (0 ≤ r ∧ r ≤ 100000) ∧ 1 ≤ c ∧ c ≤ 120
  · have m' := m
    obtain ⟨⟨m0, m1⟩, ⟨m2, m3⟩, m4, m5⟩ := m
    obtain ⟨n, rfl⟩ := Int.eq_ofNat_of_zero_le (show 0 ≤ c by omega)
    obtain ⟨q, e1, l1⟩ := level_yes b r n m2 m3 (by omega) (by omega) (by omega) m0 (by omega) (great_pays b r n m2 m3 m0 (by omega) (by omega))
    obtain ⟨q1, q2, q3, q4⟩ := l1
    obtain ⟨K1, h1⟩ := Ev_out e1
    obtain ⟨K2, h2⟩ := Ev_out (law_loop r m2 m3 q n (by unfold I64; omega) (by omega) n 0 b (by omega) (by omega) (by omega) (by omega))
    obtain ⟨K3, h3⟩ := Ev_out (law_loop r m2 m3 (q - 1) n (by unfold I64; omega) (by omega) n 0 b (by omega) (by omega) (by omega) (by omega))
    have less : pay (q - 1) r n b = false := by
      by_cases z : q = 1
      · subst z
        exact pay_zero r m2 m3 n b (by omega)
      · exact q4 (q - 1) (by omega) (by omega)
    rw [q3] at h2
    rw [less] at h3
    refine ⟨K1 + K2 + K3 + 1, ?_⟩
    simp only [arrearslaw3_InterestLeast.f]
    rw [lending_least, decide_eq_true m', Option.bind_some, if_pos rfl, h1 _ (by omega), Option.bind_some, if_pos rfl]
    simp only []
    rw [decide_eq_false (by omega)]
    simp only [arrearslaw3_InterestLeast.j0, arrearslaw3_paysOff.f]
    rw [if_neg (by decide), h2 _ (by omega), Option.bind_some, if_pos rfl, w64 (by omega) (by omega), h3 _ (by omega)]
    rfl
  · refine ⟨0, ?_⟩
    simp only [arrearslaw3_InterestLeast.f]
    rw [lending_least, decide_eq_false m, Option.bind_some, if_neg Bool.false_ne_true]

end Go.Proofs.Ytcaeaklbglhghaa.Pure
