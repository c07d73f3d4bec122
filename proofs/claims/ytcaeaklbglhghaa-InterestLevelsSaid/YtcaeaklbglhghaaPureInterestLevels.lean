/- InterestLevels: Level of any three numbers is the document's. This text is the part over numbers alone. -/
import Derived.Test.YtcaeaklbglhghaaLIRefL
import Derived.Test.YtcaeaklbglhghaaPLx4
namespace Go.Proofs.Ytcaeaklbglhghaa.Pure
open Go.RowKit Go.Proofs.Ytcaeaklbglhghaa.PL Go.Proofs.YtcaeaklbglhghaaW.PrintWords Go.Proofs.YtcaeaklbglhghaaW.PrintLast Go.Proofs.Ytcaeaklbglhghaa.LMB Go.Proofs.Ytcaeaklbglhghaa.LILevel Go.Proofs.Ytcaeaklbglhghaa.LIRefL

theorem InterestLevels : arrearslaw3_InterestLevels.Pure := by
  intro b r c hb hr hc
  replace hb := I64.of hb
  unfold I64 at hb
  have both : ∃ res, Ev (fun k => interest_Level.f k b r c) res ∧ Ev (fun k => arrearsref3_Level.f k b r c) res := by
    by_cases m : 1 ≤ b ∧ (0 ≤ r ∧ r ≤ 100000) ∧ 1 ≤ c ∧ c ≤ 120
    · obtain ⟨m1, ⟨m2, m3⟩, m4, m5⟩ := m
      obtain ⟨n, rfl⟩ := Int.eq_ofNat_of_zero_le (show 0 ≤ c by omega)
      by_cases g : pay 9223372036854775807 r n b = true
      · obtain ⟨q, h1, l1⟩ := level_yes b r n m2 m3 (by omega) hb.2 (by omega) m1 (by omega) g
        obtain ⟨q', h2, l2⟩ := ref_yes b r n m2 m3 (by omega) hb.2 (by omega) m1 (by omega) g
        obtain rfl := l1.one l2
        exact ⟨_, h1, h2⟩
      · have g' : pay 9223372036854775807 r n b = false := by simpa using g
        exact ⟨_, level_no b r n m2 m3 (by omega) hb.2 (by omega) m1 (by omega) g', ref_no b r n m2 m3 (by omega) hb.2 (by omega) m1 (by omega) g'⟩
    · exact ⟨_, level_bad b r c m, ref_bad b r c m⟩
  obtain ⟨res, e1, e2⟩ := both
  obtain ⟨K1, h1⟩ := Ev_out e1
  obtain ⟨K2, h2⟩ := Ev_out e2
  refine ⟨K1 + K2, ?_⟩
  simp only [arrearslaw3_InterestLevels.f]
  rw [h1 _ (by omega), h2 _ (by omega)]
  simp

end Go.Proofs.Ytcaeaklbglhghaa.Pure
