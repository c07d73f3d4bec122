/- CalendarGregorian: day 1 is Monday 0001-01-01, the last day is 9999-12-31, and behind each day comes the next date of the Gregorian rule with the next weekday. This text is the part over numbers alone. -/
import Derived.Test.YtifkobejdldkbaaDoorCLaw
import Derived.Test.YtifkobejdldkbaaDoorPAx4
namespace Go.Proofs.YtifkobejdldkbaaDoor.Pure
open Go.RowKit Go.Proofs.YtifkobejdldkbaaDoor.PA Go.Proofs.YtifkobejdldkbaaDoorW.PrintWords Go.Proofs.YtifkobejdldkbaaDoorW.PrintLast Go.Proofs.YtifkobejdldkbaaDoor.MB Go.Proofs.YtifkobejdldkbaaDoor.CDate Go.Proofs.YtifkobejdldkbaaDoor.CDay Go.Proofs.YtifkobejdldkbaaDoor.CLaw
set_option linter.unusedVariables false
set_option linter.unusedSimpArgs false

theorem greg_in (n : Int) (h : Day n) : Ev (fun k => arrearslaw2_CalendarGregorian.j2 k n (civ n).2.2.2 (wdR n).1 (wdR n).2 false (civ n).1 (civ n).2.1 (civ n).2.2.1) true := by
  obtain ⟨y, m, d, v, e, hc⟩ := civ_in h
  obtain ⟨K1, e1⟩ := Ev_out (civ_ev (n + 1))
  rw [hc, wdR_in h]
  unfold Day at h
  refine ⟨K1 + 1, fun k hk => ?_⟩
  obtain ⟨k, rfl⟩ : ∃ j, k = j + 1 := ⟨k - 1, by omega⟩
  simp only [arrearslaw2_CalendarGregorian.j2]
  rw [if_neg Bool.false_ne_true]
  by_cases c : n = 3652059
  · rw [if_pos c, if_pos True.intro]
  · rw [if_neg c, w64 (x := n + 1) (by omega) (by omega), e1 _ (by omega), weekday_eq, next_civ v e (by omega), wdR_in ⟨by omega, by omega⟩, tomorrow_eq v]
    simp only [Option.bind_some, if_true]
    rw [same_eq, tm (by omega), w64 (by omega) (by omega)]
    simp only [and_self, decide_true, Option.bind_some, if_true, Option.some.injEq, beq_iff_eq]
    omega
theorem greg_out (n : Int) (h : ¬ Day n) : Ev (fun k => arrearslaw2_CalendarGregorian.j2 k n (civ n).2.2.2 (wdR n).1 (wdR n).2 true (civ n).1 (civ n).2.1 (civ n).2.2.1) true := by
  rw [civ_out h, wdR_out h]
  refine Ev_one fun k => ?_
  simp only [arrearslaw2_CalendarGregorian.j2]
  rw [if_pos True.intro, if_neg Bool.false_ne_true, if_neg Bool.false_ne_true, if_pos True.intro, same_eq]
  simp
theorem greg_j1 (n : Int) : Ev (fun k => arrearslaw2_CalendarGregorian.j1 k n false) true := by
  obtain ⟨K1, e1⟩ := Ev_out (civ_ev n)
  by_cases h : Day n
  · obtain ⟨K2, e2⟩ := Ev_out (greg_in n h)
    refine ⟨K1 + K2 + 1, fun k hk => ?_⟩
    obtain ⟨k, rfl⟩ : ∃ j, k = j + 1 := ⟨k - 1, by omega⟩
    simp only [arrearslaw2_CalendarGregorian.j1]
    unfold Day at h
    rw [if_neg Bool.false_ne_true, e1 _ (by omega), weekday_eq]
    simp only [Option.bind_some]
    rw [if_neg (by omega), decide_eq_false (by omega), e2 _ (by omega)]
  · obtain ⟨K2, e2⟩ := Ev_out (greg_out n h)
    refine ⟨K1 + K2 + 1, fun k hk => ?_⟩
    obtain ⟨k, rfl⟩ : ∃ j, k = j + 1 := ⟨k - 1, by omega⟩
    simp only [arrearslaw2_CalendarGregorian.j1]
    rw [if_neg Bool.false_ne_true, e1 _ (by omega), weekday_eq]
    simp only [Option.bind_some]
    by_cases c : n < 1
    · rw [if_pos c, e2 _ (by omega)]
    · rw [if_neg c, decide_eq_true (show n > 3652059 by unfold Day at h; omega), e2 _ (by omega)]
theorem CalendarGregorian : arrearslaw2_CalendarGregorian.Pure := by
  intro n hn
  obtain ⟨K1, e1⟩ := Ev_out (civ_ev 1)
  obtain ⟨K2, e2⟩ := Ev_out (civ_ev 3652059)
  obtain ⟨K3, e3⟩ := Ev_out (greg_j1 n)
  refine ⟨K1 + K2 + K3 + 2, ?_⟩
  simp only [arrearslaw2_CalendarGregorian.f]
  rw [e1 _ (by omega), civ_first, weekday_eq, wdR_in (by decide)]
  simp only [Option.bind_some, if_true]
  rw [if_pos (by decide), same_eq]
  simp only [and_self, decide_true, Option.bind_some, Bool.not_true, arrearslaw2_CalendarGregorian.j0]
  rw [if_neg Bool.false_ne_true, e2 _ (by omega), civ_last]
  simp only [Option.bind_some, if_true]
  rw [same_eq]
  simp only [and_self, decide_true, Option.bind_some, Bool.not_true]
  rw [e3 _ (by omega)]

end Go.Proofs.YtifkobejdldkbaaDoor.Pure
