/- CalendarCycle: 146097 days on it is 400 years later, the same month, day of the month and weekday. This text is the part over numbers alone. -/
import Derived.Test.YtifkobejdldkbaaDoorCLaw
import Derived.Test.YtifkobejdldkbaaDoorPAx5
namespace Go.Proofs.YtifkobejdldkbaaDoor.Pure
open Go.RowKit Go.Proofs.YtifkobejdldkbaaDoor.PA Go.Proofs.YtifkobejdldkbaaDoorW.PrintWords Go.Proofs.YtifkobejdldkbaaDoorW.PrintLast Go.Proofs.YtifkobejdldkbaaDoor.MB Go.Proofs.YtifkobejdldkbaaDoor.CDate Go.Proofs.YtifkobejdldkbaaDoor.CDay Go.Proofs.YtifkobejdldkbaaDoor.CLaw
set_option linter.unusedVariables false
set_option linter.unusedSimpArgs false

theorem cycle_j1 (n : Int) (h0 : 1 ≤ n) (h1 : n ≤ 3505962) : Ev (fun k => arrearslaw2_CalendarCycle.j1 k n false) true := by
  obtain ⟨K1, e1⟩ := Ev_out (civ_ev n)
  obtain ⟨K2, e2⟩ := Ev_out (civ_ev (n + 146097))
  obtain ⟨y, m, d, v, e, hc⟩ := civ_in (n := n) ⟨h0, by omega⟩
  have hn := civ_400 v e (by omega)
  refine ⟨K1 + K2 + 1, fun k hk => ?_⟩
  obtain ⟨k, rfl⟩ : ∃ j, k = j + 1 := ⟨k - 1, by omega⟩
  simp only [arrearslaw2_CalendarCycle.j1]
  have v' := v
  unfold Valid at v'
  rw [if_neg Bool.false_ne_true, w64 (x := n + 146097) (by omega) (by omega), e1 _ (by omega), e2 _ (by omega), weekday_eq, weekday_eq, hc, hn, wdR_in ⟨h0, by omega⟩, wdR_in ⟨by omega, by omega⟩]
  simp only [Option.bind_some, if_true]
  rw [if_pos (by omega), w64 (by omega) (by omega), same_eq]
  simp
theorem CalendarCycle : arrearslaw2_CalendarCycle.Pure := by
  intro n hn
  obtain ⟨K1, e1⟩ := Ev_out (civ_ev 1)
  have out : ∀ k, arrearslaw2_CalendarCycle.j1 (k + 1) n true = some true := fun k => by
    simp only [arrearslaw2_CalendarCycle.j1]
    rw [if_pos True.intro]
  by_cases h : 1 ≤ n ∧ n ≤ 3505962
  · obtain ⟨K2, e2⟩ := Ev_out (cycle_j1 n h.1 h.2)
    refine ⟨K1 + K2 + 1, ?_⟩
    simp only [arrearslaw2_CalendarCycle.f]
    rw [e1 _ (by omega), civ_first]
    simp only [Option.bind_some, if_true, bne_self_eq_false, arrearslaw2_CalendarCycle.j0]
    rw [if_neg Bool.false_ne_true, if_neg (by omega), decide_eq_false (by omega), e2 _ (by omega)]
  · refine ⟨K1 + 2, ?_⟩
    simp only [arrearslaw2_CalendarCycle.f]
    rw [e1 _ (by omega), civ_first]
    simp only [Option.bind_some, if_true, bne_self_eq_false, arrearslaw2_CalendarCycle.j0]
    rw [if_neg Bool.false_ne_true]
    by_cases c : n < 1
    · rw [if_pos c, out]
    · rw [if_neg c, decide_eq_true (by omega), out]

end Go.Proofs.YtifkobejdldkbaaDoor.Pure
