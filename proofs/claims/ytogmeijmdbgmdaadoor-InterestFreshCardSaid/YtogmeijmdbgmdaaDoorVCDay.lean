/- The date and the weekday of a day's number, as the program and the document tell them. Plain Lean over the printed functions. -/
import Derived.Test.YtogmeijmdbgmdaaDoorVCCivil
import Derived.Test.YtogmeijmdbgmdaaDoorVPFx5
namespace Go.Proofs.YtogmeijmdbgmdaaDoor.CDay
open Go.RowKit Go.Proofs.YtogmeijmdbgmdaaDoor.PF Go.Proofs.YtogmeijmdbgmdaaDoorW.PrintWords Go.Proofs.YtogmeijmdbgmdaaDoorW.PrintLast Go.Proofs.YtogmeijmdbgmdaaDoorW.PrintMore Go.Proofs.YtogmeijmdbgmdaaDoor.MB Go.Proofs.YtogmeijmdbgmdaaDoor.CDate Go.Proofs.YtogmeijmdbgmdaaDoor.CProg Go.Proofs.YtogmeijmdbgmdaaDoor.CRef Go.Proofs.YtogmeijmdbgmdaaDoor.CCivil
set_option linter.unusedVariables false
set_option linter.unusedSectionVars false
set_option linter.unusedSimpArgs false

def Day (n : Int) : Prop := 1 ≤ n ∧ n ≤ 3652059
instance (n : Int) : Decidable (Day n) := by unfold Day; infer_instance
/-- What Civil answers. -/
noncomputable def civ (n : Int) : Int × Int × Int × Bool := if h : Day n then (Classical.choose (date_ex n h.1 h.2), Classical.choose (Classical.choose_spec (date_ex n h.1 h.2)), Classical.choose (Classical.choose_spec (Classical.choose_spec (date_ex n h.1 h.2))), true) else (0, 0, 0, false)
theorem civ_out {n : Int} (h : ¬ Day n) : civ n = (0, 0, 0, false) := dif_neg h
theorem civ_in {n : Int} (h : Day n) : ∃ y m d, Valid y m d ∧ num y m d = n ∧ civ n = (y, m, d, true) := by
  unfold civ
  rw [dif_pos h]
  exact ⟨_, _, _, (Classical.choose_spec (Classical.choose_spec (Classical.choose_spec (date_ex n h.1 h.2)))).1, (Classical.choose_spec (Classical.choose_spec (Classical.choose_spec (date_ex n h.1 h.2)))).2, rfl⟩
theorem civ_num {y m d : Int} (v : Valid y m d) : civ (num y m d) = (y, m, d, true) := by
  obtain ⟨y', m', d', v', e, h⟩ := civ_in (n := num y m d) (num_day v)
  obtain ⟨rfl, rfl, rfl⟩ := num_inj v' v e
  exact h
theorem civ_ev (n : Int) : Ev (fun k => calendar_Civil.f k n) (civ n) := by
  by_cases h : Day n
  · obtain ⟨y, m, d, v, rfl, e⟩ := civ_in h
    rw [e]
    exact civil_ev v
  · rw [civ_out h]
    exact civil_out n h
/-- What Weekday answers. -/
def wdR (n : Int) : Int × Bool := if Day n then ((n - 1) % 7 + 1, true) else (0, false)
theorem wdR_in {n : Int} (h : Day n) : wdR n = ((n - 1) % 7 + 1, true) := if_pos h
theorem wdR_out {n : Int} (h : ¬ Day n) : wdR n = (0, false) := if_neg h
theorem weekday_eq (n : Int) : calendar_Weekday.f n = some (wdR n) := by
  unfold calendar_Weekday.f
  by_cases c : n < 1
  · rw [if_pos c, wdR_out (fun h => by have := h.1; omega)]
  · rw [if_neg c]
    by_cases c2 : n > 3652059
    · rw [if_pos c2, wdR_out (fun h => by have := h.2; omega)]
    · rw [if_neg c2, wdR_in ⟨by omega, by omega⟩, w64 (x := n - 1) (by omega) (by omega), tm (by omega), w64 (by omega) (by omega)]
end Go.Proofs.YtogmeijmdbgmdaaDoor.CDay
