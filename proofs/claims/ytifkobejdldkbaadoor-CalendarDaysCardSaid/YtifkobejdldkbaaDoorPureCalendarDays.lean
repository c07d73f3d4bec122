/- CalendarDays: Civil and Weekday of any number are the document's. This text is the part over numbers alone. -/
import Derived.Test.YtifkobejdldkbaaDoorCDay
import Derived.Test.YtifkobejdldkbaaDoorPAx4
namespace Go.Proofs.YtifkobejdldkbaaDoor.Pure
open Go.RowKit Go.Proofs.YtifkobejdldkbaaDoor.PA Go.Proofs.YtifkobejdldkbaaDoorW.PrintWords Go.Proofs.YtifkobejdldkbaaDoorW.PrintLast Go.Proofs.YtifkobejdldkbaaDoor.MB Go.Proofs.YtifkobejdldkbaaDoor.CDate Go.Proofs.YtifkobejdldkbaaDoor.CDay
set_option linter.unusedVariables false
set_option linter.unusedSimpArgs false

theorem CalendarDays : arrearslaw2_CalendarDays.Pure := by
  intro n hn
  obtain ⟨K1, h1⟩ := Ev_out (civ_ev n)
  obtain ⟨K2, h2⟩ := Ev_out (refCiv_ev n)
  refine ⟨K1 + K2 + 1, ?_⟩
  simp only [arrearslaw2_CalendarDays.f]
  rw [h1 _ (by omega), h2 _ (by omega)]
  simp only [Option.bind_some, bne_self_eq_false, if_true, arrearslaw2_CalendarDays.j0, Bool.false_eq_true, if_false]
  rw [weekday_eq, refWeekday_eq]
  simp

end Go.Proofs.YtifkobejdldkbaaDoor.Pure
