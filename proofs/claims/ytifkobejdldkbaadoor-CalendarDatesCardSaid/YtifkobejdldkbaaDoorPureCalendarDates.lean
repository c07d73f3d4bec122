/- CalendarDates: Leap, MonthLen and Number of any three numbers are the document's. This text is the part over numbers alone. -/
import Derived.Test.YtifkobejdldkbaaDoorCRef
import Derived.Test.YtifkobejdldkbaaDoorPAx3
namespace Go.Proofs.YtifkobejdldkbaaDoor.Pure
open Go.RowKit Go.Proofs.YtifkobejdldkbaaDoor.PA Go.Proofs.YtifkobejdldkbaaDoorW.PrintWords Go.Proofs.YtifkobejdldkbaaDoorW.PrintLast Go.Proofs.YtifkobejdldkbaaDoor.MB Go.Proofs.YtifkobejdldkbaaDoor.CDate Go.Proofs.YtifkobejdldkbaaDoor.CProg Go.Proofs.YtifkobejdldkbaaDoor.CRef
set_option linter.unusedVariables false
set_option linter.unusedSimpArgs false

theorem CalendarDates : arrearslaw2_CalendarDates.Pure := by
  intro y m d hy hm hd
  obtain ⟨K1, h1⟩ := Ev_out (monthLen_ev y m)
  obtain ⟨K2, h2⟩ := Ev_out (number_ev y m d)
  obtain ⟨K3, h3⟩ := Ev_out (refNumber_ev y m d)
  refine ⟨K1 + K2 + K3 + 1, ?_⟩
  simp only [arrearslaw2_CalendarDates.f]
  rw [leap_eq, refLeap_eq, h1 _ (by omega), refMonthLen_eq]
  simp only [Option.bind_some, bne_self_eq_false, Bool.false_eq_true, if_false, arrearslaw2_CalendarDates.j0]
  rw [h2 _ (by omega), h3 _ (by omega)]
  simp

end Go.Proofs.YtifkobejdldkbaaDoor.Pure
