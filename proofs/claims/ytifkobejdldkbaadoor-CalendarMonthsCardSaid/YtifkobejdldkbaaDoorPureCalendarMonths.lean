/- CalendarMonths: AddMonths of any three numbers is the document's. This text is the part over numbers alone. -/
import Derived.Test.YtifkobejdldkbaaDoorCMonth
import Derived.Test.YtifkobejdldkbaaDoorPAx7
namespace Go.Proofs.YtifkobejdldkbaaDoor.Pure
open Go.RowKit Go.Proofs.YtifkobejdldkbaaDoor.PA Go.Proofs.YtifkobejdldkbaaDoorW.PrintWords Go.Proofs.YtifkobejdldkbaaDoorW.PrintLast Go.Proofs.YtifkobejdldkbaaDoor.MB Go.Proofs.YtifkobejdldkbaaDoor.CDate Go.Proofs.YtifkobejdldkbaaDoor.CMonth
set_option linter.unusedVariables false
set_option linter.unusedSimpArgs false

theorem CalendarMonths : arrearslaw2_CalendarMonths.Pure := by
  intro n s a hn hs ha
  obtain ⟨K1, h1⟩ := Ev_out (am_ev n s a)
  obtain ⟨K2, h2⟩ := Ev_out (refAm_ev n s a)
  refine ⟨K1 + K2, ?_⟩
  simp only [arrearslaw2_CalendarMonths.f]
  rw [h1 _ (by omega), h2 _ (by omega)]
  simp

end Go.Proofs.YtifkobejdldkbaaDoor.Pure
