/- CalendarBetweens: Between of any three numbers is the document's. This text is the part over numbers alone. -/
import Derived.Test.YtifkobejdldkbaaDoorCBtw
import Derived.Test.YtifkobejdldkbaaDoorPAx6
namespace Go.Proofs.YtifkobejdldkbaaDoor.Pure
open Go.RowKit Go.Proofs.YtifkobejdldkbaaDoor.PA Go.Proofs.YtifkobejdldkbaaDoorW.PrintWords Go.Proofs.YtifkobejdldkbaaDoorW.PrintLast Go.Proofs.YtifkobejdldkbaaDoor.MB Go.Proofs.YtifkobejdldkbaaDoor.CDate Go.Proofs.YtifkobejdldkbaaDoor.CBtw
set_option linter.unusedVariables false
set_option linter.unusedSimpArgs false

theorem CalendarBetweens : arrearslaw2_CalendarBetweens.Pure := by
  intro a b c ha hb hc
  obtain ⟨K1, h1⟩ := Ev_out (between_ev a b c)
  obtain ⟨K2, h2⟩ := Ev_out (refBetween_ev a b c)
  refine ⟨K1 + K2, ?_⟩
  simp only [arrearslaw2_CalendarBetweens.f]
  rw [h1 _ (by omega), h2 _ (by omega)]
  simp

end Go.Proofs.YtifkobejdldkbaaDoor.Pure
