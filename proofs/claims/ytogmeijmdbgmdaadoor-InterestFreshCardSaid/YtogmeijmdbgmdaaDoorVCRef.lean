/- The document's own count of a date's number, year by year and month by month, is the number. Plain Lean over the printed functions. -/
import Derived.Test.YtogmeijmdbgmdaaDoorVCProg
namespace Go.Proofs.YtogmeijmdbgmdaaDoor.CRef
open Go.RowKit Go.Proofs.YtogmeijmdbgmdaaDoor.PF Go.Proofs.YtogmeijmdbgmdaaDoorW.PrintWords Go.Proofs.YtogmeijmdbgmdaaDoorW.PrintLast Go.Proofs.YtogmeijmdbgmdaaDoorW.PrintMore Go.Proofs.YtogmeijmdbgmdaaDoor.MB Go.Proofs.YtogmeijmdbgmdaaDoor.CDate Go.Proofs.YtogmeijmdbgmdaaDoor.CProg
set_option linter.unusedVariables false
set_option linter.unusedSectionVars false
set_option linter.unusedSimpArgs false

theorem yb_bd {y : Int} (h0 : 1 ≤ y) (h1 : y ≤ 10000) : 0 ≤ yb y ∧ yb y ≤ 3652059 := by
  have h2 := yb_mono h0
  have h3 := yb_mono h1
  rw [yb_one] at h2
  rw [yb_end] at h3
  omega
end Go.Proofs.YtogmeijmdbgmdaaDoor.CRef
