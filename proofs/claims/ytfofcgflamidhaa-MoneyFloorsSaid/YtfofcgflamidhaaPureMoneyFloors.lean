/- MoneyFloors: MulDivFloor of any three numbers answers the document's quotient, rest and refusal. This text is the part over numbers alone. -/
import Derived.Test.YtfofcgflamidhaaMRef2
import Derived.Test.YtfofcgflamidhaaPAllx8
namespace Go.Proofs.Ytfofcgflamidhaa.Pure
open Go.RowKit Go.Proofs.Ytfofcgflamidhaa.PAll Go.Proofs.YtfofcgflamidhaaW.PrintWords Go.Proofs.YtfofcgflamidhaaW.PrintLast Go.Proofs.Ytfofcgflamidhaa.MB Go.Proofs.Ytfofcgflamidhaa.MMul Go.Proofs.Ytfofcgflamidhaa.MRef2
set_option linter.unusedVariables false
set_option linter.unusedSectionVars false
set_option linter.unusedSimpArgs false

theorem MoneyFloors : arrearslaw1_MoneyFloors.Pure := by
  intro a b c ha hb hc
  obtain ⟨K1, h1⟩ := Ev_out (floor_ev a b c (I64.of ha) (I64.of hb) (I64.of hc))
  obtain ⟨K2, h2⟩ := Ev_out (ref_floor_ev a b c (I64.of ha) (I64.of hb) (I64.of hc))
  refine ⟨K1 + K2, ?_⟩
  simp only [arrearslaw1_MoneyFloors.f]
  rw [h1 _ (by omega), h2 _ (by omega)]
  simp

end Go.Proofs.Ytfofcgflamidhaa.Pure
