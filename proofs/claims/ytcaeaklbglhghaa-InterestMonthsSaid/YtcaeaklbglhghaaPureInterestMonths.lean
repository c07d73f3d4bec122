/- InterestMonths: Month of any two numbers is the document's. This text is the part over numbers alone. -/
import Derived.Test.YtcaeaklbglhghaaIRef
import Derived.Test.YtcaeaklbglhghaaPAx2
namespace Go.Proofs.Ytcaeaklbglhghaa.Pure
open Go.RowKit Go.Proofs.Ytcaeaklbglhghaa.PA Go.Proofs.YtcaeaklbglhghaaW.PrintWords Go.Proofs.YtcaeaklbglhghaaW.PrintLast Go.Proofs.Ytcaeaklbglhghaa.MB Go.Proofs.Ytcaeaklbglhghaa.ISpan Go.Proofs.Ytcaeaklbglhghaa.IRef

theorem InterestMonths : arrearslaw3_InterestMonths.Pure := by
  intro b r hb hr
  obtain ⟨K, h⟩ := Ev_out (month_ev b r (I64.of hb) (I64.of hr))
  refine ⟨K, ?_⟩
  simp only [arrearslaw3_InterestMonths.f]
  rw [h K (Nat.le_refl _), refMonth_eq b r (I64.of hb)]
  simp

end Go.Proofs.Ytcaeaklbglhghaa.Pure
