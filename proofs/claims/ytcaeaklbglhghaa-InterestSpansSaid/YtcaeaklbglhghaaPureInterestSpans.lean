/- InterestSpans: Daily and Span of any numbers are the document's. This text is the part over numbers alone. -/
import Derived.Test.YtcaeaklbglhghaaIRef
import Derived.Test.YtcaeaklbglhghaaPAx4
namespace Go.Proofs.Ytcaeaklbglhghaa.Pure
open Go.RowKit Go.Proofs.Ytcaeaklbglhghaa.PA Go.Proofs.YtcaeaklbglhghaaW.PrintWords Go.Proofs.YtcaeaklbglhghaaW.PrintLast Go.Proofs.Ytcaeaklbglhghaa.MB Go.Proofs.Ytcaeaklbglhghaa.ISpan Go.Proofs.Ytcaeaklbglhghaa.IRef

theorem InterestSpans : arrearslaw3_InterestSpans.Pure := by
  intro p r c d hp hr hc hd
  obtain ⟨K1, h1⟩ := Ev_out (span_ev p r c 1 (I64.of hp))
  obtain ⟨K2, h2⟩ := Ev_out (refSpan_ev p r c 1 (I64.of hp))
  obtain ⟨K3, h3⟩ := Ev_out (span_ev p r c d (I64.of hp))
  obtain ⟨K4, h4⟩ := Ev_out (refSpan_ev p r c d (I64.of hp))
  refine ⟨K1 + K2 + K3 + K4 + 1, ?_⟩
  simp only [arrearslaw3_InterestSpans.f, interest_Daily.f, arrearsref3_Daily.f]
  rw [h1 _ (by omega), h2 _ (by omega)]
  simp only [Option.bind_some, if_true, bne_self_eq_false, arrearslaw3_InterestSpans.j0, Bool.false_eq_true, if_false]
  rw [h3 _ (by omega), h4 _ (by omega)]
  simp

end Go.Proofs.Ytcaeaklbglhghaa.Pure
