/- InterestTwoSpans: a span of up to MaxDay days may be cut at any day (principals up to 10^13 cents). This text is the part over numbers alone. -/
import Derived.Test.YtcaeaklbglhghaaISpan
import Derived.Test.YtcaeaklbglhghaaPAx3
import Derived.Test.YtcaeaklbglhghaaPAx2
namespace Go.Proofs.Ytcaeaklbglhghaa.Pure
open Go.RowKit Go.Proofs.Ytcaeaklbglhghaa.PA Go.Proofs.YtcaeaklbglhghaaW.PrintWords Go.Proofs.YtcaeaklbglhghaaW.PrintLast Go.Proofs.Ytcaeaklbglhghaa.MB Go.Proofs.Ytcaeaklbglhghaa.MMul Go.Proofs.Ytcaeaklbglhghaa.ISpan

theorem earning_two (p r c : Int) : arrearslaw3_earning.f p r c = some (decide (0 ≤ p ∧ (0 ≤ r ∧ r ≤ 100000) ∧ 0 ≤ c ∧ c < 3650000)) := by
  unfold arrearslaw3_earning.f
  repeat' split
  all_goals
    congr 1
    first | exact (decide_eq_decide.mpr (by omega)) | exact (decide_eq_false (by omega)).symm
theorem spanN_in {n : Int} (h : n / 3650000 ≤ 9223372036854775807) : spanN n = (n / 3650000, n % 3650000, true) := if_pos h
theorem span_may {p r c d : Int} (h : may p r c d) : span p r c d = spanN (p * (r * d) + c) := if_pos h
theorem cut (p r c a b : Int) (hp : p ≤ 10000000000000) (h : may p r c a) (hb0 : 0 ≤ b) (hb : b ≤ 3652059 - a) (hI : I64 p) : Ev (fun k => arrearslaw3_InterestTwoSpans.j1 k p r c a b false) true := by
  have ha := h
  obtain ⟨h1, ⟨h2, h3⟩, h4, h5, h6, h7⟩ := ha
  have A := mul_bd h1 hp h2 h3
  have pa := mul_bd A.1 A.2 h6 h7
  have pb := mul_bd A.1 A.2 hb0 (show b ≤ 3652059 by omega)
  have pab := mul_bd A.1 A.2 (show 0 ≤ a + b by omega) (show a + b ≤ 3652059 by omega)
  have es : p * r * (a + b) = p * r * a + p * r * b := Int.mul_add ..
  have s1 : span p r c a = spanN (p * r * a + c) := by rw [span_may h, Int.mul_assoc p r a]
  have s3 : span p r c (a + b) = spanN (p * r * (a + b) + c) := by rw [span_may (show may p r c (a + b) by unfold may; omega), Int.mul_assoc p r (a + b)]
  have m2 : may p r ((p * r * a + c) % 3650000) b := by unfold may; omega
  have s2 : span p r ((p * r * a + c) % 3650000) b = spanN (p * r * b + (p * r * a + c) % 3650000) := by rw [span_may m2, Int.mul_assoc p r b]
  have t1 : spanN (p * r * a + c) = ((p * r * a + c) / 3650000, (p * r * a + c) % 3650000, true) := spanN_in (by omega)
  have t2 : spanN (p * r * b + (p * r * a + c) % 3650000) = ((p * r * b + (p * r * a + c) % 3650000) / 3650000, (p * r * b + (p * r * a + c) % 3650000) % 3650000, true) := spanN_in (by omega)
  have t3 : spanN (p * r * (a + b) + c) = ((p * r * (a + b) + c) / 3650000, (p * r * (a + b) + c) % 3650000, true) := spanN_in (by omega)
  obtain ⟨K1, e1⟩ := Ev_out (span_ev p r c a hI)
  obtain ⟨K2, e2⟩ := Ev_out (span_ev p r ((p * r * a + c) % 3650000) b hI)
  obtain ⟨K3, e3⟩ := Ev_out (span_ev p r c (a + b) hI)
  rw [s1, t1] at e1
  rw [s2, t2] at e2
  rw [s3, t3] at e3
  refine ⟨K1 + K2 + K3 + 1, fun k hk => ?_⟩
  obtain ⟨k, rfl⟩ : ∃ m, k = m + 1 := ⟨k - 1, by omega⟩
  simp only [arrearslaw3_InterestTwoSpans.j1]
  rw [if_neg (by decide), e1 k (by omega), Option.bind_some, if_pos rfl]
  simp only []
  rw [e2 k (by omega), Option.bind_some, if_pos rfl, w64 (x := a + b) (by omega) (by omega), e3 k (by omega), Option.bind_some, if_pos rfl]
  simp only []
  rw [w64 (by omega) (by omega), if_pos (by omega)]
  congr 1
  rw [beq_iff_eq]
  omega
theorem InterestTwoSpans : arrearslaw3_InterestTwoSpans.Pure := by
  intro p r c a b hp hr hc ha hb
  replace hp := I64.of hp
  have out0 : Ev (fun k => arrearslaw3_InterestTwoSpans.j0 k p r c a b true) true := Ev_one (fun k => by simp only [arrearslaw3_InterestTwoSpans.j0]; rw [if_pos True.intro])
  have out1 : Ev (fun k => arrearslaw3_InterestTwoSpans.j1 k p r c a b true) true := Ev_one (fun k => by simp only [arrearslaw3_InterestTwoSpans.j1]; rw [if_pos True.intro])
  refine Ev.rounds ?_
  by_cases m : 0 ≤ p ∧ (0 ≤ r ∧ r ≤ 100000) ∧ 0 ≤ c ∧ c < 3650000
  · by_cases g : p > 10000000000000
    · exact Ev.congr (fun k => by simp only [arrearslaw3_InterestTwoSpans.f]; rw [earning_two, decide_eq_true m, Option.bind_some, if_pos rfl, decide_eq_true g]) out0
    · refine Ev.congr (f := fun k => arrearslaw3_InterestTwoSpans.j0 k p r c a b false) (fun k => by simp only [arrearslaw3_InterestTwoSpans.f]; rw [earning_two, decide_eq_true m, Option.bind_some, if_pos rfl, decide_eq_false g]) ?_
      by_cases c1 : a < 0
      · exact Ev.step (fun k => by simp only [arrearslaw3_InterestTwoSpans.j0]; rw [if_neg (by decide), if_pos c1]) out1
      · by_cases c2 : a > 3652059
        · exact Ev.step (fun k => by simp only [arrearslaw3_InterestTwoSpans.j0]; rw [if_neg (by decide), if_neg c1, if_pos c2]) out1
        · by_cases c3 : b < 0
          · exact Ev.step (fun k => by simp only [arrearslaw3_InterestTwoSpans.j0]; rw [if_neg (by decide), if_neg c1, if_neg c2, if_pos c3]) out1
          · by_cases c4 : b > 3652059 - a
            · exact Ev.step (fun k => by simp only [arrearslaw3_InterestTwoSpans.j0]; rw [if_neg (by decide), if_neg c1, if_neg c2, if_neg c3, w64 (by omega) (by omega), decide_eq_true c4]) out1
            · exact Ev.step (fun k => by simp only [arrearslaw3_InterestTwoSpans.j0]; rw [if_neg (by decide), if_neg c1, if_neg c2, if_neg c3, w64 (by omega) (by omega), decide_eq_false c4]) (cut p r c a b (by omega) (by unfold may; omega) (by omega) (by omega) hp)
  · exact Ev.congr (fun k => by simp only [arrearslaw3_InterestTwoSpans.f]; rw [earning_two, decide_eq_false m, Option.bind_some, if_neg Bool.false_ne_true]) out0

end Go.Proofs.Ytcaeaklbglhghaa.Pure
