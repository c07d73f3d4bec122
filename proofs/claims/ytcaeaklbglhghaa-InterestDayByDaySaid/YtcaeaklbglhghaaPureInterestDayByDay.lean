/- InterestDayByDay: a span of up to 400 days at once is the days one by one, each rest carried on; refused only where the sum is beyond an int64. This text is the part over numbers alone. -/
import Derived.Test.YtcaeaklbglhghaaISpan
import Derived.Test.YtcaeaklbglhghaaPAx5
import Derived.Test.YtcaeaklbglhghaaPAx2
import Derived.Test.YtcaeaklbglhghaaPAx4
namespace Go.Proofs.Ytcaeaklbglhghaa.Pure
open Go.RowKit Go.Proofs.Ytcaeaklbglhghaa.PA Go.Proofs.YtcaeaklbglhghaaW.PrintWords Go.Proofs.YtcaeaklbglhghaaW.PrintLast Go.Proofs.Ytcaeaklbglhghaa.MB Go.Proofs.Ytcaeaklbglhghaa.MMul Go.Proofs.Ytcaeaklbglhghaa.ISpan

theorem earning_day (p r c : Int) : arrearslaw3_earning.f p r c = some (decide (0 ≤ p ∧ (0 ≤ r ∧ r ≤ 100000) ∧ 0 ≤ c ∧ c < 3650000)) := by
  unfold arrearslaw3_earning.f
  repeat' split
  all_goals
    congr 1
    first | exact (decide_eq_decide.mpr (by omega)) | exact (decide_eq_false (by omega)).symm
section
variable (p r c days : Int) (hI : I64 p) (h1 : 0 ≤ p) (h2 : 0 ≤ r) (h3 : r ≤ 100000) (h4 : 0 ≤ c) (h5 : c < 3650000) (h6 : 0 ≤ days) (h7 : days ≤ 400)
include hI h1 h2 h3 h4 h5 h6 h7
/-- Behind i days: n is what they have earned, with the carry, in parts of a cent; G says whether it is beyond an int64, s is the sum as far as it goes. -/
theorem day_loop : ∀ (d i : Nat), (i : Int) + (d : Int) = days → ∀ (n s : Int) (G : Bool), n = p * r * (i : Int) + c → 0 ≤ s → s ≤ 9223372036854775807 → (G = false → s = n / 3650000) → (G = true → 9223372036854775807 < n / 3650000) →
    Ev (fun k => arrearslaw3_InterestDayByDay.l0 k p r c days s G (n % 3650000) (i : Int)) true := by
  have P0 : 0 ≤ p * r := Int.mul_nonneg h1 h2
  have P1 : p * r ≤ p * 100000 := Int.mul_le_mul_of_nonneg_left h3 h1
  intro d
  induction d with
  | zero =>
    intro i hi n s G hn s0 s1 g0 g1
    have ed : (i : Int) = days := by omega
    have es : span p r c days = spanN n := by
      unfold span
      rw [if_pos (by unfold may; omega), hn, ed, Int.mul_assoc]
    obtain ⟨K, h⟩ := Ev_out (span_ev p r c days hI)
    rw [es] at h
    refine ⟨K + 1, fun k hk => ?_⟩
    obtain ⟨k, rfl⟩ : ∃ m, k = m + 1 := ⟨k - 1, by omega⟩
    simp only [arrearslaw3_InterestDayByDay.l0]
    rw [if_neg (by omega), h k (by omega), Option.bind_some]
    unfold spanN
    cases G with
    | true =>
      rw [if_pos rfl, if_neg (show ¬ n / 3650000 ≤ 9223372036854775807 by have := g1 rfl; omega), if_neg Bool.false_ne_true, if_pos rfl]
      rfl
    | false =>
      have := g0 rfl
      rw [if_neg Bool.false_ne_true, if_pos (show n / 3650000 ≤ 9223372036854775807 by omega), if_pos rfl, if_pos this.symm]
      simp
  | succ d ih =>
    intro i hi n s G hn s0 s1 g0 g1
    unfold I64 at hI
    have n0 : 0 ≤ p * r * (i : Int) := Int.mul_nonneg P0 (by omega)
    have next : p * r * ((i + 1 : Nat) : Int) + c = n + p * r := by rw [Int.natCast_succ, Int.mul_add, Int.mul_one]; omega
    have es : span p r (n % 3650000) 1 = spanN (p * r + n % 3650000) := by
      unfold span
      rw [if_pos (by unfold may; omega), Int.mul_one]
    have ef : spanN (p * r + n % 3650000) = ((p * r + n % 3650000) / 3650000, (p * r + n % 3650000) % 3650000, true) := by unfold spanN; rw [if_pos (by omega)]
    obtain ⟨K, h⟩ := Ev_out (span_ev p r (n % 3650000) 1 (by unfold I64; exact hI))
    rw [es, ef] at h
    obtain ⟨A, hA⟩ : ∃ A, A = p * r := ⟨_, rfl⟩
    have nx : n + A = p * r * ((i + 1 : Nat) : Int) + c := by rw [next, hA]
    rw [← hA] at P0 P1 n0 h
    clear next
    have er : (A + n % 3650000) % 3650000 = (n + A) % 3650000 := by omega
    have eq : (A + n % 3650000) / 3650000 = (n + A) / 3650000 - n / 3650000 := by omega
    rw [er, eq] at h
    have q0 : 0 ≤ (n + A) / 3650000 - n / 3650000 := by omega
    have q1 : (n + A) / 3650000 - n / 3650000 ≤ 9223372036854775807 := by omega
    have go : Ev (fun k => arrearslaw3_InterestDayByDay.j2 k p r c days s G (i : Int) ((n + A) / 3650000 - n / 3650000) ((n + A) % 3650000) false) true := by
      by_cases f : (n + A) / 3650000 - n / 3650000 > 9223372036854775807 - s
      · have h' := ih (i + 1) (by omega) (n + A) s true nx s0 s1 (fun z => by cases z) (fun _ => by
          cases G with
          | true => have := g1 rfl; omega
          | false => have := g0 rfl; omega)
        refine Ev.step (fun k => ?_) h'
        simp only [arrearslaw3_InterestDayByDay.j2]
        rw [if_neg (by decide), w64 (x := 9223372036854775807 - s) (by omega) (by omega), if_pos f, w64 (x := s + 0) (by omega) (by omega), Int.add_zero, wi i (by omega)]
      · have h' := ih (i + 1) (by omega) (n + A) (s + ((n + A) / 3650000 - n / 3650000)) G nx (by omega) (by omega) (fun z => by have := g0 z; omega) (fun z => by have := g1 z; omega)
        refine Ev.step (fun k => ?_) h'
        simp only [arrearslaw3_InterestDayByDay.j2]
        rw [if_neg (by decide), w64 (x := 9223372036854775807 - s) (by omega) (by omega), if_neg f, w64 (x := s + _) (by omega) (by omega), wi i (by omega)]
    obtain ⟨K2, h2'⟩ := Ev_out go
    refine ⟨K + K2 + 1, fun k hk => ?_⟩
    obtain ⟨k, rfl⟩ : ∃ m, k = m + 1 := ⟨k - 1, by omega⟩
    simp only [arrearslaw3_InterestDayByDay.l0, interest_Daily.f]
    rw [if_pos (by omega), h k (by omega), Option.bind_some, Option.bind_some, if_pos rfl]
    simp only []
    rw [decide_eq_false (by omega)]
    exact h2' k (by omega)
end
theorem InterestDayByDay : arrearslaw3_InterestDayByDay.Pure := by
  intro p r c days hp hr hc hd
  replace hp := I64.of hp
  have out0 : Ev (fun k => arrearslaw3_InterestDayByDay.j0 k p r c days true) true := Ev_one (fun k => by simp only [arrearslaw3_InterestDayByDay.j0]; rw [if_pos True.intro])
  refine Ev.rounds ?_
  by_cases m : 0 ≤ p ∧ (0 ≤ r ∧ r ≤ 100000) ∧ 0 ≤ c ∧ c < 3650000
  · by_cases c1 : days < 0
    · exact Ev.congr (fun k => by simp only [arrearslaw3_InterestDayByDay.f]; rw [earning_day, decide_eq_true m, Option.bind_some, if_pos rfl, if_pos c1]) out0
    · by_cases c2 : days > 400
      · exact Ev.congr (fun k => by simp only [arrearslaw3_InterestDayByDay.f]; rw [earning_day, decide_eq_true m, Option.bind_some, if_pos rfl, if_neg c1, decide_eq_true c2]) out0
      · refine Ev.congr (f := fun k => arrearslaw3_InterestDayByDay.j0 k p r c days false) (fun k => by simp only [arrearslaw3_InterestDayByDay.f]; rw [earning_day, decide_eq_true m, Option.bind_some, if_pos rfl, if_neg c1, decide_eq_false c2]) ?_
        have h := day_loop p r c days hp m.1 m.2.1.1 m.2.1.2 m.2.2.1 m.2.2.2 (by omega) (by omega) days.toNat 0 (by omega) c 0 false (by simp) (by omega) (by omega) (fun _ => by omega) (fun z => by cases z)
        rw [show c % 3650000 = c by omega] at h
        refine Ev.step (fun k => ?_) h
        simp only [arrearslaw3_InterestDayByDay.j0]
        rw [if_neg (by decide)]
        rfl
  · exact Ev.congr (fun k => by simp only [arrearslaw3_InterestDayByDay.f]; rw [earning_day, decide_eq_false m, Option.bind_some, if_neg Bool.false_ne_true]) out0

end Go.Proofs.Ytcaeaklbglhghaa.Pure
