/- The program's Span, Daily and Month, as plain functions on numbers: principal times rate times days and the carry, in whole cents and a rest; a month's twelfth, rounded half to even. Plain Lean over the printed functions. -/
import Derived.Test.YtcaeaklbglhghaaMMul
import Derived.Test.YtcaeaklbglhghaaPAx3
import Derived.Test.YtcaeaklbglhghaaPAx2
import Derived.Test.YtcaeaklbglhghaaPAx1
namespace Go.Proofs.Ytcaeaklbglhghaa.ISpan
open Go.RowKit Go.Proofs.Ytcaeaklbglhghaa.PA Go.Proofs.YtcaeaklbglhghaaW.PrintWords Go.Proofs.YtcaeaklbglhghaaW.PrintLast Go.Proofs.YtcaeaklbglhghaaW.PrintMore Go.Proofs.Ytcaeaklbglhghaa.MB Go.Proofs.Ytcaeaklbglhghaa.MMul
set_option linter.unusedVariables false
set_option linter.unusedSectionVars false
set_option linter.unusedSimpArgs false

theorem mul_bd {a b A B : Int} (h0 : 0 ≤ a) (h1 : a ≤ A) (h2 : 0 ≤ b) (h3 : b ≤ B) : 0 ≤ a * b ∧ a * b ≤ A * B :=
  ⟨Int.mul_nonneg h0 h2, Int.mul_le_mul h1 h3 h2 (by omega)⟩
theorem isRate_eq (x : Int) : interest_isRate.f x = some (decide (0 ≤ x ∧ x ≤ 100000)) := by
  unfold interest_isRate.f
  by_cases c : x ≥ 0
  · rw [if_pos c]
    congr 1
    by_cases c2 : x ≤ 100000
    · rw [decide_eq_true c2, decide_eq_true (by omega)]
    · rw [decide_eq_false c2, decide_eq_false (by omega)]
  · rw [if_neg c, decide_eq_false (by omega)]
/-- Cents and rest of so many parts of a cent, if the cents fit. -/
def spanN (n : Int) : Int × Int × Bool := if n / 3650000 ≤ 9223372036854775807 then (n / 3650000, n % 3650000, true) else (0, 0, false)
def may (p r c d : Int) : Prop := 0 ≤ p ∧ (0 ≤ r ∧ r ≤ 100000) ∧ 0 ≤ c ∧ c < 3650000 ∧ 0 ≤ d ∧ d ≤ 3652059
instance (p r c d : Int) : Decidable (may p r c d) := by unfold may; infer_instance
def span (p r c d : Int) : Int × Int × Bool := if may p r c d then spanN (p * (r * d) + c) else (0, 0, false)

theorem span_in (p r c d : Int) (hp : I64 p) (h : may p r c d) : Ev (fun k => interest_Span.j1 k p r c d false) (spanN (p * (r * d) + c)) := by
  obtain ⟨h1, ⟨h2, h3⟩, h4, h5, h6, h7⟩ := h
  have hrd := mul_bd h2 h3 h6 h7
  have ew : wrap64 (r * d) = r * d := w64 (by omega) (by omega)
  have hn : 0 ≤ p * (r * d) := Int.mul_nonneg h1 hrd.1
  obtain ⟨K, h⟩ := Ev_out (floor_ev p (r * d) 3650000 hp (by unfold I64; omega) (by unfold I64; omega))
  refine ⟨K + 1, fun k hk => ?_⟩
  obtain ⟨k, rfl⟩ : ∃ m, k = m + 1 := ⟨k - 1, by omega⟩
  simp only [interest_Span.j1]
  have em : mfloor p (r * d) 3650000 = if -9223372036854775808 ≤ p * (r * d) / 3650000 ∧ p * (r * d) / 3650000 ≤ 9223372036854775807 then (p * (r * d) / 3650000, p * (r * d) % 3650000, true) else (0, 0, false) := by unfold mfloor; rw [if_neg (by omega)]
  rw [if_neg (by decide), ew, h k (by omega), Option.bind_some, em]
  unfold spanN
  generalize p * (r * d) = n at hn ⊢
  by_cases f : -9223372036854775808 ≤ n / 3650000 ∧ n / 3650000 ≤ 9223372036854775807
  · rw [if_pos f, if_pos rfl]
    simp only []
    rw [w64 (x := n % 3650000 + c) (by omega) (by omega)]
    by_cases g : n % 3650000 + c < 3650000
    · rw [if_pos g, if_pos (by omega)]
      congr 2
      · omega
      · congr 1
        omega
    · rw [if_neg g]
      by_cases y : n / 3650000 = 9223372036854775807
      · rw [if_pos y, if_neg (by omega)]
      · rw [if_neg y, if_pos (by omega), w64 (by omega) (by omega), w64 (by omega) (by omega)]
        congr 2
        · omega
        · congr 1
          omega
  · rw [if_neg f, if_neg Bool.false_ne_true, if_neg (by omega)]
theorem span_ev (p r c d : Int) (hp : I64 p) : Ev (fun k => interest_Span.f k p r c d) (span p r c d) := by
  have no1 : Ev (fun k => interest_Span.j1 k p r c d true) ((0 : Int), (0 : Int), false) := Ev_one (fun k => by simp only [interest_Span.j1]; rw [if_pos True.intro])
  have no : Ev (fun k => interest_Span.j0 k p r c d true) ((0 : Int), (0 : Int), false) := Ev_one (fun k => by simp only [interest_Span.j0]; rw [if_pos True.intro])
  unfold span
  by_cases c1 : p < 0
  · rw [if_neg (fun h => by unfold may at h; omega)]
    exact Ev.congr (fun k => by simp only [interest_Span.f]; rw [if_pos c1]) no
  · by_cases c2 : 0 ≤ r ∧ r ≤ 100000
    · by_cases c3 : c < 0
      · rw [if_neg (fun h => by unfold may at h; omega)]
        exact Ev.congr (fun k => by simp only [interest_Span.f]; rw [if_neg c1, isRate_eq, decide_eq_true c2, Option.bind_some, if_pos rfl, if_pos c3]) no
      · by_cases c4 : c ≥ 3650000
        · rw [if_neg (fun h => by unfold may at h; omega)]
          exact Ev.congr (fun k => by simp only [interest_Span.f]; rw [if_neg c1, isRate_eq, decide_eq_true c2, Option.bind_some, if_pos rfl, if_neg c3, decide_eq_true c4]) no
        · refine Ev.congr (f := fun k => interest_Span.j0 k p r c d false) (fun k => by simp only [interest_Span.f]; rw [if_neg c1, isRate_eq, decide_eq_true c2, Option.bind_some, if_pos rfl, if_neg c3, decide_eq_false c4]) ?_
          by_cases c5 : d < 0
          · rw [if_neg (fun h => by unfold may at h; omega)]
            exact Ev.step (fun k => by simp only [interest_Span.j0]; rw [if_neg (by decide), if_pos c5]) no1
          · by_cases c6 : d > 3652059
            · rw [if_neg (fun h => by unfold may at h; omega)]
              exact Ev.step (fun k => by simp only [interest_Span.j0]; rw [if_neg (by decide), if_neg c5, decide_eq_true c6]) no1
            · have m : may p r c d := by unfold may; omega
              rw [if_pos m]
              exact Ev.step (fun k => by simp only [interest_Span.j0]; rw [if_neg (by decide), if_neg c5, decide_eq_false c6]) (span_in p r c d hp m)
    · rw [if_neg (fun h => by unfold may at h; omega)]
      exact Ev.congr (fun k => by simp only [interest_Span.f]; rw [if_neg c1, isRate_eq, decide_eq_false c2, Option.bind_some, if_neg Bool.false_ne_true]) no

/-- A month's interest. -/
def month (b r : Int) : Int := rnd (b * r) 120000
def monthOk (b r : Int) : Int × Bool := if 0 ≤ b ∧ (0 ≤ r ∧ r ≤ 100000) then (month b r, true) else (0, false)
theorem prod_le (b r : Int) (hb : 0 ≤ b) (hr : 0 ≤ r) (hr1 : r ≤ 100000) : 0 ≤ b * r ∧ b * r ≤ b * 100000 := ⟨Int.mul_nonneg hb hr, Int.mul_le_mul_of_nonneg_left hr1 hb⟩
theorem month_bd (b r : Int) (hb : 0 ≤ b) (hr : 0 ≤ r) (hr1 : r ≤ 100000) : 0 ≤ month b r ∧ month b r ≤ b := by
  obtain ⟨p0, p1⟩ := prod_le b r hb hr hr1
  unfold month rnd
  generalize b * r = n at p0 p1 ⊢
  repeat' split
  all_goals omega
theorem month_ev (b r : Int) (hb : I64 b) (hr : I64 r) : Ev (fun k => interest_Month.f k b r) (monthOk b r) := by
  unfold monthOk
  by_cases c1 : b < 0
  · rw [if_neg (by omega)]
    exact Ev_eq (fun k => by simp only [interest_Month.f]; rw [if_pos c1])
  · by_cases c2 : 0 ≤ r ∧ r ≤ 100000
    · rw [if_pos ⟨by omega, c2⟩]
      obtain ⟨K, h⟩ := Ev_out (muldiv_ev b r 120000 hb hr (by unfold I64; omega))
      have e : mdiv b r 120000 = (month b r, true) := by
        unfold mdiv
        rw [if_neg (by omega), decide_eq_false c1, decide_eq_false (show ¬ r < 0 by omega), decide_eq_false (show ¬ (120000 : Int) < 0 by omega), if_neg (by decide)]
        have en : ((b.natAbs * r.natAbs : Nat) : Int) = b * r := by rw [← prod_pos (by omega)]
        rw [en]
        have := month_bd b r (by omega) c2.1 c2.2
        unfold I64 at hb
        exact fits_in (show I64 (month b r) by unfold I64; omega)
      refine ⟨K, fun k hk => ?_⟩
      simp only [interest_Month.f]
      rw [if_neg c1, isRate_eq, decide_eq_true c2, Option.bind_some, if_pos rfl, h k hk, e]
      rfl
    · rw [if_neg (fun h => c2 h.2)]
      exact Ev_eq (fun k => by simp only [interest_Month.f]; rw [if_neg c1, isRate_eq, decide_eq_false c2, Option.bind_some, if_neg Bool.false_ne_true])

end Go.Proofs.Ytcaeaklbglhghaa.ISpan
