/- The program's Month as a plain function on numbers: a month's twelfth, rounded half to even. Plain Lean over the printed functions. -/
import Derived.Test.YtogmeijmdbgmdaaDoorVMMulD
import Derived.Test.YtogmeijmdbgmdaaDoorVPFx2
import Derived.Test.YtogmeijmdbgmdaaDoorVPFx1
namespace Go.Proofs.YtogmeijmdbgmdaaDoor.IMonth
open Go.RowKit Go.Proofs.YtogmeijmdbgmdaaDoor.PF Go.Proofs.YtogmeijmdbgmdaaDoorW.PrintWords Go.Proofs.YtogmeijmdbgmdaaDoorW.PrintLast Go.Proofs.YtogmeijmdbgmdaaDoorW.PrintMore Go.Proofs.YtogmeijmdbgmdaaDoor.MB Go.Proofs.YtogmeijmdbgmdaaDoor.MMulD
set_option linter.unusedVariables false
set_option linter.unusedSectionVars false
set_option linter.unusedSimpArgs false

theorem mul_bd {a b A B : Int} (h0 : 0 ≤ a) (h1 : a ≤ A) (h2 : 0 ≤ b) (h3 : b ≤ B) : 0 ≤ a * b ∧ a * b ≤ A * B :=
  ⟨Int.mul_nonneg h0 h2, Int.mul_le_mul h1 h3 h2 (by omega)⟩
theorem isRate_eq (x : Int) : interest_isRate.f x = some (decide (0 ≤ x ∧ x ≤ 100000)) := by
  unfold interest_isRate.f
  by_cases c : x ≥ 0
  · rw [if_pos c]
    congr 1
    by_cases c2 : x ≤ 100000
    · rw [decide_eq_true c2, decide_eq_true (by omega)]
    · rw [decide_eq_false c2, decide_eq_false (by omega)]
  · rw [if_neg c, decide_eq_false (by omega)]
/-- A month's interest. -/
def month (b r : Int) : Int := rnd (b * r) 120000
def monthOk (b r : Int) : Int × Bool := if 0 ≤ b ∧ (0 ≤ r ∧ r ≤ 100000) then (month b r, true) else (0, false)
theorem prod_le (b r : Int) (hb : 0 ≤ b) (hr : 0 ≤ r) (hr1 : r ≤ 100000) : 0 ≤ b * r ∧ b * r ≤ b * 100000 := ⟨Int.mul_nonneg hb hr, Int.mul_le_mul_of_nonneg_left hr1 hb⟩
theorem month_bd (b r : Int) (hb : 0 ≤ b) (hr : 0 ≤ r) (hr1 : r ≤ 100000) : 0 ≤ month b r ∧ month b r ≤ b := by
  obtain ⟨p0, p1⟩ := prod_le b r hb hr hr1
  unfold month rnd
  generalize b * r = n at p0 p1 ⊢
  repeat' split
  all_goals omega
theorem month_ev (b r : Int) (hb : I64 b) (hr : I64 r) : Ev (fun k => interest_Month.f k b r) (monthOk b r) := by
  unfold monthOk
  by_cases c1 : b < 0
  · rw [if_neg (by omega)]
    exact Ev_eq (fun k => by simp only [interest_Month.f]; rw [if_pos c1])
  · by_cases c2 : 0 ≤ r ∧ r ≤ 100000
    · rw [if_pos ⟨by omega, c2⟩]
      obtain ⟨K, h⟩ := Ev_out (muldiv_ev b r 120000 hb hr (by unfold I64; omega))
      have e : mdiv b r 120000 = (month b r, true) := by
        unfold mdiv
        rw [if_neg (by omega), decide_eq_false c1, decide_eq_false (show ¬ r < 0 by omega), decide_eq_false (show ¬ (120000 : Int) < 0 by omega), if_neg (by decide)]
        have en : ((b.natAbs * r.natAbs : Nat) : Int) = b * r := by rw [← prod_pos (by omega)]
        rw [en]
        have := month_bd b r (by omega) c2.1 c2.2
        unfold I64 at hb
        exact fits_in (show I64 (month b r) by unfold I64; omega)
      refine ⟨K, fun k hk => ?_⟩
      simp only [interest_Month.f]
      rw [if_neg c1, isRate_eq, decide_eq_true c2, Option.bind_some, if_pos rfl, h k hk, e]
      rfl
    · rw [if_neg (fun h => c2 h.2)]
      exact Ev_eq (fun k => by simp only [interest_Month.f]; rw [if_neg c1, isRate_eq, decide_eq_false c2, Option.bind_some, if_neg Bool.false_ne_true])

end Go.Proofs.YtogmeijmdbgmdaaDoor.IMonth
