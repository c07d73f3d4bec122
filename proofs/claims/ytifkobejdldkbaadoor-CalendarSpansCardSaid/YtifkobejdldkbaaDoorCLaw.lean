/- The calendar's rule: the day behind a date, 400 years on; what the statements' own words (leaps, length, same, tomorrow) compute. Plain Lean over the printed functions. -/
import Derived.Test.YtifkobejdldkbaaDoorCDay
import Derived.Test.YtifkobejdldkbaaDoorPAx3
namespace Go.Proofs.YtifkobejdldkbaaDoor.CLaw
open Go.RowKit Go.Proofs.YtifkobejdldkbaaDoor.PA Go.Proofs.YtifkobejdldkbaaDoorW.PrintWords Go.Proofs.YtifkobejdldkbaaDoorW.PrintLast Go.Proofs.YtifkobejdldkbaaDoorW.PrintMore Go.Proofs.YtifkobejdldkbaaDoor.MB Go.Proofs.YtifkobejdldkbaaDoor.CDate Go.Proofs.YtifkobejdldkbaaDoor.CProg Go.Proofs.YtifkobejdldkbaaDoor.CDay
set_option linter.unusedVariables false
set_option linter.unusedSectionVars false
set_option linter.unusedSimpArgs false

theorem leaps_eq (y : Int) : arrearslaw2_leaps.f y = some (decide (Lp y)) := divides_eq y
theorem length_eq (y m : Int) : arrearslaw2_length.f y m = some (ml y m) := lenOf_eq y m
theorem same_eq (a b c x y z : Int) : arrearslaw2_same.f a b c x y z = some (decide (a = x ∧ b = y ∧ c = z)) := by
  unfold arrearslaw2_same.f
  by_cases h1 : a = x
  · rw [if_pos h1]
    by_cases h2 : b = y
    · rw [if_pos h2]
      by_cases h3 : c = z
      · rw [decide_eq_true ⟨h1, h2, h3⟩]; simp [h3]
      · rw [decide_eq_false (fun h => h3 h.2.2)]; simp [h3]
    · rw [if_neg h2, decide_eq_false (fun h => h2 h.2.1)]
  · rw [if_neg h1, decide_eq_false (fun h => h1 h.1)]
/-- The date behind a date. -/
def next (y m d : Int) : Int × Int × Int := if d < ml y m then (y, m, d + 1) else if m < 12 then (y, m + 1, 1) else (y + 1, 1, 1)
theorem tomorrow_eq {y m d : Int} (v : Valid y m d) : arrearslaw2_tomorrow.f y m d = some (next y m d) := by
  unfold arrearslaw2_tomorrow.f next
  have hml := ml_bd y m
  unfold Valid at v
  rw [length_eq, Option.bind_some]
  by_cases c : d < ml y m
  · rw [if_pos c, if_pos c, w64 (by omega) (by omega)]
  · rw [if_neg c, if_neg c]
    by_cases c2 : m < 12
    · rw [if_pos c2, if_pos c2, w64 (by omega) (by omega)]
    · rw [if_neg c2, if_neg c2, w64 (by omega) (by omega)]
theorem next_civ {n y m d : Int} (v : Valid y m d) (e : num y m d = n) (h : n < 3652059) : civ (n + 1) = ((next y m d).1, (next y m d).2.1, (next y m d).2.2, true) := by
  have hml := ml_bd y m
  have hs := bf_succ y v.2.2.1 v.2.2.2.1
  have he := bf_end y
  have hy := yb_succ y
  have ho := bf_one (y + 1)
  have v' := v
  unfold Valid at v'
  unfold next
  by_cases c : d < ml y m
  · rw [if_pos c]
    have w : Valid y m (d + 1) := by unfold Valid; omega
    have := civ_num w
    rw [show num y m (d + 1) = n + 1 by unfold num at e ⊢; omega] at this
    exact this
  · rw [if_neg c]
    by_cases c2 : m < 12
    · rw [if_pos c2]
      have hml' := ml_bd y (m + 1)
      have w : Valid y (m + 1) 1 := by unfold Valid; omega
      have := civ_num w
      rw [show num y (m + 1) 1 = n + 1 by unfold num at e ⊢; omega] at this
      exact this
    · rw [if_neg c2]
      obtain rfl : m = 12 := by omega
      rw [show (12 : Int) + 1 = 13 from rfl, he] at hs
      have hy9 : y + 1 ≤ 9999 := by
        by_cases g : y + 1 ≤ 9999
        · exact g
        · obtain rfl : y = 9999 := by omega
          rw [show (9999 : Int) + 1 = 10000 from rfl, yb_end] at hy
          unfold num at e
          omega
      have hml' := ml_bd (y + 1) 1
      have w : Valid (y + 1) 1 1 := by unfold Valid; omega
      have := civ_num w
      rw [show num (y + 1) 1 1 = n + 1 by unfold num at e ⊢; omega] at this
      exact this
/-- 400 years on. -/
theorem lp_400 (y : Int) : lp (y + 400) = lp y := by
  by_cases c : Lp y
  · rw [lp_yes c, lp_yes (by unfold Lp at c ⊢; omega)]
  · rw [lp_no c, lp_no (by unfold Lp at c ⊢; omega)]
theorem civ_400 {n y m d : Int} (v : Valid y m d) (e : num y m d = n) (h : n + 146097 ≤ 3652059) : civ (n + 146097) = (y + 400, m, d, true) := by
  have h1 := num_in v
  have eb : yb (y + 400) = yb y + 146097 := by unfold yb; omega
  have ef : bf (y + 400) m = bf y m := by unfold bf; rw [lp_400]
  have el : ml (y + 400) m = ml y m := by unfold ml; rw [lp_400]
  have v' := v
  unfold Valid at v'
  have hy9 : y + 400 ≤ 9999 := by
    by_cases g : y + 400 ≤ 9999
    · exact g
    · have := yb_mono (y := 10000) (z := y + 400) (by omega)
      rw [yb_end] at this
      omega
  have w : Valid (y + 400) m d := by unfold Valid; rw [el]; omega
  have := civ_num w
  rw [show num (y + 400) m d = n + 146097 by unfold num at e ⊢; omega] at this
  exact this
theorem civ_first : civ 1 = (1, 1, 1, true) := by
  have := civ_num (y := 1) (m := 1) (d := 1) (by decide)
  rw [show num 1 1 1 = 1 from rfl] at this
  exact this
theorem civ_last : civ 3652059 = (9999, 12, 31, true) := by
  have := civ_num (y := 9999) (m := 12) (d := 31) (by decide)
  rw [show num 9999 12 31 = 3652059 from rfl] at this
  exact this
end Go.Proofs.YtifkobejdldkbaaDoor.CLaw
