/- Dates of the Gregorian calendar as numbers: leap years, how many days lie ahead of a year and of a month, a date's number, one to one. Plain Lean, no program in sight. -/
import Derived.Test.YtogmeijmdbgmdaaDoorVMB
namespace Go.Proofs.YtogmeijmdbgmdaaDoor.CDate
open Go.RowKit Go.Proofs.YtogmeijmdbgmdaaDoorW.PrintWords Go.Proofs.YtogmeijmdbgmdaaDoorW.PrintLast Go.Proofs.YtogmeijmdbgmdaaDoorW.PrintMore Go.Proofs.YtogmeijmdbgmdaaDoor.MB
set_option linter.unusedVariables false
set_option linter.unusedSectionVars false
set_option linter.unusedSimpArgs false

theorem tm {a b : Int} (h : 0 ≤ a) : Int.tmod a b = a % b := Int.tmod_eq_emod_of_nonneg h
theorem td {a b : Int} (h : 0 ≤ a) : Int.tdiv a b = a / b := Int.tdiv_eq_ediv_of_nonneg h
theorem tm0 (a b : Int) : Int.tmod a b = 0 ↔ a % b = 0 := by
  rw [← Int.dvd_iff_tmod_eq_zero, Int.dvd_iff_emod_eq_zero]

/-- A leap year of the calendar without bounds. -/
def Lp (y : Int) : Prop := y % 4 = 0 ∧ (y % 100 ≠ 0 ∨ y % 400 = 0)
instance (y : Int) : Decidable (Lp y) := by unfold Lp; infer_instance
def lp (y : Int) : Int := if Lp y then 1 else 0
theorem lp_bd (y : Int) : 0 ≤ lp y ∧ lp y ≤ 1 := by unfold lp; split <;> omega
theorem lp_yes {y : Int} (h : Lp y) : lp y = 1 := if_pos h
theorem lp_no {y : Int} (h : ¬ Lp y) : lp y = 0 := if_neg h
/-- A year's days; the days ahead of a year; the days of a year ahead of a month; a month's days. -/
def yl (y : Int) : Int := 365 + lp y
def yb (y : Int) : Int := 365 * (y - 1) + (y - 1) / 4 - (y - 1) / 100 + (y - 1) / 400
def bf (y m : Int) : Int := (367 * m - 362) / 12 - (if m ≤ 2 then 0 else 2 - lp y)
def ml (y m : Int) : Int := if m = 2 then 28 + lp y else if m = 4 ∨ m = 6 ∨ m = 9 ∨ m = 11 then 30 else 31
theorem yl_bd (y : Int) : 365 ≤ yl y ∧ yl y ≤ 366 := by unfold yl; have := lp_bd y; omega
theorem ml_bd (y m : Int) : 28 ≤ ml y m ∧ ml y m ≤ 31 := by
  have := lp_bd y
  unfold ml
  split
  · omega
  · split <;> omega
theorem yb_succ (y : Int) : yb (y + 1) = yb y + yl y := by
  unfold yb yl
  rw [show y + 1 - 1 = y by omega]
  by_cases c : Lp y
  · rw [lp_yes c]
    unfold Lp at c
    omega
  · rw [lp_no c]
    unfold Lp at c
    omega
theorem yb_one : yb 1 = 0 := rfl
theorem yb_end : yb 10000 = 3652059 := rfl
theorem yb_mono {y z : Int} (h : y ≤ z) : yb y ≤ yb z := by
  unfold yb
  by_cases e : y = z
  · subst e; omega
  · omega
theorem months {m : Int} (h0 : 1 ≤ m) (h1 : m ≤ 12) : m = 1 ∨ m = 2 ∨ m = 3 ∨ m = 4 ∨ m = 5 ∨ m = 6 ∨ m = 7 ∨ m = 8 ∨ m = 9 ∨ m = 10 ∨ m = 11 ∨ m = 12 := by omega
theorem bf_succ (y : Int) {m : Int} (h0 : 1 ≤ m) (h1 : m ≤ 12) : bf y (m + 1) = bf y m + ml y m := by
  have := lp_bd y
  rcases months h0 h1 with rfl | rfl | rfl | rfl | rfl | rfl | rfl | rfl | rfl | rfl | rfl | rfl <;> simp [bf, ml] <;> omega
theorem bf_one (y : Int) : bf y 1 = 0 := by simp [bf]
theorem bf_end (y : Int) : bf y 13 = yl y := by
  unfold yl bf
  rw [if_neg (by omega)]
  omega
theorem bf_mono (y : Int) {m n : Int} (h0 : 1 ≤ m) (h : m ≤ n) : bf y m ≤ bf y n := by
  have := lp_bd y
  unfold bf
  split <;> split <;> omega
theorem bf_nn (y : Int) {m : Int} (h0 : 1 ≤ m) : 0 ≤ bf y m := by rw [← bf_one y]; exact bf_mono y (by omega) h0
theorem bf_le (y : Int) {m : Int} (h0 : 1 ≤ m) (h1 : m ≤ 13) : bf y m ≤ yl y := by rw [← bf_end y]; exact bf_mono y h0 h1
def tb : List Int := [0, 31, 59, 90, 120, 151, 181, 212, 243, 273, 304, 334, 365]
theorem tb_bf (y : Int) {m : Int} (h0 : 1 ≤ m) (h1 : m ≤ 13) : bf y m = rd tb (m - 1) + (if m > 2 then lp y else 0) := by
  by_cases e : m = 13
  · subst e
    rw [bf_end]
    rfl
  · rcases months h0 (by omega) with rfl | rfl | rfl | rfl | rfl | rfl | rfl | rfl | rfl | rfl | rfl | rfl <;> simp [bf, tb, rd] <;> omega

def Valid (y m d : Int) : Prop := 1 ≤ y ∧ y ≤ 9999 ∧ 1 ≤ m ∧ m ≤ 12 ∧ 1 ≤ d ∧ d ≤ ml y m
instance (y m d : Int) : Decidable (Valid y m d) := by unfold Valid; infer_instance
def num (y m d : Int) : Int := yb y + bf y m + d
theorem num_lo {y m d : Int} (h : Valid y m d) : yb y + bf y m < num y m d := by unfold Valid at h; unfold num; omega
theorem num_hi {y m d : Int} (h : Valid y m d) : num y m d ≤ yb y + bf y (m + 1) := by
  unfold Valid at h
  have := bf_succ y h.2.2.1 h.2.2.2.1
  unfold num
  omega
theorem num_in {y m d : Int} (h : Valid y m d) : yb y < num y m d ∧ num y m d ≤ yb (y + 1) := by
  have h1 := num_lo h
  have h2 := num_hi h
  unfold Valid at h
  have h3 := bf_nn y h.2.2.1
  have h4 := bf_le y (m := m + 1) (by omega) (by omega)
  rw [yb_succ]
  omega
theorem num_day {y m d : Int} (h : Valid y m d) : 1 ≤ num y m d ∧ num y m d ≤ 3652059 := by
  have h1 := num_in h
  unfold Valid at h
  have h2 := yb_mono (y := 1) (z := y) (by omega)
  have h3 := yb_mono (y := y + 1) (z := 10000) (by omega)
  rw [yb_one] at h2
  rw [yb_end] at h3
  omega
theorem num_year {y m d y' m' d' : Int} (h : Valid y m d) (h' : Valid y' m' d') (e : y < y') : num y m d < num y' m' d' := by
  have h1 := num_in h
  have h2 := num_in h'
  have h3 := yb_mono (y := y + 1) (z := y') (by omega)
  omega
theorem num_month {y m d m' d' : Int} (h : Valid y m d) (h' : Valid y m' d') (e : m < m') : num y m d < num y m' d' := by
  have h1 := num_hi h
  have h2 := num_lo h'
  have h3 := bf_mono y (m := m + 1) (n := m') (by unfold Valid at h; omega) (by omega)
  omega
/-- ONE TO ONE. -/
theorem num_inj {y m d y' m' d' : Int} (h : Valid y m d) (h' : Valid y' m' d') (e : num y m d = num y' m' d') : y = y' ∧ m = m' ∧ d = d' := by
  have ey : y = y' := by
    rcases Int.lt_trichotomy y y' with c | c | c
    · have := num_year h h' c; omega
    · exact c
    · have := num_year h' h c; omega
  subst ey
  have em : m = m' := by
    rcases Int.lt_trichotomy m m' with c | c | c
    · have := num_month h h' c; omega
    · exact c
    · have := num_month h' h c; omega
  subst em
  refine ⟨rfl, rfl, ?_⟩
  unfold num at e
  omega
/-- The order of the numbers is the order of the dates. -/
theorem num_lt_iff {y m d y' m' d' : Int} (h : Valid y m d) (h' : Valid y' m' d') : num y m d < num y' m' d' ↔ (y < y' ∨ (y = y' ∧ (m < m' ∨ (m = m' ∧ d < d')))) := by
  constructor
  · intro hl
    rcases Int.lt_trichotomy y y' with c | c | c
    · exact .inl c
    · subst c
      refine .inr ⟨rfl, ?_⟩
      rcases Int.lt_trichotomy m m' with c | c | c
      · exact .inl c
      · subst c
        exact .inr ⟨rfl, by unfold num at hl; omega⟩
      · have := num_month h' h c; omega
    · have := num_year h' h c; omega
  · rintro (c | ⟨rfl, c | ⟨rfl, c⟩⟩)
    · exact num_year h h' c
    · exact num_month h h' c
    · unfold num; omega
end Go.Proofs.YtogmeijmdbgmdaaDoor.CDate
