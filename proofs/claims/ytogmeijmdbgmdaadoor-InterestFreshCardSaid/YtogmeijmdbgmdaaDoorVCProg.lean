/- What the printed functions of the calendar (the program's and the document's) compute: leap years, a month's days, a date's number. Plain Lean over the printed functions. -/
import Derived.Test.YtogmeijmdbgmdaaDoorVCDate
import Derived.Test.YtogmeijmdbgmdaaDoorVPFx4
import Derived.Test.YtogmeijmdbgmdaaDoorVPFx5
namespace Go.Proofs.YtogmeijmdbgmdaaDoor.CProg
open Go.RowKit Go.Proofs.YtogmeijmdbgmdaaDoor.PF Go.Proofs.YtogmeijmdbgmdaaDoorW.PrintWords Go.Proofs.YtogmeijmdbgmdaaDoorW.PrintLast Go.Proofs.YtogmeijmdbgmdaaDoorW.PrintMore Go.Proofs.YtogmeijmdbgmdaaDoor.MB Go.Proofs.YtogmeijmdbgmdaaDoor.CDate
set_option linter.unusedVariables false
set_option linter.unusedSectionVars false
set_option linter.unusedSimpArgs false

theorem leap_eq (y : Int) : calendar_Leap.f y = some (decide (1 ≤ y ∧ y ≤ 9999 ∧ Lp y)) := by
  unfold calendar_Leap.f
  by_cases c1 : y < 1
  · rw [if_pos c1, decide_eq_false (by omega)]
  · rw [if_neg c1]
    by_cases c2 : y > 9999
    · rw [if_pos c2, decide_eq_false (by omega)]
    · rw [if_neg c2]
      simp only [tm (show 0 ≤ y by omega)]
      by_cases c3 : y % 4 = 0
      · rw [if_pos c3]
        by_cases c4 : y % 100 = 0
        · rw [if_pos c4]
          by_cases c5 : y % 400 = 0
          · rw [decide_eq_true ⟨by omega, by omega, c3, .inr c5⟩]; simp [c5]
          · rw [decide_eq_false (fun h => by have := h.2.2; unfold Lp at this; omega)]; simp [c5]
        · rw [if_neg c4, decide_eq_true ⟨by omega, by omega, c3, .inl c4⟩]
      · rw [if_neg c3, decide_eq_false (fun h => c3 h.2.2.1)]
theorem leap_in {y : Int} (h0 : 1 ≤ y) (h1 : y ≤ 9999) : calendar_Leap.f y = some (decide (Lp y)) := by
  rw [leap_eq]
  by_cases c : Lp y
  · rw [decide_eq_true c, decide_eq_true ⟨h0, h1, c⟩]
  · rw [decide_eq_false c, decide_eq_false (fun h => c h.2.2)]
/-- A month's days, 0 out of the calendar. -/
def mlen (y m : Int) : Int := if 1 ≤ y ∧ y ≤ 9999 ∧ 1 ≤ m ∧ m ≤ 12 then ml y m else 0
theorem mlen_in {y m : Int} (h : 1 ≤ y ∧ y ≤ 9999 ∧ 1 ≤ m ∧ m ≤ 12) : mlen y m = ml y m := if_pos h
theorem mlen_out {y m : Int} (h : ¬ (1 ≤ y ∧ y ≤ 9999 ∧ 1 ≤ m ∧ m ≤ 12)) : mlen y m = 0 := if_neg h
theorem aheadT_bf (y : Int) {m : Int} (h0 : 1 ≤ m) (h1 : m ≤ 13) : rd aheadT (m - 1) = bf y m - (if m > 2 then lp y else 0) := by
  have := tb_bf y h0 h1
  have e : rd aheadT (m - 1) = rd tb (m - 1) := rfl
  omega
theorem monthLen_in (k : Nat) {y m : Int} (h : 1 ≤ y ∧ y ≤ 9999 ∧ 1 ≤ m ∧ m ≤ 12) : calendar_MonthLen.j0 (k + 1) y m false = some (ml y m) := by
  simp only [calendar_MonthLen.j0]
  have e0 : wrap64 (m - 1) = m - 1 := w64 (by omega) (by omega)
  have e1 := aheadT_bf y (m := m) (by omega) (by omega)
  have e2 := aheadT_bf y (m := m + 1) (by omega) (by omega)
  rw [show m + 1 - 1 = m by omega] at e2
  have e3 := bf_succ y h.2.2.1 h.2.2.2
  have hm := ml_bd y m
  have hl := lp_bd y
  rw [if_neg Bool.false_ne_true, if_pos (by omega), if_pos (by omega), e0, if_pos (by omega), if_pos (by omega), e1, e2]
  by_cases c : m = 2
  · have q1 : (if m + 1 > 2 then lp y else 0) = lp y := if_pos (by omega)
    have q2 : (if m > 2 then lp y else 0) = 0 := if_neg (by omega)
    rw [if_pos c, leap_in h.1 h.2.1, Option.bind_some, q1, q2]
    rw [q1] at e2
    rw [q2] at e1
    have e4 : bf y (m + 1) - bf y m = ml y m := by omega
    have e5 : ml y m = 28 + lp y := by unfold ml; rw [if_pos c]
    by_cases cl : Lp y
    · rw [decide_eq_true cl, if_pos rfl]
      rw [lp_yes cl] at hl e5 ⊢
      rw [show bf y (m + 1) - 1 - (bf y m - 0) = 28 by omega, e5]
      unfold wrap64
      rfl
    · rw [decide_eq_false cl, if_neg Bool.false_ne_true]
      rw [lp_no cl] at hl e5 ⊢
      rw [show bf y (m + 1) - 0 - (bf y m - 0) = 28 by omega, e5]
      unfold wrap64
      rfl
  · rw [if_neg c]
    have : (if m + 1 > 2 then lp y else 0) = (if m > 2 then lp y else 0) := by
      by_cases d : m > 2
      · rw [if_pos d, if_pos (by omega)]
      · rw [if_neg d, if_neg (by omega)]
    rw [this]
    generalize (if m > 2 then lp y else 0) = z
    rw [w64 (by omega) (by omega)]
    congr 1
    omega
theorem monthLen_ev (y m : Int) : Ev (fun k => calendar_MonthLen.f k y m) (mlen y m) := by
  refine Ev_one fun k => ?_
  simp only [calendar_MonthLen.f]
  have out : ¬ (1 ≤ y ∧ y ≤ 9999 ∧ 1 ≤ m ∧ m ≤ 12) → calendar_MonthLen.j0 (k + 1) y m true = some (mlen y m) := fun h => by
    simp only [calendar_MonthLen.j0]
    rw [if_pos True.intro, mlen_out h]
  by_cases c1 : y < 1
  · rw [if_pos c1]; exact out (by omega)
  · rw [if_neg c1]
    by_cases c2 : y > 9999
    · rw [if_pos c2]; exact out (by omega)
    · rw [if_neg c2]
      by_cases c3 : m < 1
      · rw [if_pos c3]; exact out (by omega)
      · rw [if_neg c3]
        by_cases c4 : m > 12
        · rw [decide_eq_true c4]; exact out (by omega)
        · rw [decide_eq_false c4, mlen_in (by omega)]
          exact monthLen_in k (by omega)
/-- What Number answers. -/
def numR (y m d : Int) : Int × Bool := if Valid y m d then (num y m d, true) else (0, false)
theorem valid_iff (y m d : Int) : Valid y m d ↔ 1 ≤ d ∧ d ≤ mlen y m := by
  unfold Valid
  by_cases h : 1 ≤ y ∧ y ≤ 9999 ∧ 1 ≤ m ∧ m ≤ 12
  · rw [mlen_in h]; omega
  · rw [mlen_out h]; omega
theorem number_in (k : Nat) {y m d : Int} (h : Valid y m d) : calendar_Number.j0 (k + 1) false y m d = some (num y m d, true) := by
  simp only [calendar_Number.j0]
  unfold Valid at h
  have e1 := aheadT_bf y (m := m) (by omega) (by omega)
  have e0 : wrap64 (m - 1) = m - 1 := w64 (by omega) (by omega)
  have hl := lp_bd y
  have hm := ml_bd y m
  have hb0 := bf_nn y h.2.2.1
  have hb1 := bf_le y (m := m) (by omega) (by omega)
  have hb2 := yl_bd y
  rw [if_neg Bool.false_ne_true, e0, if_pos (by omega), if_pos (by omega), e1]
  unfold num yb
  generalize bf y m = b at *
  by_cases c : m > 2
  · rw [if_pos c, leap_in h.1 h.2.1, Option.bind_some, if_pos c]
    by_cases cl : Lp y
    · rw [decide_eq_true cl, if_pos rfl, lp_yes cl]
      simp (discharger := omega) only [w64, td]
      congr 2
      omega
    · rw [decide_eq_false cl, if_neg Bool.false_ne_true, lp_no cl]
      simp (discharger := omega) only [w64, td]
      congr 2
      omega
  · rw [if_neg c, if_neg c]
    simp (discharger := omega) only [w64, td]
    congr 2
    omega
theorem number_ev (y m d : Int) : Ev (fun k => calendar_Number.f k y m d) (numR y m d) := by
  obtain ⟨K, h⟩ := Ev_out (monthLen_ev y m)
  refine ⟨K + 1, fun k hk => ?_⟩
  obtain ⟨k, rfl⟩ : ∃ j, k = j + 1 := ⟨k - 1, by omega⟩
  simp only [calendar_Number.f]
  have out : ¬ Valid y m d → calendar_Number.j0 (k + 1) true y m d = some (numR y m d) := fun hv => by
    simp only [calendar_Number.j0]
    rw [if_pos True.intro]
    unfold numR
    rw [if_neg hv]
  have hv := valid_iff y m d
  by_cases c1 : d < 1
  · rw [if_pos c1]; exact out (fun q => by have := hv.1 q; omega)
  · rw [if_neg c1, h _ (by omega), Option.bind_some]
    by_cases c2 : d > mlen y m
    · rw [decide_eq_true c2]; exact out (fun q => by have := hv.1 q; omega)
    · rw [decide_eq_false c2]
      have hv' : Valid y m d := hv.2 (by omega)
      unfold numR
      rw [if_pos hv']
      exact number_in k hv'
end Go.Proofs.YtogmeijmdbgmdaaDoor.CProg
