/- The document's own count of a date's number, year by year and month by month, is the number. Plain Lean over the printed functions. -/
import Derived.Test.YtogmeijmdbgmdaaDoorZCProg
import Derived.Test.YtogmeijmdbgmdaaDoorZPAx12
namespace Go.Proofs.YtogmeijmdbgmdaaDoor.CRef
open Go.RowKit Go.Proofs.YtogmeijmdbgmdaaDoor.PA Go.Proofs.YtogmeijmdbgmdaaDoorW.PrintWords Go.Proofs.YtogmeijmdbgmdaaDoorW.PrintLast Go.Proofs.YtogmeijmdbgmdaaDoorW.PrintMore Go.Proofs.YtogmeijmdbgmdaaDoor.MB Go.Proofs.YtogmeijmdbgmdaaDoor.CDate Go.Proofs.YtogmeijmdbgmdaaDoor.CProg
set_option linter.unusedVariables false
set_option linter.unusedSectionVars false
set_option linter.unusedSimpArgs false

theorem refMonthLen_eq (y m : Int) : arrearsref2_MonthLen.f y m = some (mlen y m) := by
  unfold arrearsref2_MonthLen.f
  by_cases c1 : y < 1
  · rw [if_pos c1, mlen_out (by omega)]
  · rw [if_neg c1]
    by_cases c2 : y > 9999
    · rw [if_pos c2, mlen_out (by omega)]
    · rw [if_neg c2]
      by_cases c3 : m < 1
      · rw [if_pos c3, mlen_out (by omega)]
      · rw [if_neg c3]
        by_cases c4 : m > 12
        · rw [if_pos c4, mlen_out (by omega)]
        · rw [if_neg c4, lenOf_eq, Option.bind_some, mlen_in (by omega)]
theorem yb_bd {y : Int} (h0 : 1 ≤ y) (h1 : y ≤ 10000) : 0 ≤ yb y ∧ yb y ≤ 3652059 := by
  have h2 := yb_mono h0
  have h3 := yb_mono h1
  rw [yb_one] at h2
  rw [yb_end] at h3
  omega
theorem refl1 (y m d : Int) (h : Valid y m d) : ∀ (n : Nat) (x : Int), (m - x).toNat = n → 1 ≤ x → x ≤ m → Ev (fun k => arrearsref2_Number.l1 k (yb y + bf y x) x y m d) (num y m d, true)
  | n, x, e, h0, h1 => by
    have hb := yb_bd (y := y) (by unfold Valid at h; omega) (by unfold Valid at h; omega)
    have hx := bf_nn y h0
    have hx' := bf_le y h0 (by unfold Valid at h; omega)
    have hy := yl_bd y
    have hm := ml_bd y m
    have hmx := ml_bd y x
    by_cases c : x < m
    · refine Ev.step (fun k => ?_) (refl1 y m d h (n - 1) (x + 1) (by omega) (by omega) (by omega))
      simp only [arrearsref2_Number.l1]
      rw [if_pos c, lenOf_eq, Option.bind_some]
      have hs := bf_succ y h0 (by unfold Valid at h; omega)
      unfold Valid at h
      rw [w64 (x := x + 1) (by omega) (by omega), w64 (x := yb y + bf y x + ml y x) (by omega) (by omega), hs, Int.add_assoc]
    · refine Ev_one fun k => ?_
      simp only [arrearsref2_Number.l1]
      obtain rfl : x = m := by omega
      unfold Valid at h
      rw [if_neg c, w64 (by omega) (by omega)]
      rfl
  termination_by n => n
  decreasing_by omega
theorem refl0 (y m d : Int) (h : Valid y m d) : ∀ (n : Nat) (x : Int), (y - x).toNat = n → 1 ≤ x → x ≤ y → Ev (fun k => arrearsref2_Number.l0 k (yb x) x y m d) (num y m d, true)
  | n, x, e, h0, h1 => by
    have hb := yb_bd h0 (by unfold Valid at h; omega)
    have hy := yl_bd x
    by_cases c : x < y
    · refine Ev.step (fun k => ?_) (refl0 y m d h (n - 1) (x + 1) (by omega) (by omega) (by omega))
      simp only [arrearsref2_Number.l0]
      rw [if_pos c, yearLen_eq, Option.bind_some]
      unfold Valid at h
      rw [w64 (x := x + 1) (by omega) (by omega), w64 (x := yb x + yl x) (by omega) (by omega), yb_succ]
    · obtain rfl : x = y := by omega
      have hl := refl1 x m d h (m - 1).toNat 1 rfl (by omega) (by unfold Valid at h; omega)
      rw [bf_one, Int.add_zero] at hl
      refine Ev.step (fun k => ?_) hl
      simp only [arrearsref2_Number.l0]
      rw [if_neg c]
  termination_by n => n
  decreasing_by omega
theorem refNumber_ev (y m d : Int) : Ev (fun k => arrearsref2_Number.f k y m d) (numR y m d) := by
  have hv := valid_iff y m d
  by_cases v : Valid y m d
  · have hl := refl0 y m d v (y - (400 * ((y - 1) / 400) + 1)).toNat (400 * ((y - 1) / 400) + 1) rfl (by unfold Valid at v; omega) (by omega)
    have e : yb (400 * ((y - 1) / 400) + 1) = (y - 1) / 400 * 146097 := by unfold yb; omega
    rw [e] at hl
    refine Ev.step (fun k => ?_) (show Ev (fun k => arrearsref2_Number.l0 k ((y - 1) / 400 * 146097) (400 * ((y - 1) / 400) + 1) y m d) (numR y m d) by unfold numR; rw [if_pos v]; exact hl)
    simp only [arrearsref2_Number.f]
    have h1 := hv.1 v
    rw [if_neg (by omega), refMonthLen_eq, Option.bind_some, decide_eq_false (by omega)]
    simp only [arrearsref2_Number.j0]
    rw [if_neg Bool.false_ne_true]
    unfold Valid at v
    simp (discharger := omega) only [w64, td]
  · refine Ev_one fun k => ?_
    have e : arrearsref2_Number.j0 (k + 1) true y m d = some (numR y m d) := by
      simp only [arrearsref2_Number.j0]
      rw [if_pos True.intro]
      unfold numR
      rw [if_neg v]
    simp only [arrearsref2_Number.f]
    by_cases c1 : d < 1
    · rw [if_pos c1, e]
    · rw [if_neg c1, refMonthLen_eq, Option.bind_some, decide_eq_true (show d > mlen y m from by
        by_cases q : d > mlen y m
        · exact q
        · exact absurd (hv.2 ⟨by omega, by omega⟩) v), e]
end Go.Proofs.YtogmeijmdbgmdaaDoor.CRef
