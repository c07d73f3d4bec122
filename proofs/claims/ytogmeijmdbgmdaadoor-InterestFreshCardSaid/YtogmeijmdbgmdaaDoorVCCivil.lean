/- A day's date: the program's division by 400, 100, 4 and 1 years and the search of the month; the document's count year by year, month by month: both tell the one date whose number is the day. Plain Lean over the printed functions. -/
import Derived.Test.YtogmeijmdbgmdaaDoorVCRef
import Derived.Test.YtogmeijmdbgmdaaDoorVPFx4
namespace Go.Proofs.YtogmeijmdbgmdaaDoor.CCivil
open Go.RowKit Go.Proofs.YtogmeijmdbgmdaaDoor.PF Go.Proofs.YtogmeijmdbgmdaaDoorW.PrintWords Go.Proofs.YtogmeijmdbgmdaaDoorW.PrintLast Go.Proofs.YtogmeijmdbgmdaaDoorW.PrintMore Go.Proofs.YtogmeijmdbgmdaaDoor.MB Go.Proofs.YtogmeijmdbgmdaaDoor.CDate Go.Proofs.YtogmeijmdbgmdaaDoor.CProg Go.Proofs.YtogmeijmdbgmdaaDoor.CRef
set_option linter.unusedVariables false
set_option linter.unusedSectionVars false
set_option linter.unusedSimpArgs false

theorem start_eq {y m : Int} (h0 : 1 ≤ y) (h1 : y ≤ 9999) (h2 : 1 ≤ m) (h3 : m ≤ 13) : calendar_start.f y m = some (bf y m) := by
  unfold calendar_start.f
  have e1 := aheadT_bf y h2 h3
  have hb0 := bf_nn y h2
  have hb1 := bf_le y h2 h3
  have hb2 := yl_bd y
  rw [w64 (x := m - 1) (by omega) (by omega), if_pos (by omega), if_pos (by omega), e1]
  generalize bf y m = b at *
  by_cases c : m > 2
  · rw [if_pos c, leap_in h0 h1, Option.bind_some, if_pos c]
    by_cases cl : Lp y
    · rw [decide_eq_true cl, if_pos rfl, lp_yes cl, w64 (by omega) (by omega)]
      congr 1
      omega
    · rw [decide_eq_false cl, if_neg Bool.false_ne_true, lp_no cl]
      congr 1
      omega
  · rw [if_neg c, if_neg c]
    congr 1
    omega
/-- The month is sought upwards. -/
theorem civl0 (y left : Int) (h0 : 1 ≤ y) (h1 : y ≤ 9999) (hl : left < yl y) : ∀ (n : Nat) (m : Int), (12 - m).toNat = n → 1 ≤ m → m ≤ 12 → bf y m ≤ left →
    ∃ m' d', Valid y m' d' ∧ bf y m' + d' = left + 1 ∧ Ev (fun k => calendar_Civil.l0 k left y m) (y, m', d', true)
  | n, m, e, h2, h3, h4 => by
    have hb0 := bf_nn y h2
    have hb2 := yl_bd y
    have hs := bf_succ y h2 h3
    have here : left < bf y (m + 1) → Valid y m (left - bf y m + 1) ∧ bf y m + (left - bf y m + 1) = left + 1 ∧ wrap64 (wrap64 (left - bf y m) + 1) = left - bf y m + 1 := fun h => by
      refine ⟨?_, by omega, ?_⟩
      · unfold Valid; omega
      · rw [w64 (x := left - bf y m) (by omega) (by omega), w64 (by omega) (by omega)]
    by_cases c : m < 12
    · by_cases g : left ≥ bf y (m + 1)
      · obtain ⟨m', d', a, b, r⟩ := civl0 y left h0 h1 hl (n - 1) (m + 1) (by omega) (by omega) (by omega) g
        refine ⟨m', d', a, b, Ev.step (fun k => ?_) r⟩
        simp only [calendar_Civil.l0]
        rw [if_pos c, w64 (x := m + 1) (by omega) (by omega), start_eq h0 h1 (by omega) (by omega), Option.bind_some, if_pos g]
      · obtain ⟨a, b, w⟩ := here (by omega)
        refine ⟨m, _, a, b, Ev_one fun k => ?_⟩
        simp only [calendar_Civil.l0]
        rw [if_pos c, w64 (x := m + 1) (by omega) (by omega), start_eq h0 h1 (by omega) (by omega), Option.bind_some, if_neg g, start_eq h0 h1 h2 (by omega), Option.bind_some, w]
    · obtain rfl : m = 12 := by omega
      have he := bf_end y
      obtain ⟨a, b, w⟩ := here (by rw [show (12 : Int) + 1 = 13 from rfl, he]; exact hl)
      refine ⟨12, _, a, b, Ev_one fun k => ?_⟩
      simp only [calendar_Civil.l0]
      rw [if_neg c, start_eq h0 h1 h2 (by omega), Option.bind_some, w]
  termination_by n => n
  decreasing_by omega
/-- The years of a day, by division: how many whole years, and what is left of the last. -/
theorem split_years (t q r h r2 f r3 o : Int) (ht : 0 ≤ t) (hq : q = t / 146097) (hr : r = t % 146097) (hh : h = mn (r / 36524) 3) (hr2 : r2 = r - h * 36524) (hf : f = r2 / 1461) (hr3 : r3 = r2 % 1461) (ho : o = mn (r3 / 365) 3) :
    yb (400 * q + 1 + (100 * h + 4 * f + o)) + (r3 - o * 365) = t ∧ 0 ≤ r3 - o * 365 ∧ r3 - o * 365 < yl (400 * q + 1 + (100 * h + 4 * f + o)) ∧ 0 ≤ q ∧ 0 ≤ h ∧ h ≤ 3 ∧ 0 ≤ f ∧ f ≤ 24 ∧ 0 ≤ o ∧ o ≤ 3 := by
  have b1 : 0 ≤ r ∧ r < 146097 ∧ t = 146097 * q + r ∧ 0 ≤ q := by omega
  have b2 : 0 ≤ h ∧ h ≤ 3 ∧ 0 ≤ r2 ∧ (h < 3 → r2 < 36524) ∧ r2 ≤ 36524 := by unfold mn at hh; split at hh <;> omega
  have b3 : 0 ≤ f ∧ f ≤ 24 ∧ 0 ≤ r3 ∧ r3 < 1461 ∧ r2 = 1461 * f + r3 := by omega
  have b4 : 0 ≤ o ∧ o ≤ 3 ∧ 0 ≤ r3 - o * 365 ∧ (o < 3 → r3 - o * 365 < 365) ∧ r3 - o * 365 ≤ 365 := by unfold mn at ho; split at ho <;> omega
  clear hq hr hh hf hr3 ho
  have e4 : (400 * q + 1 + (100 * h + 4 * f + o) - 1) / 4 = 100 * q + 25 * h + f := by omega
  have e100 : (400 * q + 1 + (100 * h + 4 * f + o) - 1) / 100 = 4 * q + h := by omega
  have e400 : (400 * q + 1 + (100 * h + 4 * f + o) - 1) / 400 = q := by omega
  refine ⟨?_, by omega, ?_, by omega, by omega, by omega, by omega, by omega, by omega, by omega⟩
  · unfold yb
    rw [e4, e100, e400]
    omega
  · by_cases g : r3 - o * 365 < 365
    · have := yl_bd (400 * q + 1 + (100 * h + 4 * f + o)); omega
    · have : Lp (400 * q + 1 + (100 * h + 4 * f + o)) := by
        unfold Lp
        have go : o = 3 := by omega
        have gr : r3 = 1460 := by omega
        by_cases gh : h = 3
        · refine ⟨by omega, ?_⟩
          by_cases gf : f = 24
          · exact .inr (by omega)
          · exact .inl (by omega)
        · refine ⟨by omega, .inl ?_⟩
          have : f < 24 := by omega
          omega
      unfold yl
      rw [lp_yes this]
      omega
theorem civil_in (n : Int) (h0 : 1 ≤ n) (h1 : n ≤ 3652059) : ∃ y m d, Valid y m d ∧ num y m d = n ∧ Ev (fun k => calendar_Civil.f k n) (y, m, d, true) := by
  obtain ⟨q, hq⟩ : ∃ q, q = (n - 1) / 146097 := ⟨_, rfl⟩
  obtain ⟨r, hr⟩ : ∃ r, r = (n - 1) % 146097 := ⟨_, rfl⟩
  obtain ⟨h, hh⟩ : ∃ h, h = mn (r / 36524) 3 := ⟨_, rfl⟩
  obtain ⟨r2, hr2⟩ : ∃ x, x = r - h * 36524 := ⟨_, rfl⟩
  obtain ⟨f, hf⟩ : ∃ x, x = r2 / 1461 := ⟨_, rfl⟩
  obtain ⟨r3, hr3⟩ : ∃ x, x = r2 % 1461 := ⟨_, rfl⟩
  obtain ⟨o, ho⟩ : ∃ x, x = mn (r3 / 365) 3 := ⟨_, rfl⟩
  obtain ⟨a1, a2, a3, a4, a5, a6, a7, a8, a9, a10⟩ := split_years (n - 1) q r h r2 f r3 o (by omega) hq hr hh hr2 hf hr3 ho
  have hy1 : 1 ≤ 400 * q + 1 + (100 * h + 4 * f + o) := by omega
  have hy2 : 400 * q + 1 + (100 * h + 4 * f + o) ≤ 9999 := by
    by_cases g : 400 * q + 1 + (100 * h + 4 * f + o) ≤ 9999
    · exact g
    · have := yb_mono (y := 10000) (z := 400 * q + 1 + (100 * h + 4 * f + o)) (by omega)
      rw [yb_end] at this
      omega
  obtain ⟨m, d, v, e, ev⟩ := civl0 (400 * q + 1 + (100 * h + 4 * f + o)) (r3 - o * 365) hy1 hy2 a3 (12 - 1 : Int).toNat 1 rfl (by omega) (by omega) (by rw [bf_one]; exact a2)
  refine ⟨_, m, d, v, by unfold num; omega, Ev.step (fun k => ?_) ev⟩
  simp only [calendar_Civil.f]
  rw [if_neg (by omega), decide_eq_false (by omega)]
  simp only [calendar_Civil.j0]
  rw [if_neg Bool.false_ne_true, w64 (x := n - 1) (by omega) (by omega)]
  have hr0 : 0 ≤ r ∧ r < 146097 := by omega
  have hr20 : 0 ≤ r2 ∧ r2 ≤ 146097 := by omega
  have hr30 : 0 ≤ r3 ∧ r3 < 1461 := by omega
  rw [tm (a := n - 1) (by omega), td (a := n - 1) (by omega), ← hr, ← hq, td (a := r) (by omega), w64 (x := r / 36524) (by omega) (by omega), ← hh, w64 (x := h * 36524) (by omega) (by omega), w64 (x := r - h * 36524) (by omega) (by omega), ← hr2,
    tm (a := r2) (by omega), td (a := r2) (by omega), ← hr3, ← hf, td (a := r3) (by omega), w64 (x := r3 / 365) (by omega) (by omega), ← ho, w64 (x := o * 365) (by omega) (by omega), w64 (x := r3 - o * 365) (by omega) (by omega)]
  rw [w64 (x := q) (by omega) (by omega), w64 (x := f) (by omega) (by omega), w64 (x := 400 * q) (by omega) (by omega), w64 (x := 400 * q + 1) (by omega) (by omega), w64 (x := 100 * h) (by omega) (by omega), w64 (x := 4 * f) (by omega) (by omega), w64 (x := 100 * h + 4 * f) (by omega) (by omega), w64 (x := 100 * h + 4 * f + o) (by omega) (by omega), w64 (by omega) (by omega)]
theorem civil_out (n : Int) (h : ¬ (1 ≤ n ∧ n ≤ 3652059)) : Ev (fun k => calendar_Civil.f k n) (0, 0, 0, false) := by
  refine Ev_one fun k => ?_
  have e : calendar_Civil.j0 (k + 1) n true = some (0, 0, 0, false) := by
    simp only [calendar_Civil.j0]
    rw [if_pos True.intro]
  simp only [calendar_Civil.f]
  by_cases c : n < 1
  · rw [if_pos c, e]
  · rw [if_neg c, decide_eq_true (by omega), e]
theorem date_ex (n : Int) (h0 : 1 ≤ n) (h1 : n ≤ 3652059) : ∃ y m d, Valid y m d ∧ num y m d = n := by
  obtain ⟨y, m, d, a, b, _⟩ := civil_in n h0 h1
  exact ⟨y, m, d, a, b⟩
theorem civil_ev {y m d : Int} (v : Valid y m d) : Ev (fun k => calendar_Civil.f k (num y m d)) (y, m, d, true) := by
  have hd := num_day v
  obtain ⟨y', m', d', a, b, e⟩ := civil_in (num y m d) hd.1 hd.2
  obtain ⟨rfl, rfl, rfl⟩ := num_inj v a b.symm
  exact e

end Go.Proofs.YtogmeijmdbgmdaaDoor.CCivil
