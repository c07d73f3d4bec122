/- A step of months, as the program and the document take it. Plain Lean over the printed functions. -/
import Derived.Test.YtogmeijmdbgmdaaDoorVCDay
import Derived.Test.YtogmeijmdbgmdaaDoorVPFx5
namespace Go.Proofs.YtogmeijmdbgmdaaDoor.CMonth
open Go.RowKit Go.Proofs.YtogmeijmdbgmdaaDoor.PF Go.Proofs.YtogmeijmdbgmdaaDoorW.PrintWords Go.Proofs.YtogmeijmdbgmdaaDoorW.PrintLast Go.Proofs.YtogmeijmdbgmdaaDoorW.PrintMore Go.Proofs.YtogmeijmdbgmdaaDoor.MB Go.Proofs.YtogmeijmdbgmdaaDoor.CDate Go.Proofs.YtogmeijmdbgmdaaDoor.CProg Go.Proofs.YtogmeijmdbgmdaaDoor.CRef Go.Proofs.YtogmeijmdbgmdaaDoor.CCivil Go.Proofs.YtogmeijmdbgmdaaDoor.CDay
set_option linter.unusedVariables false
set_option linter.unusedSectionVars false
set_option linter.unusedSimpArgs false

/-- The day of the month nearest to the anchor. -/
def at_ (y m a : Int) : Int := if a < ml y m then a else ml y m
theorem at_valid {K a : Int} (h0 : 0 ≤ K) (h1 : K < 119988) (a0 : 1 ≤ a) : Valid (K / 12 + 1) (K % 12 + 1) (at_ (K / 12 + 1) (K % 12 + 1) a) := by
  have := ml_bd (K / 12 + 1) (K % 12 + 1)
  unfold Valid at_
  split <;> omega
/-- The day in the month of the number K (months since the year 1). -/
def inMonth (K a : Int) : Int × Bool := if 0 ≤ K ∧ K < 119988 then (num (K / 12 + 1) (K % 12 + 1) (at_ (K / 12 + 1) (K % 12 + 1) a), true) else (0, false)
theorem inMonth_in {K a : Int} (h : 0 ≤ K ∧ K < 119988) : inMonth K a = (num (K / 12 + 1) (K % 12 + 1) (at_ (K / 12 + 1) (K % 12 + 1) a), true) := if_pos h
theorem inMonth_out {K a : Int} (h : ¬ (0 ≤ K ∧ K < 119988)) : inMonth K a = (0, false) := if_neg h
def May (n s a : Int) : Prop := Day n ∧ 1 ≤ a ∧ a ≤ 31 ∧ -119988 < s ∧ s < 119988
instance (n s a : Int) : Decidable (May n s a) := by unfold May; infer_instance
noncomputable def am (n s a : Int) : Int × Bool := if May n s a then inMonth (12 * (civ n).1 + (civ n).2.1 - 13 + s) a else (0, false)
theorem am_out {n s a : Int} (h : ¬ May n s a) : am n s a = (0, false) := if_neg h
theorem am_in {y m d s a : Int} (v : Valid y m d) (ha : 1 ≤ a ∧ a ≤ 31) (hs : -119988 < s ∧ s < 119988) : am (num y m d) s a = inMonth (12 * y + m - 13 + s) a := by
  unfold am
  rw [if_pos ⟨num_day v, ha.1, ha.2, hs.1, hs.2⟩, civ_num v]

theorem j1_ev (K a : Int) (h0 : 0 ≤ K) (h1 : K < 119988) (a0 : 1 ≤ a) (a1 : a ≤ 31) : Ev (fun k => calendar_AddMonths.j1 k a K false) (inMonth K a) := by
  have hv := at_valid h0 h1 a0
  have hml := ml_bd (K / 12 + 1) (K % 12 + 1)
  obtain ⟨K1, e1⟩ := Ev_out (monthLen_ev (K / 12 + 1) (K % 12 + 1))
  obtain ⟨K2, e2⟩ := Ev_out (number_ev (K / 12 + 1) (K % 12 + 1) (at_ (K / 12 + 1) (K % 12 + 1) a))
  refine ⟨K1 + K2 + 1, fun k hk => ?_⟩
  obtain ⟨k, rfl⟩ : ∃ j, k = j + 1 := ⟨k - 1, by omega⟩
  simp only [calendar_AddMonths.j1]
  rw [if_neg Bool.false_ne_true, td h0, tm h0, w64 (x := K / 12) (by omega) (by omega), w64 (x := K / 12 + 1) (by omega) (by omega), w64 (x := K % 12 + 1) (by omega) (by omega), e1 _ (by omega), Option.bind_some, mlen_in (by omega)]
  have em : mn a (ml (K / 12 + 1) (K % 12 + 1)) = at_ (K / 12 + 1) (K % 12 + 1) a := by
    unfold mn at_
    by_cases c : a < ml (K / 12 + 1) (K % 12 + 1)
    · rw [if_pos c, if_neg (by omega)]
    · rw [if_neg c]
      by_cases c2 : ml (K / 12 + 1) (K % 12 + 1) < a
      · rw [if_pos c2]
      · rw [if_neg c2]; omega
  rw [em, e2 _ (by omega), Option.bind_some, inMonth_in ⟨h0, h1⟩]
  unfold numR
  rw [if_pos hv]
theorem j1_out (a K : Int) (k : Nat) : calendar_AddMonths.j1 (k + 1) a K true = some (0, false) := by
  simp only [calendar_AddMonths.j1]
  rw [if_pos True.intro]
theorem j0_out (s a y m d : Int) (k : Nat) : calendar_AddMonths.j0 (k + 1) s a true y m d = some (0, false) := by
  simp only [calendar_AddMonths.j0]
  rw [if_pos True.intro]
theorem am_ev (n s a : Int) : Ev (fun k => calendar_AddMonths.f k n s a) (am n s a) := by
  obtain ⟨K1, e1⟩ := Ev_out (civ_ev n)
  by_cases hd : Day n
  · obtain ⟨y, m, d, v, rfl, hc⟩ := civ_in hd
    by_cases hm : May (num y m d) s a
    · have hm' := hm
      unfold May at hm'
      rw [am_in v ⟨hm'.2.1, hm'.2.2.1⟩ hm'.2.2.2]
      have v' := v
      unfold Valid at v'
      have hml := ml_bd y m
      have key : Ev (fun k => calendar_AddMonths.j0 k s a false y m d) (inMonth (12 * y + m - 13 + s) a) := by
        have ew : wrap64 (wrap64 (wrap64 (wrap64 (12 * y) + m) - 13) + s) = 12 * y + m - 13 + s := by
          rw [w64 (x := 12 * y) (by omega) (by omega), w64 (x := 12 * y + m) (by omega) (by omega), w64 (x := 12 * y + m - 13) (by omega) (by omega), w64 (by omega) (by omega)]
        by_cases hk : 0 ≤ 12 * y + m - 13 + s ∧ 12 * y + m - 13 + s < 119988
        · refine Ev.step (fun k => ?_) (j1_ev _ a hk.1 hk.2 hm'.2.1 hm'.2.2.1)
          simp only [calendar_AddMonths.j0]
          rw [if_neg Bool.false_ne_true, ew, if_neg (by omega), decide_eq_false (by omega)]
        · rw [inMonth_out hk]
          refine Ev.step (fun k => ?_) (show Ev (fun k => calendar_AddMonths.j1 k a (12 * y + m - 13 + s) true) (0, false) from Ev_one fun k => j1_out _ _ k)
          simp only [calendar_AddMonths.j0]
          rw [if_neg Bool.false_ne_true, ew]
          by_cases c : 12 * y + m - 13 + s < 0
          · rw [if_pos c]
          · rw [if_neg c, decide_eq_true (by omega)]
      obtain ⟨K2, e2⟩ := Ev_out key
      refine ⟨K1 + K2, fun k hk => ?_⟩
      simp only [calendar_AddMonths.f]
      rw [e1 k (by omega), Option.bind_some, hc]
      simp only []
      rw [if_pos True.intro, if_neg (by omega), if_neg (by omega), if_neg (by omega), decide_eq_false (by omega), e2 k (by omega)]
    · rw [am_out hm]
      refine ⟨K1 + 1, fun k hk => ?_⟩
      obtain ⟨k, rfl⟩ : ∃ j, k = j + 1 := ⟨k - 1, by omega⟩
      simp only [calendar_AddMonths.f]
      rw [e1 _ (by omega), Option.bind_some, hc]
      simp only []
      rw [if_pos True.intro, j0_out]
      by_cases c1 : a < 1
      · rw [if_pos c1]
      · rw [if_neg c1]
        by_cases c2 : a > 31
        · rw [if_pos c2]
        · rw [if_neg c2]
          by_cases c3 : s ≤ -119988
          · rw [if_pos c3]
          · rw [if_neg c3]
            by_cases c4 : s ≥ 119988
            · rw [decide_eq_true c4, j0_out]
            · exact absurd ⟨hd, by omega, by omega, by omega, by omega⟩ hm
  · rw [am_out (fun h => hd h.1)]
    refine ⟨K1 + 1, fun k hk => ?_⟩
    obtain ⟨k, rfl⟩ : ∃ j, k = j + 1 := ⟨k - 1, by omega⟩
    simp only [calendar_AddMonths.f]
    rw [e1 _ (by omega), Option.bind_some, civ_out hd]
    simp only []
    rw [if_neg Bool.false_ne_true, j0_out]

theorem am_all {y m d a : Int} (v : Valid y m d) (ha : 1 ≤ a ∧ a ≤ 31) (s : Int) : am (num y m d) s a = inMonth (12 * y + m - 13 + s) a := by
  by_cases hs : -119988 < s ∧ s < 119988
  · exact am_in v ha hs
  · unfold Valid at v
    rw [am_out (fun h => hs ⟨h.2.2.2.1, h.2.2.2.2⟩), inMonth_out (by omega)]
end Go.Proofs.YtogmeijmdbgmdaaDoor.CMonth
