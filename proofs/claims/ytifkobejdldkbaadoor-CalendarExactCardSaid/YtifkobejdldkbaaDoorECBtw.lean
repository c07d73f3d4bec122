/- The days from one day to another, by either basis, as the program and the document count them. Plain Lean over the printed functions. -/
import Derived.Test.YtifkobejdldkbaaDoorECDay
import Derived.Test.YtifkobejdldkbaaDoorPEx3
import Derived.Test.YtifkobejdldkbaaDoorPEx4
namespace Go.Proofs.YtifkobejdldkbaaDoor.ECBtw
open Go.RowKit Go.Proofs.YtifkobejdldkbaaDoor.PE Go.Proofs.YtifkobejdldkbaaDoorW.PrintWords Go.Proofs.YtifkobejdldkbaaDoorW.PrintLast Go.Proofs.YtifkobejdldkbaaDoorW.PrintMore Go.Proofs.YtifkobejdldkbaaDoor.EMB Go.Proofs.YtifkobejdldkbaaDoor.ECDate Go.Proofs.YtifkobejdldkbaaDoor.ECProg Go.Proofs.YtifkobejdldkbaaDoor.ECRef Go.Proofs.YtifkobejdldkbaaDoor.ECCivil Go.Proofs.YtifkobejdldkbaaDoor.ECDay
set_option linter.unusedVariables false
set_option linter.unusedSectionVars false
set_option linter.unusedSimpArgs false

/-- Months counted as thirty days each. -/
def th (y m d y' m' d' : Int) : Int := 360 * (y' - y) + 30 * (m' - m) + (if d ≥ 30 then (if d' > 30 then 30 else d') else d') - (if d > 30 then 30 else d)
theorem th_bd {y m d y' m' d' : Int} (v : Valid y m d) (v' : Valid y' m' d') : -4000000 ≤ th y m d y' m' d' ∧ th y m d y' m' d' ≤ 4000000 := by
  have h1 := ml_bd y m
  have h2 := ml_bd y' m'
  unfold Valid at v v'
  unfold th
  split <;> split <;> (try split) <;> omega
theorem wr {y m y' m' t f : Int} (hy : 1 ≤ y ∧ y ≤ 9999) (hm : 1 ≤ m ∧ m ≤ 12) (hy' : 1 ≤ y' ∧ y' ≤ 9999) (hm' : 1 ≤ m' ∧ m' ≤ 12) (ht : 1 ≤ t ∧ t ≤ 31) (hf : 1 ≤ f ∧ f ≤ 31) :
    wrap64 (wrap64 (wrap64 (wrap64 (360 * wrap64 (y' - y)) + wrap64 (30 * wrap64 (m' - m))) + t) - f) = 360 * (y' - y) + 30 * (m' - m) + t - f := by
  rw [w64 (x := y' - y) (by omega) (by omega), w64 (x := m' - m) (by omega) (by omega), w64 (x := 360 * (y' - y)) (by omega) (by omega), w64 (x := 30 * (m' - m)) (by omega) (by omega),
    w64 (x := 360 * (y' - y) + 30 * (m' - m)) (by omega) (by omega), w64 (x := 360 * (y' - y) + 30 * (m' - m) + t) (by omega) (by omega), w64 (by omega) (by omega)]
theorem thirty_eq {y m d y' m' d' : Int} (v : Valid y m d) (v' : Valid y' m' d') : calendar_thirty.f y m d y' m' d' = some (th y m d y' m' d') := by
  have h1 := ml_bd y m
  have h2 := ml_bd y' m'
  unfold Valid at v v'
  unfold calendar_thirty.f th
  have ed : mn d 30 = if d > 30 then 30 else d := rfl
  have ed' : mn d' 30 = if d' > 30 then 30 else d' := rfl
  rw [ed, ed']
  by_cases c : d ≥ 30
  · rw [if_pos (show (if d > 30 then 30 else d) = 30 by split <;> omega), if_pos c, wr (by omega) (by omega) (by omega) (by omega) (by split <;> omega) (by split <;> omega)]
  · rw [if_neg (show ¬ (if d > 30 then 30 else d) = 30 by split <;> omega), if_neg c, wr (by omega) (by omega) (by omega) (by omega) (by omega) (by split <;> omega)]
theorem refThirty_ev {y m d y' m' d' : Int} (v : Valid y m d) (v' : Valid y' m' d') : Ev (fun k => arrearsref2_thirty.f k (num y m d) (num y' m' d')) (th y m d y' m' d') := by
  obtain ⟨K1, e1⟩ := Ev_out (refCiv_ev (num y m d))
  obtain ⟨K2, e2⟩ := Ev_out (refCiv_ev (num y' m' d'))
  rw [civ_num v] at e1
  rw [civ_num v'] at e2
  refine ⟨K1 + K2, fun k hk => ?_⟩
  simp only [arrearsref2_thirty.f]
  rw [e1 _ (by omega), Option.bind_some, e2 _ (by omega), Option.bind_some]
  simp only []
  have h1 := ml_bd y m
  have h2 := ml_bd y' m'
  unfold Valid at v v'
  unfold th
  by_cases c : d = 31
  · rw [if_pos c, if_pos (show d ≥ 30 by omega), if_pos (show d > 30 by omega)]
    by_cases c' : d' = 31
    · rw [if_pos c', if_pos (show d' > 30 by omega)]
      rw [wr (by omega) (by omega) (by omega) (by omega) (by omega) (by omega)]
    · rw [if_neg c', if_neg (show ¬ d' > 30 by omega), wr (by omega) (by omega) (by omega) (by omega) (by omega) (by omega)]
  · rw [if_neg c, if_neg (show ¬ d > 30 by omega)]
    by_cases c' : d' = 31
    · rw [if_pos c']
      by_cases c2 : d = 30
      · rw [if_pos c2, if_pos (show d ≥ 30 by omega), if_pos (show d' > 30 by omega), wr (by omega) (by omega) (by omega) (by omega) (by omega) (by omega)]
      · rw [if_neg c2, if_neg (show ¬ d ≥ 30 by omega), wr (by omega) (by omega) (by omega) (by omega) (by omega) (by omega)]
    · rw [if_neg c', wr (by omega) (by omega) (by omega) (by omega) (by omega) (by omega)]
      by_cases c2 : d ≥ 30
      · rw [if_pos c2, if_neg (show ¬ d' > 30 by omega)]
      · rw [if_neg c2]
/-- By the days' numbers. -/
noncomputable def thn (a b : Int) : Int := th (civ a).1 (civ a).2.1 (civ a).2.2.1 (civ b).1 (civ b).2.1 (civ b).2.2.1
noncomputable def btw (a b c : Int) : Int × Bool := if Day a ∧ Day b then (if c = 0 then (b - a, true) else if c = 1 then (if a > b then (-thn b a, true) else (thn a b, true)) else (0, false)) else (0, false)
theorem btw_out {a b c : Int} (h : ¬ (Day a ∧ Day b)) : btw a b c = (0, false) := if_neg h
theorem btw_in {a b c : Int} (h : Day a ∧ Day b) : btw a b c = (if c = 0 then (b - a, true) else if c = 1 then (if a > b then (-thn b a, true) else (thn a b, true)) else (0, false)) := if_pos h
theorem thn_num {y m d y' m' d' : Int} (v : Valid y m d) (v' : Valid y' m' d') : thn (num y m d) (num y' m' d') = th y m d y' m' d' := by
  unfold thn
  rw [civ_num v, civ_num v']
theorem thn_bd {a b : Int} (ha : Day a) (hb : Day b) : -4000000 ≤ thn a b ∧ thn a b ≤ 4000000 := by
  obtain ⟨y, m, d, v, rfl, _⟩ := civ_in ha
  obtain ⟨y', m', d', v', rfl, _⟩ := civ_in hb
  rw [thn_num v v']
  exact th_bd v v'
theorem between_ev (a b c : Int) : Ev (fun k => calendar_Between.f k a b c) (btw a b c) := by
  obtain ⟨K1, e1⟩ := Ev_out (civ_ev a)
  obtain ⟨K2, e2⟩ := Ev_out (civ_ev b)
  refine ⟨K1 + K2 + 1, fun k hk => ?_⟩
  simp only [calendar_Between.f]
  rw [e1 _ (by omega), Option.bind_some, e2 _ (by omega), Option.bind_some]
  obtain ⟨k, rfl⟩ : ∃ j, k = j + 1 := ⟨k - 1, by omega⟩
  by_cases h : Day a ∧ Day b
  · rw [btw_in h]
    have hb1 := thn_bd h.1 h.2
    have hb2 := thn_bd h.2 h.1
    obtain ⟨y, m, d, v, ea, ca⟩ := civ_in h.1
    obtain ⟨y', m', d', v', eb, cb⟩ := civ_in h.2
    have t1 : thn a b = th y m d y' m' d' := by rw [← ea, ← eb, thn_num v v']
    have t2 : thn b a = th y' m' d' y m d := by rw [← ea, ← eb, thn_num v' v]
    obtain ⟨h1, h2⟩ := h
    unfold Day at h1 h2
    rw [ca, cb]
    simp only [calendar_Between.j0, if_true, Bool.not_true]
    rw [if_neg Bool.false_ne_true, w64 (x := b - a) (by omega) (by omega), thirty_eq v v', thirty_eq v' v, ← t1, ← t2]
    simp only [Option.bind_some]
    rw [w64 (x := -thn b a) (by omega) (by omega)]
    split
    · rfl
    · split
      · split <;> rfl
      · rfl
  · rw [btw_out h]
    by_cases ha : Day a
    · obtain ⟨y, m, d, v, ea, ca⟩ := civ_in ha
      rw [ca, civ_out (fun hb => h ⟨ha, hb⟩)]
      simp [calendar_Between.j0]
    · rw [civ_out ha]
      simp [calendar_Between.j0]
theorem refBetween_ev (a b c : Int) : Ev (fun k => arrearsref2_Between.f k a b c) (btw a b c) := by
  by_cases h : Day a ∧ Day b
  · rw [btw_in h]
    have hb1 := thn_bd h.1 h.2
    have hb2 := thn_bd h.2 h.1
    obtain ⟨y, m, d, v, ea, ca⟩ := civ_in h.1
    obtain ⟨y', m', d', v', eb, cb⟩ := civ_in h.2
    obtain ⟨K1, e1⟩ := Ev_out (refThirty_ev v v')
    obtain ⟨K2, e2⟩ := Ev_out (refThirty_ev v' v)
    rw [ea, eb, show th y m d y' m' d' = thn a b by rw [← ea, ← eb, thn_num v v']] at e1
    rw [ea, eb, show th y' m' d' y m d = thn b a by rw [← ea, ← eb, thn_num v' v]] at e2
    refine ⟨K1 + K2 + 2, fun k hk => ?_⟩
    obtain ⟨k, rfl⟩ : ∃ j, k = j + 2 := ⟨k - 2, by omega⟩
    simp only [arrearsref2_Between.f]
    obtain ⟨h1, h2⟩ := h
    rw [isDay_eq, Option.bind_some, decide_eq_true (show 1 ≤ a ∧ a ≤ 3652059 from h1), if_pos rfl, isDay_eq, Option.bind_some, decide_eq_true (show 1 ≤ b ∧ b ≤ 3652059 from h2)]
    unfold Day at h1 h2
    simp only [arrearsref2_Between.j0, Bool.not_true]
    rw [if_neg Bool.false_ne_true, w64 (x := b - a) (by omega) (by omega)]
    by_cases c0 : c = 0
    · rw [if_pos c0, if_pos c0]
    · rw [if_neg c0, if_neg c0]
      by_cases c1 : c = 1
      · rw [if_pos c1, if_pos c1]
        simp only [arrearsref2_Between.j1]
        rw [if_pos c1, e1 _ (by omega), e2 _ (by omega)]
        simp only [Option.bind_some]
        rw [w64 (x := -thn b a) (by omega) (by omega)]
        by_cases g : a > b
        · rw [if_pos g, decide_eq_false (by omega), if_neg Bool.false_ne_true]
        · rw [if_neg g, decide_eq_true (by omega), if_pos rfl]
      · rw [if_neg c1, if_neg c1]
        simp only [arrearsref2_Between.j1]
        rw [if_neg Bool.false_ne_true, if_neg c1]
  · rw [btw_out h]
    refine Ev_one fun k => ?_
    simp only [arrearsref2_Between.f]
    rw [isDay_eq, Option.bind_some]
    by_cases ha : Day a
    · rw [decide_eq_true (show 1 ≤ a ∧ a ≤ 3652059 from ha), if_pos rfl, isDay_eq, Option.bind_some, decide_eq_false (show ¬ (1 ≤ b ∧ b ≤ 3652059) from fun hb => h ⟨ha, hb⟩)]
      simp [arrearsref2_Between.j0]
    · rw [decide_eq_false (show ¬ (1 ≤ a ∧ a ≤ 3652059) from ha), if_neg Bool.false_ne_true]
      simp [arrearsref2_Between.j0]
end Go.Proofs.YtifkobejdldkbaaDoor.ECBtw
