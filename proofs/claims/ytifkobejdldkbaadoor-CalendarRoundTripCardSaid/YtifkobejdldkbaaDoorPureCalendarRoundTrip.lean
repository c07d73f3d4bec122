/- CalendarRoundTrip: days and dates are one to one. This text is the part over numbers alone. -/
import Derived.Test.YtifkobejdldkbaaDoorCLaw
import Derived.Test.YtifkobejdldkbaaDoorPAx5
namespace Go.Proofs.YtifkobejdldkbaaDoor.Pure
open Go.RowKit Go.Proofs.YtifkobejdldkbaaDoor.PA Go.Proofs.YtifkobejdldkbaaDoorW.PrintWords Go.Proofs.YtifkobejdldkbaaDoorW.PrintLast Go.Proofs.YtifkobejdldkbaaDoor.MB Go.Proofs.YtifkobejdldkbaaDoor.CDate Go.Proofs.YtifkobejdldkbaaDoor.CProg Go.Proofs.YtifkobejdldkbaaDoor.CDay Go.Proofs.YtifkobejdldkbaaDoor.CLaw
set_option linter.unusedVariables false
set_option linter.unusedSimpArgs false

theorem rt_j1 (y m d : Int) : Ev (fun k => arrearslaw2_CalendarRoundTrip.j1 k y m d (numR y m d).1 (numR y m d).2 (decide (Valid y m d))) true := by
  by_cases v : Valid y m d
  · obtain ⟨K, e⟩ := Ev_out (civ_ev (num y m d))
    have hn : numR y m d = (num y m d, true) := if_pos v
    refine ⟨K + 1, fun k hk => ?_⟩
    obtain ⟨k, rfl⟩ : ∃ j, k = j + 1 := ⟨k - 1, by omega⟩
    simp only [arrearslaw2_CalendarRoundTrip.j1]
    simp [hn, v, e k (by omega), civ_num v, same_eq]
  · have hn : numR y m d = (0, false) := if_neg v
    refine Ev_one fun k => ?_
    simp only [arrearslaw2_CalendarRoundTrip.j1]
    simp [hn, v]
theorem rt_j0 (y m d : Int) : Ev (fun k => arrearslaw2_CalendarRoundTrip.j0 k y m d false) true := by
  obtain ⟨K1, e1⟩ := Ev_out (number_ev y m d)
  obtain ⟨K2, e2⟩ := Ev_out (rt_j1 y m d)
  refine ⟨K1 + K2 + 1, fun k hk => ?_⟩
  obtain ⟨k, rfl⟩ : ∃ j, k = j + 1 := ⟨k - 1, by omega⟩
  have e2' := e2 k (by omega)
  simp only [arrearslaw2_CalendarRoundTrip.j0]
  rw [if_neg Bool.false_ne_true, e1 k (by omega), Option.bind_some]
  have out : ∀ h : ¬ Valid y m d, arrearslaw2_CalendarRoundTrip.j1 k y m d (numR y m d).1 (numR y m d).2 false = some true := fun h => by
    rw [decide_eq_false h] at e2'
    exact e2'
  by_cases c1 : y ≥ 1
  · rw [if_pos c1]
    by_cases c2 : y ≤ 9999
    · rw [if_pos c2]
      by_cases c3 : m ≥ 1
      · rw [if_pos c3]
        by_cases c4 : m ≤ 12
        · rw [if_pos c4]
          by_cases c5 : d ≥ 1
          · rw [if_pos c5, length_eq, Option.bind_some]
            have e : decide (d ≤ ml y m) = decide (Valid y m d) := by
              by_cases c6 : d ≤ ml y m
              · rw [decide_eq_true c6, decide_eq_true (show Valid y m d from ⟨c1, c2, c3, c4, c5, c6⟩)]
              · rw [decide_eq_false c6, decide_eq_false (show ¬ Valid y m d from fun h => c6 h.2.2.2.2.2)]
            rw [e, e2']
          · rw [if_neg c5, out (fun h => c5 h.2.2.2.2.1)]
        · rw [if_neg c4, out (fun h => c4 h.2.2.2.1)]
      · rw [if_neg c3, out (fun h => c3 h.2.2.1)]
    · rw [if_neg c2, out (fun h => c2 h.2.1)]
  · rw [if_neg c1, out (fun h => c1 h.1)]
theorem CalendarRoundTrip : arrearslaw2_CalendarRoundTrip.Pure := by
  intro n y m d hn hy hm hd
  obtain ⟨K1, e1⟩ := Ev_out (civ_ev n)
  obtain ⟨K2, e2⟩ := Ev_out (rt_j0 y m d)
  by_cases h : Day n
  · obtain ⟨y', m', d', v, e, hc⟩ := civ_in h
    obtain ⟨K3, e3⟩ := Ev_out (number_ev y' m' d')
    have hr : numR y' m' d' = (n, true) := by rw [show numR y' m' d' = (num y' m' d', true) from if_pos v, e]
    refine ⟨K1 + K2 + K3, ?_⟩
    unfold Day at h
    simp only [arrearslaw2_CalendarRoundTrip.f]
    rw [e1 _ (by omega), hc]
    simp only [Option.bind_some]
    rw [e3 _ (by omega), hr]
    simp [e2 (K1 + K2 + K3) (by omega), h.1, h.2]
  · obtain ⟨K3, e3⟩ := Ev_out (number_ev 0 0 0)
    have hr : numR 0 0 0 = (0, false) := if_neg (by unfold Valid; omega)
    refine ⟨K1 + K2 + K3, ?_⟩
    simp only [arrearslaw2_CalendarRoundTrip.f]
    rw [e1 _ (by omega), civ_out h]
    simp only [Option.bind_some]
    rw [e3 _ (by omega), hr]
    unfold Day at h
    by_cases c : n ≥ 1
    · simp [e2 (K1 + K2 + K3) (by omega), c, show ¬ n ≤ 3652059 by omega]
    · simp [e2 (K1 + K2 + K3) (by omega), c]

end Go.Proofs.YtifkobejdldkbaaDoor.Pure
