/- CalendarMonthSteps: a step of months lands in the right month, at the anchor or at the month's end, and steps add up. This text is the part over numbers alone. -/
import Derived.Test.YtifkobejdldkbaaDoorCLaw
import Derived.Test.YtifkobejdldkbaaDoorCMonth
import Derived.Test.YtifkobejdldkbaaDoorPAx8
namespace Go.Proofs.YtifkobejdldkbaaDoor.Pure
open Go.RowKit Go.Proofs.YtifkobejdldkbaaDoor.PA Go.Proofs.YtifkobejdldkbaaDoorW.PrintWords Go.Proofs.YtifkobejdldkbaaDoorW.PrintLast Go.Proofs.YtifkobejdldkbaaDoor.MB Go.Proofs.YtifkobejdldkbaaDoor.CDate Go.Proofs.YtifkobejdldkbaaDoor.CProg Go.Proofs.YtifkobejdldkbaaDoor.CDay Go.Proofs.YtifkobejdldkbaaDoor.CLaw Go.Proofs.YtifkobejdldkbaaDoor.CMonth
set_option linter.unusedVariables false
set_option linter.unusedSimpArgs false

theorem ms_out (n a b c : Int) : Ev (fun k => arrearslaw2_CalendarMonthSteps.j0 k n a b c true) true := by
  obtain ⟨K, e⟩ := Ev_out (am_ev 1 0 31)
  have h : (am 1 0 31).2 = true := by
    have e := am_all (y := 1) (m := 1) (d := 1) (a := 31) (by decide) (by omega) 0
    rw [show num 1 1 1 = 1 from rfl, inMonth_in (by omega)] at e
    rw [e]
  refine ⟨K + 1, fun k hk => ?_⟩
  obtain ⟨k, rfl⟩ : ∃ j, k = j + 1 := ⟨k - 1, by omega⟩
  simp only [arrearslaw2_CalendarMonthSteps.j0]
  rw [if_pos True.intro, e k (by omega), Option.bind_some, h]
theorem ms_j2 {y m d : Int} (v : Valid y m d) (a b c : Int) (hc : 1 ≤ c ∧ c ≤ 31) (ha : -200000 ≤ a ∧ a ≤ 200000) (hb : -200000 ≤ b ∧ b ≤ 200000)
    (hk : 0 ≤ 12 * y + m - 13 + a ∧ 12 * y + m - 13 + a < 119988) :
    Ev (fun k => arrearslaw2_CalendarMonthSteps.j2 k (num y m d) a b c (num ((12 * y + m - 13 + a) / 12 + 1) ((12 * y + m - 13 + a) % 12 + 1) (at_ ((12 * y + m - 13 + a) / 12 + 1) ((12 * y + m - 13 + a) % 12 + 1) c)) false) true := by
  have v2 := at_valid hk.1 hk.2 hc.1
  obtain ⟨K1, e1⟩ := Ev_out (am_ev (num ((12 * y + m - 13 + a) / 12 + 1) ((12 * y + m - 13 + a) % 12 + 1) (at_ ((12 * y + m - 13 + a) / 12 + 1) ((12 * y + m - 13 + a) % 12 + 1) c)) b c)
  obtain ⟨K2, e2⟩ := Ev_out (am_ev (num y m d) (a + b) c)
  rw [am_all v2 hc] at e1
  rw [am_all v hc] at e2
  refine ⟨K1 + K2 + 1, fun k hk => ?_⟩
  obtain ⟨k, rfl⟩ : ∃ j, k = j + 1 := ⟨k - 1, by omega⟩
  simp only [arrearslaw2_CalendarMonthSteps.j2]
  rw [if_neg Bool.false_ne_true, e1 k (by omega), Option.bind_some, w64 (x := a + b) (by omega) (by omega), e2 k (by omega), Option.bind_some,
    show 12 * ((12 * y + m - 13 + a) / 12 + 1) + ((12 * y + m - 13 + a) % 12 + 1) - 13 + b = 12 * y + m - 13 + (a + b) by omega]
  simp
theorem ms_j0 {y m d : Int} (v : Valid y m d) (a b c : Int) (hc : 1 ≤ c ∧ c ≤ 31) (ha : -200000 ≤ a ∧ a ≤ 200000) (hb : -200000 ≤ b ∧ b ≤ 200000) :
    Ev (fun k => arrearslaw2_CalendarMonthSteps.j0 k (num y m d) a b c false) true := by
  have v' := v
  unfold Valid at v'
  obtain ⟨K1, e1⟩ := Ev_out (am_ev (num y m d) 0 c)
  obtain ⟨K2, e2⟩ := Ev_out (am_ev (num y m d) a c)
  rw [am_all v hc, inMonth_in (by omega)] at e1
  rw [am_all v hc] at e2
  by_cases hk : 0 ≤ 12 * y + m - 13 + a ∧ 12 * y + m - 13 + a < 119988
  · rw [inMonth_in hk] at e2
    obtain ⟨K5, e5⟩ := Ev_out (ms_j2 v a b c hc ha hb hk)
    have v2 := at_valid hk.1 hk.2 hc.1
    obtain ⟨K3, e3⟩ := Ev_out (civ_ev (num y m d))
    obtain ⟨K4, e4⟩ := Ev_out (civ_ev (num ((12 * y + m - 13 + a) / 12 + 1) ((12 * y + m - 13 + a) % 12 + 1) (at_ ((12 * y + m - 13 + a) / 12 + 1) ((12 * y + m - 13 + a) % 12 + 1) c)))
    rw [civ_num v] at e3
    rw [civ_num v2] at e4
    refine ⟨K1 + K2 + K3 + K4 + K5 + 2, fun k hk' => ?_⟩
    obtain ⟨k, rfl⟩ : ∃ j, k = j + 2 := ⟨k - 2, by omega⟩
    simp only [arrearslaw2_CalendarMonthSteps.j0]
    rw [if_neg Bool.false_ne_true, e1 _ (by omega), Option.bind_some, if_pos rfl, e2 _ (by omega), Option.bind_some, if_pos rfl, e3 _ (by omega), Option.bind_some, e4 _ (by omega), Option.bind_some, if_pos rfl, if_pos rfl]
    have ew : wrap64 (wrap64 (12 * ((12 * y + m - 13 + a) / 12 + 1)) + ((12 * y + m - 13 + a) % 12 + 1)) = wrap64 (wrap64 (wrap64 (12 * y) + m) + a) := by
      rw [w64 (x := 12 * y) (by omega) (by omega), w64 (x := 12 * y + m) (by omega) (by omega), w64 (x := 12 * y + m + a) (by omega) (by omega), w64 (x := 12 * ((12 * y + m - 13 + a) / 12 + 1)) (by omega) (by omega), w64 (by omega) (by omega)]
      omega
    simp only []
    rw [ew, bne_self_eq_false]
    simp only [arrearslaw2_CalendarMonthSteps.j1]
    rw [if_neg Bool.false_ne_true]
    by_cases c1 : at_ ((12 * y + m - 13 + a) / 12 + 1) ((12 * y + m - 13 + a) % 12 + 1) c = c
    · rw [if_pos c1, e5 _ (by omega)]
    · rw [if_neg c1]
      have hat : at_ ((12 * y + m - 13 + a) / 12 + 1) ((12 * y + m - 13 + a) % 12 + 1) c = ml ((12 * y + m - 13 + a) / 12 + 1) ((12 * y + m - 13 + a) % 12 + 1) ∧ ¬ at_ ((12 * y + m - 13 + a) / 12 + 1) ((12 * y + m - 13 + a) % 12 + 1) c > c := by
        revert c1
        unfold at_
        split
        · intro g; exact absurd rfl g
        · intro g; omega
      rw [if_neg hat.2, length_eq, Option.bind_some]
      have e5' := e5 k (by omega)
      rw [hat.1] at e5' ⊢
      rw [bne_self_eq_false, e5']
  · rw [inMonth_out hk] at e2
    refine ⟨K1 + K2 + 1, fun k hk' => ?_⟩
    obtain ⟨k, rfl⟩ : ∃ j, k = j + 1 := ⟨k - 1, by omega⟩
    simp only [arrearslaw2_CalendarMonthSteps.j0]
    rw [if_neg Bool.false_ne_true, e1 _ (by omega), Option.bind_some, if_pos rfl, e2 _ (by omega), Option.bind_some, if_neg Bool.false_ne_true]
    rfl
theorem CalendarMonthSteps : arrearslaw2_CalendarMonthSteps.Pure := by
  intro n a b c hn ha hb hc
  obtain ⟨K, e⟩ := Ev_out (ms_out n a b c)
  by_cases h : Day n ∧ (1 ≤ c ∧ c ≤ 31) ∧ (-200000 ≤ a ∧ a ≤ 200000) ∧ (-200000 ≤ b ∧ b ≤ 200000)
  · obtain ⟨h1, h2, h3, h4⟩ := h
    obtain ⟨y, m, d, v, rfl, hcv⟩ := civ_in h1
    obtain ⟨K2, e2⟩ := Ev_out (ms_j0 v a b c h2 h3 h4)
    unfold Day at h1
    refine ⟨K2, ?_⟩
    simp only [arrearslaw2_CalendarMonthSteps.f]
    rw [if_neg (by omega), if_neg (by omega), if_neg (by omega), if_neg (by omega), if_neg (by omega), if_neg (by omega), if_neg (by omega), decide_eq_false (by omega), e2 _ (by omega)]
  · refine ⟨K, ?_⟩
    have e := e K (by omega)
    simp only [arrearslaw2_CalendarMonthSteps.f]
    unfold Day at h
    by_cases c1 : n < 1
    · rw [if_pos c1, e]
    · rw [if_neg c1]
      by_cases c2 : n > 3652059
      · rw [if_pos c2, e]
      · rw [if_neg c2]
        by_cases c3 : c < 1
        · rw [if_pos c3, e]
        · rw [if_neg c3]
          by_cases c4 : c > 31
          · rw [if_pos c4, e]
          · rw [if_neg c4]
            by_cases c5 : a < -200000
            · rw [if_pos c5, e]
            · rw [if_neg c5]
              by_cases c6 : a > 200000
              · rw [if_pos c6, e]
              · rw [if_neg c6]
                by_cases c7 : b < -200000
                · rw [if_pos c7, e]
                · rw [if_neg c7, decide_eq_true (by omega), e]

end Go.Proofs.YtifkobejdldkbaaDoor.Pure
