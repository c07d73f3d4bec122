/- CalendarSpans: Between turned about is its opposite; by the actual days it adds up; n months from a day of the month up to 28 are n times thirty days. This text is the part over numbers alone. -/
import Derived.Test.YtifkobejdldkbaaDoorCLaw
import Derived.Test.YtifkobejdldkbaaDoorCMonth
import Derived.Test.YtifkobejdldkbaaDoorCBtw
import Derived.Test.YtifkobejdldkbaaDoorPAx15
namespace Go.Proofs.YtifkobejdldkbaaDoor.Pure
open Go.RowKit Go.Proofs.YtifkobejdldkbaaDoor.PA Go.Proofs.YtifkobejdldkbaaDoorW.PrintWords Go.Proofs.YtifkobejdldkbaaDoorW.PrintLast Go.Proofs.YtifkobejdldkbaaDoor.MB Go.Proofs.YtifkobejdldkbaaDoor.CDate Go.Proofs.YtifkobejdldkbaaDoor.CProg Go.Proofs.YtifkobejdldkbaaDoor.CDay Go.Proofs.YtifkobejdldkbaaDoor.CLaw Go.Proofs.YtifkobejdldkbaaDoor.CMonth Go.Proofs.YtifkobejdldkbaaDoor.CBtw
set_option linter.unusedVariables false
set_option linter.unusedSimpArgs false

theorem thn_self {a : Int} (h : Day a) : thn a a = 0 := by
  obtain ⟨y, m, d, v, rfl, _⟩ := civ_in h
  rw [thn_num v v]
  unfold th
  split <;> split <;> (try split) <;> omega
theorem btw_is (a b : Int) {c : Int} (hc : c = 0 ∨ c = 1) : (btw a b c).2 = decide (Day a ∧ Day b) := by
  by_cases h : Day a ∧ Day b
  · rw [btw_in h, decide_eq_true h]
    rcases hc with rfl | rfl
    · rw [if_pos rfl]
    · rw [if_neg (by decide), if_pos rfl]
      split <;> rfl
  · rw [btw_out h, decide_eq_false h]
theorem btw_zero {a b : Int} (h : Day a ∧ Day b) : btw a b 0 = (b - a, true) := by rw [btw_in h, if_pos rfl]
theorem btw_one {a b : Int} (h : Day a ∧ Day b) : btw a b 1 = if a > b then (-thn b a, true) else (thn a b, true) := by rw [btw_in h, if_neg (by decide), if_pos rfl]
theorem btw_swap (a b : Int) {c : Int} (hc : c = 0 ∨ c = 1) : (btw a b c).1 = -(btw b a c).1 ∧ -4000000 ≤ (btw b a c).1 ∧ (btw b a c).1 ≤ 4000000 := by
  by_cases h : Day a ∧ Day b
  · have hb1 := thn_bd h.1 h.2
    have hb2 := thn_bd h.2 h.1
    have h1 := h.1
    have h2 := h.2
    unfold Day at h1 h2
    rcases hc with rfl | rfl
    · rw [btw_zero h, btw_zero ⟨h.2, h.1⟩]
      simp only []
      omega
    · rcases Int.lt_trichotomy a b with c | c | c
      · have x1 : btw a b 1 = (thn a b, true) := by rw [btw_one h, if_neg (show ¬ a > b by omega)]
        have x2 : btw b a 1 = (-thn a b, true) := by rw [btw_one ⟨h.2, h.1⟩, if_pos (show b > a by omega)]
        rw [x1, x2]
        exact ⟨(Int.neg_neg _).symm, by show -4000000 ≤ -thn a b; omega, by show -thn a b ≤ 4000000; omega⟩
      · subst c
        have x1 : btw a a 1 = (0, true) := by rw [btw_one h, if_neg (show ¬ a > a by omega), thn_self h.1]
        rw [x1]
        simp
      · have x1 : btw a b 1 = (-thn b a, true) := by rw [btw_one h, if_pos (show a > b by omega)]
        have x2 : btw b a 1 = (thn b a, true) := by rw [btw_one ⟨h.2, h.1⟩, if_neg (show ¬ b > a by omega)]
        rw [x1, x2]
        exact ⟨rfl, hb2.1, hb2.2⟩
  · rw [btw_out h, btw_out (fun g => h ⟨g.2, g.1⟩)]
    simp
theorem sp_j3 (a n d0 y m d : Int) (v : Valid y m d) (e : num y m d = a) : Ev (fun k => arrearslaw2_CalendarSpans.j3 k a n (decide (d > 28)) y m d) true := by
  subst e
  by_cases c : d > 28
  · refine Ev_one fun k => ?_
    simp only [arrearslaw2_CalendarSpans.j3]
    rw [decide_eq_true c, if_pos rfl]
  · have v' := v
    unfold Valid at v'
    obtain ⟨K1, e1⟩ := Ev_out (am_ev (num y m d) n d)
    rw [am_all v (by omega)] at e1
    by_cases hk : 0 ≤ 12 * y + m - 13 + n ∧ 12 * y + m - 13 + n < 119988
    · rw [inMonth_in hk] at e1
      have v2 := at_valid (a := d) hk.1 hk.2 (by omega)
      have hat : at_ ((12 * y + m - 13 + n) / 12 + 1) ((12 * y + m - 13 + n) % 12 + 1) d = d := by
        have := ml_bd ((12 * y + m - 13 + n) / 12 + 1) ((12 * y + m - 13 + n) % 12 + 1)
        unfold at_
        split <;> omega
      rw [hat] at e1 v2
      obtain ⟨K2, e2⟩ := Ev_out (between_ev (num y m d) (num ((12 * y + m - 13 + n) / 12 + 1) ((12 * y + m - 13 + n) % 12 + 1) d) 1)
      have hb : btw (num y m d) (num ((12 * y + m - 13 + n) / 12 + 1) ((12 * y + m - 13 + n) % 12 + 1) d) 1 = (30 * n, true) := by
        rw [btw_in ⟨num_day v, num_day v2⟩, if_neg (by decide), if_pos rfl, thn_num v v2, thn_num v2 v]
        unfold th
        rw [if_neg (show ¬ d ≥ 30 by omega), if_neg (show ¬ d > 30 by omega)]
        split
        · congr 1; omega
        · congr 1; omega
      rw [hb] at e2
      refine ⟨K1 + K2 + 1, fun k hk => ?_⟩
      obtain ⟨k, rfl⟩ : ∃ j, k = j + 1 := ⟨k - 1, by omega⟩
      simp only [arrearslaw2_CalendarSpans.j3]
      rw [decide_eq_false c, if_neg Bool.false_ne_true, e1 _ (by omega), Option.bind_some, if_pos rfl, e2 _ (by omega), Option.bind_some, if_pos rfl, w64 (x := 30 * n) (by omega) (by omega)]
      simp
    · rw [inMonth_out hk] at e1
      refine ⟨K1 + 1, fun k hk => ?_⟩
      obtain ⟨k, rfl⟩ : ∃ j, k = j + 1 := ⟨k - 1, by omega⟩
      simp only [arrearslaw2_CalendarSpans.j3]
      rw [decide_eq_false c, if_neg Bool.false_ne_true, e1 _ (by omega), Option.bind_some, if_neg Bool.false_ne_true]
theorem sp_end (a b c n : Int) : Ev (fun k => arrearslaw2_CalendarSpans.l0 k a b c n 2) true := by
  obtain ⟨K1, e1⟩ := Ev_out (civ_ev a)
  by_cases h : Day a
  · obtain ⟨y, m, d, v, e, hc⟩ := civ_in h
    obtain ⟨K2, e2⟩ := Ev_out (sp_j3 a n 0 y m d v e)
    refine ⟨K1 + K2 + 1, fun k hk => ?_⟩
    obtain ⟨k, rfl⟩ : ∃ j, k = j + 1 := ⟨k - 1, by omega⟩
    simp only [arrearslaw2_CalendarSpans.l0]
    rw [if_neg (by omega), e1 _ (by omega), Option.bind_some, hc]
    simp only []
    rw [if_pos True.intro, e2 _ (by omega)]
  · refine ⟨K1 + 2, fun k hk => ?_⟩
    obtain ⟨k, rfl⟩ : ∃ j, k = j + 2 := ⟨k - 2, by omega⟩
    simp only [arrearslaw2_CalendarSpans.l0]
    rw [if_neg (by omega), e1 _ (by omega), Option.bind_some, civ_out h]
    simp [arrearslaw2_CalendarSpans.j3]
theorem sp_j2 (a b c n i : Int) (hi : i = 0 ∨ i = 1) (hl : Ev (fun k => arrearslaw2_CalendarSpans.l0 k a b c n (i + 1)) true) :
    Ev (fun k => arrearslaw2_CalendarSpans.j2 k a b c n i (btw a b i).1 (btw a b i).2 false) true := by
  obtain ⟨K1, e1⟩ := Ev_out (between_ev b c i)
  obtain ⟨K2, e2⟩ := Ev_out (between_ev a c i)
  obtain ⟨K3, e3⟩ := Ev_out hl
  refine ⟨K1 + K2 + K3 + 1, fun k hk => ?_⟩
  obtain ⟨k, rfl⟩ : ∃ j, k = j + 1 := ⟨k - 1, by omega⟩
  simp only [arrearslaw2_CalendarSpans.j2]
  rw [if_neg Bool.false_ne_true, e1 _ (by omega), Option.bind_some, e2 _ (by omega), Option.bind_some, w64 (x := i + 1) (by omega) (by omega), e3 _ (by omega)]
  by_cases c0 : i = 0
  · subst c0
    rw [if_pos rfl, btw_is a b (.inl rfl), btw_is b c (.inl rfl), btw_is a c (.inl rfl)]
    by_cases hab : Day a ∧ Day b
    · rw [decide_eq_true hab, if_pos rfl]
      by_cases hbc : Day b ∧ Day c
      · have hac : Day a ∧ Day c := ⟨hab.1, hbc.2⟩
        rw [decide_eq_true hbc, if_pos rfl, decide_eq_true hac, if_pos rfl, btw_in hab, btw_in hbc, btw_in hac]
        have h1 := hab.1
        have h2 := hab.2
        have h3 := hbc.2
        unfold Day at h1 h2 h3
        simp only [if_true]
        rw [w64 (x := b - a + (c - b)) (by omega) (by omega), if_pos (by omega)]
      · rw [decide_eq_false hbc, if_neg Bool.false_ne_true]
    · rw [decide_eq_false hab, if_neg Bool.false_ne_true]
  · rw [if_neg c0]
theorem sp_l0 (a b c n i : Int) (hi : i = 0 ∨ i = 1) (hl : Ev (fun k => arrearslaw2_CalendarSpans.l0 k a b c n (i + 1)) true) :
    Ev (fun k => arrearslaw2_CalendarSpans.l0 k a b c n i) true := by
  obtain ⟨K1, e1⟩ := Ev_out (between_ev a b i)
  obtain ⟨K2, e2⟩ := Ev_out (between_ev b a i)
  obtain ⟨K3, e3⟩ := Ev_out (sp_j2 a b c n i hi hl)
  have hs := btw_swap a b hi
  have h1 := btw_is a b hi
  have h2 := btw_is b a hi
  refine ⟨K1 + K2 + K3 + 1, fun k hk => ?_⟩
  obtain ⟨k, rfl⟩ : ∃ j, k = j + 1 := ⟨k - 1, by omega⟩
  have e3' := e3 k (by omega)
  simp only [arrearslaw2_CalendarSpans.l0]
  rw [if_pos (by omega), e1 _ (by omega), Option.bind_some, e2 _ (by omega), Option.bind_some]
  have heq : ((btw a b i).2 != (btw b a i).2) = false := by
    rw [h1, h2, show (decide (Day a ∧ Day b)) = decide (Day b ∧ Day a) by simp only [And.comm]]
    exact bne_self_eq_false _
  rw [heq, if_neg Bool.false_ne_true, w64 (x := -(btw b a i).1) (by omega) (by omega), if_pos hs.1]
  by_cases c1 : a ≥ 1
  · rw [if_pos c1]
    by_cases c2 : a ≤ 3652059
    · rw [if_pos c2]
      by_cases c3 : b ≥ 1
      · rw [if_pos c3]
        have : ((btw a b i).2 != decide (b ≤ 3652059)) = false := by
          rw [h1]
          by_cases c4 : b ≤ 3652059
          · rw [decide_eq_true c4, decide_eq_true ⟨⟨c1, c2⟩, ⟨c3, c4⟩⟩]; rfl
          · rw [decide_eq_false c4, decide_eq_false (fun h => c4 h.2.2)]; rfl
        rw [this, e3']
      · have : ((btw a b i).2 != false) = false := by
          rw [h1, decide_eq_false (fun h => c3 h.2.1)]; rfl
        rw [if_neg c3, this, e3']
    · have : ((btw a b i).2 != false) = false := by
        rw [h1, decide_eq_false (fun h => c2 h.1.2)]; rfl
      rw [if_neg c2, this, e3']
  · have : ((btw a b i).2 != false) = false := by
      rw [h1, decide_eq_false (fun h => c1 h.1.1)]; rfl
    rw [if_neg c1, this, e3']
theorem CalendarSpans : arrearslaw2_CalendarSpans.Pure := by
  intro a b c n ha hb hc hn
  have d1 : Day 1 := by decide
  have d2 : Day 2 := by decide
  have d32 : Day 32 := by decide
  have t : thn 1 32 = 30 := by
    have := thn_num (y := 1) (m := 1) (d := 1) (y' := 1) (m' := 2) (d' := 1) (by decide) (by decide)
    rw [show num 1 1 1 = 1 from rfl, show num 1 2 1 = 32 from rfl] at this
    rw [this]
    rfl
  have b1 : btw 1 2 0 = (1, true) := by rw [btw_in ⟨d1, d2⟩]; rfl
  have b2 : btw 1 32 1 = (30, true) := by rw [btw_in ⟨d1, d32⟩, if_neg (by decide), if_pos rfl, if_neg (by decide), t]
  obtain ⟨K1, e1⟩ := Ev_out (between_ev 1 2 0)
  obtain ⟨K2, e2⟩ := Ev_out (between_ev 1 32 1)
  obtain ⟨K3, e3⟩ := Ev_out (sp_l0 a b c n 0 (.inl rfl) (sp_l0 a b c n (0 + 1) (.inr rfl) (sp_end a b c n)))
  refine ⟨K1 + K2 + K3 + 1, ?_⟩
  simp only [arrearslaw2_CalendarSpans.f]
  rw [e1 _ (by omega), Option.bind_some, e2 _ (by omega), Option.bind_some, b1, b2]
  simp only [if_true, Bool.not_true, arrearslaw2_CalendarSpans.j0]
  rw [if_neg Bool.false_ne_true, e3 _ (by omega)]

end Go.Proofs.YtifkobejdldkbaaDoor.Pure
