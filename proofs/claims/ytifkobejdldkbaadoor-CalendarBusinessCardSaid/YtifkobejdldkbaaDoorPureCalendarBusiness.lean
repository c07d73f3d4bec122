/- CalendarBusiness: each rule lands on the nearest business day of its side; modified never leaves the month if there is one in it. This text is the part over numbers alone. -/
import Derived.Test.YtifkobejdldkbaaDoorCAdj
import Derived.Test.YtifkobejdldkbaaDoorPAx13
import Derived.Test.YtifkobejdldkbaaDoorPAx14
namespace Go.Proofs.YtifkobejdldkbaaDoor.Pure
open Go.RowKit Go.Proofs.YtifkobejdldkbaaDoor.PA Go.Proofs.YtifkobejdldkbaaDoorW.PrintWords Go.Proofs.YtifkobejdldkbaaDoorW.PrintLast Go.Proofs.YtifkobejdldkbaaDoor.MB Go.Proofs.YtifkobejdldkbaaDoor.CDate Go.Proofs.YtifkobejdldkbaaDoor.CDay Go.Proofs.YtifkobejdldkbaaDoor.CAdj
set_option linter.unusedVariables false
set_option linter.unusedSimpArgs false

theorem holiday_l0 (n : Int) (l : List Int) (hl : l.length < 4611686018427387904) : ∀ d i : Nat, i + d = l.length → Ev (fun k => arrearslaw2_holiday.l0 k n l (i : Int)) (decide (n ∈ l.drop i)) := by
  intro d
  induction d with
  | zero =>
    intro i hi
    rw [List.drop_eq_nil_of_le (by omega)]
    refine Ev_one fun k => ?_
    simp only [arrearslaw2_holiday.l0]
    rw [if_neg (by omega)]
    simp
  | succ d ih =>
    intro i hi
    have hm := drop_mem l n (i := i) (by omega)
    by_cases c : n = rd l (i : Int)
    · rw [decide_eq_true (hm.2 (.inl c))]
      refine Ev_one fun k => ?_
      simp only [arrearslaw2_holiday.l0]
      rw [if_pos (by omega), if_pos (by omega), if_pos c.symm]
    · have e : decide (n ∈ l.drop i) = decide (n ∈ l.drop (i + 1)) := by
        by_cases c2 : n ∈ l.drop (i + 1)
        · rw [decide_eq_true c2, decide_eq_true (hm.2 (.inr c2))]
        · rw [decide_eq_false c2, decide_eq_false (fun g => (hm.1 g).elim c c2)]
      rw [e]
      refine Ev.step (fun k => ?_) (ih (i + 1) (by omega))
      simp only [arrearslaw2_holiday.l0]
      rw [if_pos (by omega), if_pos (by omega), if_neg (fun g => c g.symm), wi i (by omega)]
theorem works_ev (n : Int) (l : List Int) (hl : l.length < 4611686018427387904) : Ev (fun k => arrearslaw2_works.f k n l) (biz n l) := by
  obtain ⟨K, e⟩ := Ev_out (holiday_l0 n l hl l.length 0 (by omega))
  refine ⟨K, fun k hk => ?_⟩
  have e' := e k hk
  rw [show ((0 : Nat) : Int) = 0 from rfl, List.drop_zero] at e'
  simp only [arrearslaw2_works.f, arrearslaw2_holiday.f]
  rw [e', Option.bind_some]
  by_cases h : Day n
  · have h' := h
    unfold Day at h'
    rw [if_pos (by omega), if_pos (by omega), w64 (x := n - 1) (by omega) (by omega), tm (by omega)]
    by_cases c : (n - 1) % 7 < 5
    · rw [if_pos c]
      by_cases c2 : n ∈ l
      · rw [decide_eq_true c2, biz_no (fun g => g.2.2 c2)]; rfl
      · rw [decide_eq_false c2, biz_yes ⟨h, c, c2⟩]; rfl
    · rw [if_neg c, biz_no (fun g => c g.2.1)]
  · rw [biz_no (fun g => h g.1)]
    unfold Day at h
    by_cases c1 : n ≥ 1
    · rw [if_pos c1, if_neg (by omega)]
    · rw [if_neg c1]
theorem nearest_l0 (l : List Int) (hl : l.length < 4611686018427387904) {st : Int} (hs : st = 1 ∨ st = -1) {n : Int} (h : Day n) : ∀ d i : Nat, i + d = 11 → Ev (fun k => arrearslaw2_nearest.l0 k n l st (i : Int)) (sk d (n + (i : Int) * st) st l).1 := by
  intro d
  unfold Day at h
  induction d with
  | zero =>
    intro i hi
    refine Ev_one fun k => ?_
    simp only [arrearslaw2_nearest.l0]
    rw [if_neg (by omega)]
    rfl
  | succ d ih =>
    intro i hi
    obtain ⟨K1, e1⟩ := Ev_out (works_ev (n + (i : Int) * st) l hl)
    obtain ⟨K2, e2⟩ := Ev_out (ih (i + 1) (by omega))
    refine ⟨K1 + K2 + 1, fun k hk => ?_⟩
    obtain ⟨k, rfl⟩ : ∃ j, k = j + 1 := ⟨k - 1, by omega⟩
    simp only [arrearslaw2_nearest.l0]
    have ew : wrap64 (n + wrap64 ((i : Int) * st)) = n + (i : Int) * st := by
      rw [w64 (x := (i : Int) * st) (by rcases hs with rfl | rfl <;> omega) (by rcases hs with rfl | rfl <;> omega), w64 (by rcases hs with rfl | rfl <;> omega) (by rcases hs with rfl | rfl <;> omega)]
    rw [if_pos (by omega), ew, e1 k (by omega), Option.bind_some]
    unfold sk
    by_cases c : biz (n + (i : Int) * st) l = true
    · rw [if_pos c, if_pos c]
    · rw [if_neg c, if_neg c, wi i (by omega), e2 k (by omega), show n + ((i + 1 : Nat) : Int) * st = n + (i : Int) * st + st by rcases hs with rfl | rfl <;> omega]
theorem nearest_ev {n : Int} (h : Day n) (l : List Int) (hl : l.length < 4611686018427387904) {st : Int} (hs : st = 1 ∨ st = -1) : Ev (fun k => arrearslaw2_nearest.f k n l st) (sk 11 n st l).1 := by
  have := nearest_l0 l hl hs h 11 0 (by omega)
  rw [show n + ((0 : Nat) : Int) * st = n by simp] at this
  exact this
theorem bs_out (n : Int) (l : List Int) : Ev (fun k => arrearslaw2_CalendarBusiness.j0 k n l true) true := by
  obtain ⟨K1, e1⟩ := Ev_out (business_ev 1 [] (by decide))
  obtain ⟨K2, e2⟩ := Ev_out (business_ev 0 [] (by decide))
  refine ⟨K1 + K2 + 1, fun k hk => ?_⟩
  obtain ⟨k, rfl⟩ : ∃ j, k = j + 1 := ⟨k - 1, by omega⟩
  simp only [arrearslaw2_CalendarBusiness.j0]
  rw [if_pos True.intro, e1 k (by omega), Option.bind_some, e2 k (by omega), Option.bind_some]
  rfl
theorem bs_j1 {n : Int} (h : Day n) (l : List Int) : Ev (fun k => arrearslaw2_CalendarBusiness.j1 k n (adj n l 3).1 (adj n l 3).2 (sk 11 n 1 l).1 (sk 11 n (-1) l).1 false) true := by
  obtain ⟨K1, e1⟩ := Ev_out (civ_ev n)
  obtain ⟨K2, e2⟩ := Ev_out (civ_ev (sk 11 n 1 l).1)
  obtain ⟨y, m, d, v, e, hc⟩ := civ_in h
  have hp := sk_pos (d := 11) (n := n) (st := 1) (l := l) (.inl rfl)
  have hm := sk_pos (d := 11) (n := n) (st := -1) (l := l) (.inr rfl)
  have a3 : adj n l 3 = if (sk 11 n 1 l).2 = true ∧ (civ n).2.1 = (civ (sk 11 n 1 l).1).2.1 then ((sk 11 n 1 l).1, true) else sk 11 n (-1) l := by
    rw [adj_in h, if_neg (by decide), if_neg (by decide), if_neg (by decide), if_pos rfl]
  refine ⟨K1 + K2 + 1, fun k hk => ?_⟩
  obtain ⟨k, rfl⟩ : ∃ j, k = j + 1 := ⟨k - 1, by omega⟩
  simp only [arrearslaw2_CalendarBusiness.j1]
  rw [if_neg Bool.false_ne_true, e1 k (by omega), Option.bind_some, e2 k (by omega), Option.bind_some, if_pos (show (civ n).2.2.2 = true by rw [hc])]
  by_cases c : (sk 11 n 1 l).1 > 0
  · rw [decide_eq_true c] at hp
    by_cases q : (civ (sk 11 n 1 l).1).2.1 = (civ n).2.1
    · rw [if_pos ⟨hp, q.symm⟩] at a3
      rw [if_pos c, if_pos q, a3, if_pos rfl]
    · rw [if_neg (fun z => q z.2.symm)] at a3
      rw [if_pos c, if_neg q, a3, if_pos rfl, hm]
      simp
  · rw [decide_eq_false c] at hp
    rw [if_neg (fun z => by rw [hp] at z; exact Bool.false_ne_true z.1)] at a3
    rw [if_neg c, a3, if_pos rfl, hm]
    simp
theorem bs_j0 {n : Int} (h : Day n) (l : List Int) (hl : l.length < 4611686018427387904) : Ev (fun k => arrearslaw2_CalendarBusiness.j0 k n l false) true := by
  obtain ⟨K1, e1⟩ := Ev_out (business_ev n l hl)
  obtain ⟨K2, e2⟩ := Ev_out (works_ev n l hl)
  obtain ⟨K3, e3⟩ := Ev_out (adjust_ev n l 1 hl)
  obtain ⟨K4, e4⟩ := Ev_out (adjust_ev n l 2 hl)
  obtain ⟨K5, e5⟩ := Ev_out (adjust_ev n l 3 hl)
  obtain ⟨K6, e6⟩ := Ev_out (adjust_ev n l 0 hl)
  obtain ⟨K7, e7⟩ := Ev_out (nearest_ev h l hl (st := 1) (.inl rfl))
  obtain ⟨K8, e8⟩ := Ev_out (nearest_ev h l hl (st := -1) (.inr rfl))
  obtain ⟨K9, e9⟩ := Ev_out (bs_j1 h l)
  have hp := sk_pos (d := 11) (n := n) (st := 1) (l := l) (.inl rfl)
  have hm := sk_pos (d := 11) (n := n) (st := -1) (l := l) (.inr rfl)
  have a0 : adj n l 0 = (n, true) := by rw [adj_in h, if_pos rfl]
  have a1 : adj n l 1 = sk 11 n 1 l := by rw [adj_in h, if_neg (by decide), if_pos rfl]
  have a2 : adj n l 2 = sk 11 n (-1) l := by rw [adj_in h, if_neg (by decide), if_neg (by decide), if_pos rfl]
  refine ⟨K1 + K2 + K3 + K4 + K5 + K6 + K7 + K8 + K9 + 1, fun k hk => ?_⟩
  obtain ⟨k, rfl⟩ : ∃ j, k = j + 1 := ⟨k - 1, by omega⟩
  simp only [arrearslaw2_CalendarBusiness.j0]
  rw [if_neg Bool.false_ne_true, e1 k (by omega), Option.bind_some, e2 k (by omega), Option.bind_some, bne_self_eq_false, if_neg Bool.false_ne_true,
    e3 k (by omega), Option.bind_some, e4 k (by omega), Option.bind_some, e5 k (by omega), Option.bind_some, e6 k (by omega), Option.bind_some, e7 k (by omega), Option.bind_some, e8 k (by omega), Option.bind_some,
    a0, a1, a2, if_pos rfl, if_pos rfl, if_pos rfl, hp, bne_self_eq_false, if_neg Bool.false_ne_true, if_pos rfl, hm, bne_self_eq_false, e9 k (by omega)]
theorem CalendarBusiness : arrearslaw2_CalendarBusiness.Pure := by
  intro n l hn _ hl8 hl
  have hb : l.length < 4611686018427387904 := by omega
  obtain ⟨K1, e1⟩ := Ev_out (bs_out n l)
  by_cases c0 : (l.length : Int) > 4096
  · refine ⟨K1, ?_⟩
    simp only [arrearslaw2_CalendarBusiness.f]
    rw [if_pos c0, e1 _ (by omega)]
  · by_cases h : Day n
    · obtain ⟨K2, e2⟩ := Ev_out (bs_j0 h l hb)
      refine ⟨K2, ?_⟩
      unfold Day at h
      simp only [arrearslaw2_CalendarBusiness.f]
      rw [if_neg c0, if_neg (by omega), decide_eq_false (by omega), e2 _ (by omega)]
    · refine ⟨K1, ?_⟩
      unfold Day at h
      simp only [arrearslaw2_CalendarBusiness.f]
      rw [if_neg c0]
      by_cases c1 : n < 1
      · rw [if_pos c1, e1 _ (by omega)]
      · rw [if_neg c1, decide_eq_true (by omega), e1 _ (by omega)]

end Go.Proofs.YtifkobejdldkbaaDoor.Pure
