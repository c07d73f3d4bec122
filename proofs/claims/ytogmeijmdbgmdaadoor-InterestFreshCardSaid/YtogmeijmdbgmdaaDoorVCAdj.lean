/- Business days and the rules that move a day to one, as the program, the document and the statement's own words compute them. Plain Lean over the printed functions. -/
import Derived.Test.YtogmeijmdbgmdaaDoorVCDay
import Derived.Test.YtogmeijmdbgmdaaDoorVPFx5
import Derived.Test.YtogmeijmdbgmdaaDoorVPFx6
import Derived.Test.YtogmeijmdbgmdaaDoorVPFx7
namespace Go.Proofs.YtogmeijmdbgmdaaDoor.CAdj
open Go.RowKit Go.Proofs.YtogmeijmdbgmdaaDoor.PF Go.Proofs.YtogmeijmdbgmdaaDoorW.PrintWords Go.Proofs.YtogmeijmdbgmdaaDoorW.PrintLast Go.Proofs.YtogmeijmdbgmdaaDoorW.PrintMore Go.Proofs.YtogmeijmdbgmdaaDoor.MB Go.Proofs.YtogmeijmdbgmdaaDoor.CDate Go.Proofs.YtogmeijmdbgmdaaDoor.CProg Go.Proofs.YtogmeijmdbgmdaaDoor.CRef Go.Proofs.YtogmeijmdbgmdaaDoor.CCivil Go.Proofs.YtogmeijmdbgmdaaDoor.CDay
set_option linter.unusedVariables false
set_option linter.unusedSectionVars false
set_option linter.unusedSimpArgs false

theorem drop_mem (l : List Int) (a : Int) {i : Nat} (h : i < l.length) : a ∈ l.drop i ↔ (a = rd l (i : Int) ∨ a ∈ l.drop (i + 1)) := by
  rw [List.drop_eq_getElem_cons h, List.mem_cons, rd_nat, List.getD_eq_getElem?_getD, List.getElem?_eq_getElem h]
  rfl
theorem index_l0 (l : List Int) (a : Int) (hl : l.length < 4611686018427387904) : ∀ d i : Nat, i + d = l.length → ∃ r, (0 ≤ r ↔ a ∈ l.drop i) ∧ Ev (fun k => slices_Index_int_int.l0 k l a (l.length : Int) (i : Int)) r := by
  intro d
  induction d with
  | zero =>
    intro i hi
    refine ⟨-1, ?_, Ev_one fun k => ?_⟩
    · rw [List.drop_eq_nil_of_le (by omega)]
      simp
    · simp only [slices_Index_int_int.l0]
      rw [if_neg (by omega)]
  | succ d ih =>
    intro i hi
    have hm := drop_mem l a (i := i) (by omega)
    by_cases c : a = rd l (i : Int)
    · refine ⟨i, ?_, Ev_one fun k => ?_⟩
      · rw [hm]
        exact ⟨fun _ => .inl c, fun _ => by omega⟩
      · simp only [slices_Index_int_int.l0]
        rw [if_pos (by omega), if_pos (by omega), if_pos (by omega), if_pos c]
    · obtain ⟨r, h1, h2⟩ := ih (i + 1) (by omega)
      refine ⟨r, ?_, Ev.step (fun k => ?_) h2⟩
      · rw [h1, hm]
        exact ⟨fun h => .inr h, fun h => h.resolve_left c⟩
      · simp only [slices_Index_int_int.l0]
        rw [if_pos (by omega), if_pos (by omega), if_pos (by omega), if_neg c, wi i (by omega)]
theorem contains_ev (l : List Int) (a : Int) (hl : l.length < 4611686018427387904) : Ev (fun k => slices_Contains_int_int.f k l a) (decide (a ∈ l)) := by
  obtain ⟨r, h1, h2⟩ := index_l0 l a hl l.length 0 (by omega)
  obtain ⟨K, e⟩ := Ev_out h2
  refine ⟨K, fun k hk => ?_⟩
  simp only [slices_Contains_int_int.f, slices_Index_int_int.f]
  have e' := e k hk
  rw [show ((0 : Nat) : Int) = 0 from rfl] at e'
  rw [e', Option.bind_some]
  rw [List.drop_zero] at h1
  by_cases c : a ∈ l
  · rw [decide_eq_true c, decide_eq_true (h1.2 c)]
  · rw [decide_eq_false c, decide_eq_false (fun h => c (h1.1 h))]
/-- A business day. -/
def biz (n : Int) (l : List Int) : Bool := decide (Day n ∧ (n - 1) % 7 < 5 ∧ ¬ n ∈ l)
theorem biz_yes {n : Int} {l : List Int} (h : Day n ∧ (n - 1) % 7 < 5 ∧ ¬ n ∈ l) : biz n l = true := decide_eq_true h
theorem biz_no {n : Int} {l : List Int} (h : ¬ (Day n ∧ (n - 1) % 7 < 5 ∧ ¬ n ∈ l)) : biz n l = false := decide_eq_false h
theorem biz_day {n : Int} {l : List Int} (h : biz n l = true) : Day n := (of_decide_eq_true h).1
theorem business_ev (n : Int) (l : List Int) (hl : l.length < 4611686018427387904) : Ev (fun k => calendar_Business.f k n l) (biz n l) := by
  obtain ⟨K, e⟩ := Ev_out (contains_ev l n hl)
  refine ⟨K, fun k hk => ?_⟩
  simp only [calendar_Business.f]
  rw [weekday_eq, Option.bind_some, e k hk, Option.bind_some]
  by_cases h : Day n
  · rw [wdR_in h]
    simp only [if_true]
    by_cases c : (n - 1) % 7 < 5
    · rw [if_pos (by omega)]
      by_cases c2 : n ∈ l
      · rw [decide_eq_true c2, biz_no (fun g => g.2.2 c2)]; rfl
      · rw [decide_eq_false c2, biz_yes ⟨h, c, c2⟩]; rfl
    · rw [if_neg (by omega), biz_no (fun g => c g.2.1)]
  · rw [wdR_out h, biz_no (fun g => h g.1)]
    rfl
/-- The first business day of n, n + st, .. within so many days. -/
def sk : Nat → Int → Int → List Int → Int × Bool
  | 0, _, _, _ => (0, false)
  | d + 1, n, st, l => if biz n l = true then (n, true) else sk d (n + st) st l
theorem sk_out {d : Nat} {n st : Int} {l : List Int} (h : (sk d n st l).2 = false) : (sk d n st l).1 = 0 := by
  induction d generalizing n with
  | zero => rfl
  | succ d ih =>
    unfold sk at h ⊢
    by_cases c : biz n l = true
    · rw [if_pos c] at h; exact absurd h (by simp)
    · rw [if_neg c] at h ⊢; exact ih h
theorem sk_in {d : Nat} {n st : Int} {l : List Int} (hs : st = 1 ∨ st = -1) (h : (sk d n st l).2 = true) : Day (sk d n st l).1 ∧ n - d ≤ (sk d n st l).1 ∧ (sk d n st l).1 ≤ n + d := by
  induction d generalizing n with
  | zero => exact absurd h (by simp [sk])
  | succ d ih =>
    unfold sk at h ⊢
    by_cases c : biz n l = true
    · rw [if_pos c]
      exact ⟨biz_day c, by simp only []; omega, by simp only []; omega⟩
    · rw [if_neg c] at h ⊢
      obtain ⟨h1, h2, h3⟩ := ih h
      refine ⟨h1, ?_, ?_⟩ <;> rcases hs with rfl | rfl <;> omega
theorem sk_pos {d : Nat} {n st : Int} {l : List Int} (hs : st = 1 ∨ st = -1) : (sk d n st l).2 = decide ((sk d n st l).1 > 0) := by
  cases h : (sk d n st l).2 with
  | false => rw [sk_out h]; rfl
  | true =>
    have := (sk_in hs h).1.1
    rw [decide_eq_true (by omega)]
theorem sk_eta (d : Nat) (n st : Int) (l : List Int) : ((sk d n st l).1, (sk d n st l).2) = sk d n st l := rfl
theorem seek_l0 (l : List Int) (hl : l.length < 4611686018427387904) {st : Int} (hs : st = 1 ∨ st = -1) : ∀ d i : Nat, i + d = 11 → ∀ n : Int, -4000000 + (d : Int) ≤ n → n ≤ 4000000 - (d : Int) → Ev (fun k => calendar_seek.l0 k n l st (i : Int)) (sk d n st l) := by
  intro d
  induction d with
  | zero =>
    intro i hi n h0 h1
    refine Ev_one fun k => ?_
    simp only [calendar_seek.l0]
    rw [if_neg (by omega)]
    rfl
  | succ d ih =>
    intro i hi n h0 h1
    obtain ⟨K1, e1⟩ := Ev_out (business_ev n l hl)
    obtain ⟨K2, e2⟩ := Ev_out (ih (i + 1) (by omega) (n + st) (by rcases hs with rfl | rfl <;> omega) (by rcases hs with rfl | rfl <;> omega))
    refine ⟨K1 + K2 + 1, fun k hk => ?_⟩
    obtain ⟨k, rfl⟩ : ∃ j, k = j + 1 := ⟨k - 1, by omega⟩
    simp only [calendar_seek.l0]
    rw [if_pos (by omega), e1 k (by omega), Option.bind_some]
    unfold sk
    by_cases c : biz n l = true
    · rw [if_pos c, if_pos c]
    · rw [if_neg c, if_neg c, wi i (by omega), w64 (x := n + st) (by rcases hs with rfl | rfl <;> omega) (by rcases hs with rfl | rfl <;> omega), e2 k (by omega)]
theorem seek_ev {n : Int} (h : Day n) (l : List Int) (hl : l.length < 4611686018427387904) {st : Int} (hs : st = 1 ∨ st = -1) : Ev (fun k => calendar_seek.f k n l st) (sk 11 n st l) := by
  unfold Day at h
  exact seek_l0 l hl hs 11 0 (by omega) n (by omega) (by omega)
/-- Two days a few days apart, of months of one number, are of one year. -/
theorem near_year {y m d y' d' : Int} (v : Valid y m d) (v' : Valid y' m d') (h : y < y') : num y m d + 300 < num y' m d' := by
  have h1 := yb_succ y
  have h2 := yb_mono (y := y + 1) (z := y') (by omega)
  have h3 := yl_bd y
  have h4 := lp_bd y
  have h5 := lp_bd y'
  have h6 := ml_bd y m
  unfold Valid at v v'
  unfold num bf
  split <;> omega
theorem same_month {a b : Int} (ha : Day a) (hb : Day b) (h0 : a - 300 ≤ b) (h1 : b ≤ a + 300) (hm : (civ a).2.1 = (civ b).2.1) : (civ a).1 = (civ b).1 := by
  obtain ⟨y, m, d, v, rfl, ca⟩ := civ_in ha
  obtain ⟨y', m', d', v', rfl, cb⟩ := civ_in hb
  rw [ca, cb] at hm ⊢
  simp only [] at hm ⊢
  subst hm
  rcases Int.lt_trichotomy y y' with c | c | c
  · have := near_year v v' c; omega
  · exact c
  · have := near_year v' v c; omega
/-- What Adjust answers. -/
noncomputable def adj (n : Int) (l : List Int) (r : Int) : Int × Bool :=
  if Day n then (if r = 0 then (n, true) else if r = 1 then sk 11 n 1 l else if r = 2 then sk 11 n (-1) l else if r = 3 then (if (sk 11 n 1 l).2 = true ∧ (civ n).2.1 = (civ (sk 11 n 1 l).1).2.1 then ((sk 11 n 1 l).1, true) else sk 11 n (-1) l) else (0, false)) else (0, false)
theorem adj_out {n : Int} {l : List Int} {r : Int} (h : ¬ Day n) : adj n l r = (0, false) := if_neg h
theorem adj_in {n : Int} {l : List Int} {r : Int} (h : Day n) : adj n l r = (if r = 0 then (n, true) else if r = 1 then sk 11 n 1 l else if r = 2 then sk 11 n (-1) l else if r = 3 then (if (sk 11 n 1 l).2 = true ∧ (civ n).2.1 = (civ (sk 11 n 1 l).1).2.1 then ((sk 11 n 1 l).1, true) else sk 11 n (-1) l) else (0, false)) := if_pos h
theorem adjust_ev (n : Int) (l : List Int) (r : Int) (hl : l.length < 4611686018427387904) : Ev (fun k => calendar_Adjust.f k n l r) (adj n l r) := by
  by_cases h : Day n
  · rw [adj_in h]
    obtain ⟨K1, e1⟩ := Ev_out (seek_ev h l hl (st := 1) (.inl rfl))
    obtain ⟨K2, e2⟩ := Ev_out (seek_ev h l hl (st := -1) (.inr rfl))
    obtain ⟨K3, e3⟩ := Ev_out (civ_ev n)
    obtain ⟨K4, e4⟩ := Ev_out (civ_ev (sk 11 n 1 l).1)
    refine ⟨K1 + K2 + K3 + K4 + 1, fun k hk => ?_⟩
    obtain ⟨k, rfl⟩ : ∃ j, k = j + 1 := ⟨k - 1, by omega⟩
    have h' := h
    unfold Day at h'
    simp only [calendar_Adjust.f]
    rw [if_neg (by omega), decide_eq_false (by omega)]
    simp only [calendar_Adjust.j0]
    rw [if_neg Bool.false_ne_true, e1 k (by omega), e2 k (by omega)]
    simp only [Option.bind_some]
    by_cases c0 : r = 0
    · rw [if_pos c0, if_pos c0]
    · rw [if_neg c0, if_neg c0]
      by_cases c1 : r = 1
      · rw [if_pos c1, if_pos c1]
      · rw [if_neg c1, if_neg c1]
        by_cases c2 : r = 2
        · rw [if_pos c2, if_pos c2]
        · rw [if_neg c2, if_neg c2]
          by_cases c3 : r = 3
          · rw [if_pos c3, if_pos c3]
            by_cases g : (sk 11 n 1 l).2 = true
            · rw [if_pos g]
              have hb := sk_in (.inl rfl) g
              simp only [calendar_sameMonth.f]
              rw [e3 k (by omega), e4 k (by omega)]
              simp only [Option.bind_some]
              by_cases q : (civ n).2.1 = (civ (sk 11 n 1 l).1).2.1
              · rw [if_pos (same_month h hb.1 (by omega) (by omega) q), if_pos q, if_pos ⟨g, q⟩, Option.bind_some, if_pos rfl]
              · rw [if_neg q, if_neg (show ¬ ((sk 11 n 1 l).2 = true ∧ (civ n).2.1 = (civ (sk 11 n 1 l).1).2.1) from fun z => q z.2)]
                by_cases q2 : (civ n).1 = (civ (sk 11 n 1 l).1).1
                · rw [if_pos q2, Option.bind_some, if_neg Bool.false_ne_true]
                · rw [if_neg q2, Option.bind_some, if_neg Bool.false_ne_true]
            · rw [if_neg g, if_neg (fun z => g z.1)]
          · rw [if_neg c3, if_neg c3]
  · rw [adj_out h]
    refine Ev_one fun k => ?_
    simp only [calendar_Adjust.f]
    unfold Day at h
    by_cases c : n < 1
    · rw [if_pos c]
      simp [calendar_Adjust.j0]
    · rw [if_neg c, decide_eq_true (by omega)]
      simp [calendar_Adjust.j0]
end Go.Proofs.YtogmeijmdbgmdaaDoor.CAdj
