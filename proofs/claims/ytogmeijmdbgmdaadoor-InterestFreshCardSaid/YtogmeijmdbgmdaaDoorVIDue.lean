/- Due days: a month's day, moved by ten days at most; with four holidays at most the search finds one. Plain Lean over the printed functions. -/
import Derived.Test.YtogmeijmdbgmdaaDoorVCMonth
import Derived.Test.YtogmeijmdbgmdaaDoorVCAdj
namespace Go.Proofs.YtogmeijmdbgmdaaDoor.IDue
open Go.RowKit Go.Proofs.YtogmeijmdbgmdaaDoor.PF Go.Proofs.YtogmeijmdbgmdaaDoorW.PrintWords Go.Proofs.YtogmeijmdbgmdaaDoorW.PrintLast Go.Proofs.YtogmeijmdbgmdaaDoorW.PrintMore Go.Proofs.YtogmeijmdbgmdaaDoor.MB Go.Proofs.YtogmeijmdbgmdaaDoor.CDate Go.Proofs.YtogmeijmdbgmdaaDoor.CProg Go.Proofs.YtogmeijmdbgmdaaDoor.CRef Go.Proofs.YtogmeijmdbgmdaaDoor.CCivil Go.Proofs.YtogmeijmdbgmdaaDoor.CDay Go.Proofs.YtogmeijmdbgmdaaDoor.CMonth Go.Proofs.YtogmeijmdbgmdaaDoor.CAdj
set_option linter.unusedVariables false
set_option linter.unusedSectionVars false
set_option linter.unusedSimpArgs false

/-- The days ahead of the month of the number K. -/
def base (K : Int) : Int := yb (K / 12 + 1) + bf (K / 12 + 1) (K % 12 + 1)
theorem base_succ (K : Int) : base (K + 1) = base K + ml (K / 12 + 1) (K % 12 + 1) := by
  unfold base
  have hb := bf_succ (K / 12 + 1) (m := K % 12 + 1) (by omega) (by omega)
  by_cases c : K % 12 = 11
  · rw [show (K + 1) / 12 + 1 = K / 12 + 1 + 1 by omega, show (K + 1) % 12 + 1 = 1 by omega, bf_one, yb_succ, ← bf_end]
    rw [c] at hb ⊢
    rw [show (11 + 1 + 1 : Int) = 13 from rfl] at hb
    omega
  · rw [show (K + 1) / 12 + 1 = K / 12 + 1 by omega, show (K + 1) % 12 + 1 = K % 12 + 1 + 1 by omega, hb]
    omega
/-- The day of that month nearest to the anchor. -/
def dayK (K a : Int) : Int := base K + at_ (K / 12 + 1) (K % 12 + 1) a
theorem at_bd {y m a : Int} : (a < 28 ∧ at_ y m a = a) ∨ (28 ≤ a ∧ 28 ≤ at_ y m a ∧ at_ y m a ≤ ml y m ∧ at_ y m a ≤ 31) := by
  have := ml_bd y m
  unfold at_
  split <;> omega
theorem day_up (K a : Int) : dayK K a + 28 ≤ dayK (K + 1) a ∧ dayK (K + 1) a ≤ dayK K a + 34 := by
  unfold dayK
  rw [base_succ]
  have h1 := at_bd (y := K / 12 + 1) (m := K % 12 + 1) (a := a)
  have h2 := at_bd (y := (K + 1) / 12 + 1) (m := (K + 1) % 12 + 1) (a := a)
  have := ml_bd (K / 12 + 1) (K % 12 + 1)
  omega
theorem day_upN (K a : Int) : ∀ n : Nat, dayK K a + 28 * (n : Int) ≤ dayK (K + n) a ∧ dayK (K + n) a ≤ dayK K a + 34 * (n : Int) := by
  intro n
  induction n with
  | zero => simp
  | succ n ih =>
    have h := day_up (K + n) a
    rw [show K + ((n + 1 : Nat) : Int) = K + n + 1 by omega]
    omega
theorem inMonth_day {K a : Int} (h : 0 ≤ K ∧ K < 119988) : inMonth K a = (dayK K a, true) := by
  rw [inMonth_in h]
  rfl
section
variable {y mo a start : Int} (v : Valid y mo a) (hs : num y mo a = start) (h0 : start ≤ 3640000)
include v hs
theorem day_start : dayK (12 * y + mo - 13) a = start := by
  rw [← hs]
  unfold Valid at v
  unfold dayK base num
  rw [show (12 * y + mo - 13) / 12 + 1 = y by omega, show (12 * y + mo - 13) % 12 + 1 = mo by omega]
  unfold at_
  split <;> omega
include h0
theorem due_in {m : Nat} (hm : m ≤ 120) : am start m a = (dayK (12 * y + mo - 13 + m) a, true) ∧ start + 28 * (m : Int) ≤ dayK (12 * y + mo - 13 + m) a ∧ dayK (12 * y + mo - 13 + m) a ≤ start + 34 * (m : Int) := by
  have hd := day_start v hs
  have hn := day_upN (12 * y + mo - 13) a m
  rw [hd] at hn
  have hy : y < 9980 := by
    by_cases c : y < 9980
    · exact c
    · have h1 := yb_mono (y := 9980) (z := y) (by omega)
      have h2 := num_in v
      rw [show yb 9980 = 3644754 from rfl] at h1
      omega
  have hml := ml_bd y mo
  have v' := v
  unfold Valid at v'
  refine ⟨?_, hn⟩
  rw [← hs, am_all v (by omega), inMonth_day (by omega)]
end
/-- Why the search ended without a day. -/
theorem sk_none {d : Nat} {n st : Int} {l : List Int} (hs : st = 1 ∨ st = -1) (h : (sk d n st l).2 = false) : ∀ i : Int, 0 ≤ i → i < d → biz (n + (if st = 1 then i else -i)) l = false := by
  induction d generalizing n with
  | zero => intro i h0 h1; omega
  | succ d ih =>
    intro i h0 h1
    unfold sk at h
    by_cases c : biz n l = true
    · rw [if_pos c] at h; exact absurd h (by simp)
    · rw [if_neg c] at h
      by_cases e : i = 0
      · subst e
        have : n + (if st = 1 then (0 : Int) else -0) = n := by split <;> omega
        rw [this]
        simpa using c
      · have := ih h (i - 1) (by omega) (by omega)
        have e2 : n + st + (if st = 1 then (i - 1) else -(i - 1)) = n + (if st = 1 then i else -i) := by
          rcases hs with rfl | rfl
          · rw [if_pos rfl, if_pos rfl]; omega
          · rw [if_neg (by omega), if_neg (by omega)]; omega
        rw [e2] at this
        exact this
theorem sk_near {d : Nat} {n st : Int} {l : List Int} (hs : st = 1 ∨ st = -1) (h : (sk d n st l).2 = true) : biz (sk d n st l).1 l = true ∧ n - ((d : Int) - 1) ≤ (sk d n st l).1 ∧ (sk d n st l).1 ≤ n + ((d : Int) - 1) ∧ 1 ≤ d := by
  induction d generalizing n with
  | zero => exact absurd h (by simp [sk])
  | succ d ih =>
    unfold sk at h ⊢
    by_cases c : biz n l = true
    · rw [if_pos c]
      exact ⟨c, by simp only []; omega, by simp only []; omega, by omega⟩
    · rw [if_neg c] at h ⊢
      obtain ⟨h1, h2, h3, h4⟩ := ih h
      refine ⟨h1, ?_, ?_, by omega⟩ <;> rcases hs with rfl | rfl <;> omega
theorem len_sub : ∀ (W l : List Int), W.Nodup → (∀ x ∈ W, x ∈ l) → W.length ≤ l.length
  | [], l, _, _ => Nat.zero_le _
  | x :: W, l, hn, hs => by
    have hx : x ∈ l := hs x (by simp)
    have hn' := List.nodup_cons.1 hn
    have h1 := len_sub W (l.erase x) hn'.2 (fun y hy => by
      have hne : y ≠ x := fun e => hn'.1 (by rw [← e]; exact hy)
      exact (List.mem_erase_of_ne hne).2 (hs y (by simp [hy])))
    have h2 := List.length_erase_of_mem hx
    have h3 := List.length_pos_of_mem hx
    rw [List.length_cons]
    omega
theorem week_out {a : Int} {l : List Int} (hl : l.length ≤ 4) (h : ∀ x, a ≤ x → x ≤ a + 4 → x ∈ l) : False := by
  have := len_sub [a, a + 1, a + 2, a + 3, a + 4] l (by
    simp only [List.nodup_cons, List.mem_cons, List.not_mem_nil, or_false, not_or, List.nodup_nil, and_true, not_false_eq_true]
    omega) (fun x hx => by
    simp only [List.mem_cons, List.not_mem_nil, or_false] at hx
    exact h x (by omega) (by omega))
  simp only [List.length_cons, List.length_nil] at this
  omega
theorem biz_hol {n : Int} {l : List Int} (h : biz n l = false) (hd : Day n) (hw : (n - 1) % 7 < 5) : n ∈ l := by
  by_cases c : n ∈ l
  · exact c
  · rw [biz_yes ⟨hd, hw, c⟩] at h
    cases h
theorem sk_found {n st : Int} {l : List Int} (hs : st = 1 ∨ st = -1) (h0 : 11 ≤ n) (h1 : n ≤ 3652049) (hl : l.length ≤ 4) : (sk 11 n st l).2 = true := by
  rcases Bool.eq_false_or_eq_true (sk 11 n st l).2 with c | c
  · exact c
  · have hk := sk_none hs c
    exfalso
    rcases hs with rfl | rfl
    · refine week_out (a := n + (7 - (n - 1) % 7) % 7) hl (fun x hx0 hx1 => ?_)
      have := hk (x - n) (by omega) (by omega)
      rw [if_pos rfl, show n + (x - n) = x by omega] at this
      exact biz_hol this ⟨by omega, by omega⟩ (by omega)
    · refine week_out (a := n - ((n - 1) % 7 + 3) % 7 - 4) hl (fun x hx0 hx1 => ?_)
      have := hk (n - x) (by omega) (by omega)
      rw [if_neg (by omega), show n + -(n - x) = x by omega] at this
      exact biz_hol this ⟨by omega, by omega⟩ (by omega)
theorem adj_ok {n r : Int} {l : List Int} (h0 : 11 ≤ n) (h1 : n ≤ 3652049) (hl : l.length ≤ 4) (hr : 0 ≤ r ∧ r ≤ 3) :
    ∃ d, adj n l r = (d, true) ∧ n - 10 ≤ d ∧ d ≤ n + 10 ∧ (r = 0 → d = n) ∧ (r ≠ 0 → biz d l = true) := by
  have key : ∀ st : Int, st = 1 ∨ st = -1 → ∃ d, sk 11 n st l = (d, true) ∧ n - 10 ≤ d ∧ d ≤ n + 10 ∧ biz d l = true := fun st hs => by
    have f := sk_found hs h0 h1 hl
    obtain ⟨q1, q2, q3, q4⟩ := sk_near hs f
    refine ⟨(sk 11 n st l).1, ?_, by omega, by omega, q1⟩
    rw [← f]
  obtain ⟨u, u1, u2, u3, u4⟩ := key 1 (.inl rfl)
  obtain ⟨w, w1, w2, w3, w4⟩ := key (-1) (.inr rfl)
  rw [adj_in ⟨by omega, by omega⟩, u1, w1]
  by_cases r0 : r = 0
  · rw [if_pos r0]
    exact ⟨n, rfl, by omega, by omega, fun _ => rfl, fun h => absurd r0 h⟩
  · rw [if_neg r0]
    by_cases r1 : r = 1
    · rw [if_pos r1]
      exact ⟨u, rfl, u2, u3, fun h => absurd h r0, fun _ => u4⟩
    · rw [if_neg r1]
      by_cases r2 : r = 2
      · rw [if_pos r2]
        exact ⟨w, rfl, w2, w3, fun h => absurd h r0, fun _ => w4⟩
      · rw [if_neg r2, if_pos (by omega)]
        split
        · exact ⟨u, rfl, u2, u3, fun h => absurd h r0, fun _ => u4⟩
        · exact ⟨w, rfl, w2, w3, fun h => absurd h r0, fun _ => w4⟩
end Go.Proofs.YtogmeijmdbgmdaaDoor.IDue
