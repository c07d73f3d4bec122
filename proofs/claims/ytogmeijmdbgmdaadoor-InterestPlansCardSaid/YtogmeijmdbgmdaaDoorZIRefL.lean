/- The document's Level finds the least payment, too. Plain Lean over the printed functions. -/
import Derived.Test.YtogmeijmdbgmdaaDoorZILevel
import Derived.Test.YtogmeijmdbgmdaaDoorZPAx11
namespace Go.Proofs.YtogmeijmdbgmdaaDoor.IRefL
open Go.RowKit Go.Proofs.YtogmeijmdbgmdaaDoor.PA Go.Proofs.YtogmeijmdbgmdaaDoorW.PrintWords Go.Proofs.YtogmeijmdbgmdaaDoorW.PrintLast Go.Proofs.YtogmeijmdbgmdaaDoorW.PrintMore Go.Proofs.YtogmeijmdbgmdaaDoor.MB Go.Proofs.YtogmeijmdbgmdaaDoor.MMulD Go.Proofs.YtogmeijmdbgmdaaDoor.IMonth Go.Proofs.YtogmeijmdbgmdaaDoor.ILevel
set_option linter.unusedVariables false
set_option linter.unusedSectionVars false
set_option linter.unusedSimpArgs false

theorem refRate_eq (x : Int) : arrearsref3_isRate.f x = some (decide (0 ≤ x ∧ x ≤ 100000)) := by
  unfold arrearsref3_isRate.f
  by_cases c : x ≥ 0
  · rw [if_pos c]
    congr 1
    by_cases c2 : x ≤ 100000
    · rw [decide_eq_true c2, decide_eq_true (by omega)]
    · rw [decide_eq_false c2, decide_eq_false (by omega)]
  · rw [if_neg c, decide_eq_false (by omega)]
theorem refmonth_eq (b r : Int) (hb0 : 0 ≤ b) (hb : b ≤ 9223372036854775807) (hr : 0 ≤ r) (hr1 : r ≤ 100000) : arrearsref3_month.f b r = some (month b r) := by
  have mb := month_bd b r hb0 hr hr1
  obtain ⟨p0, p1⟩ := prod_le b r hb0 hr hr1
  obtain ⟨w, hw⟩ : ∃ w, w = b / 120000 := ⟨_, rfl⟩
  obtain ⟨m, hm⟩ : ∃ m, m = b % 120000 := ⟨_, rfl⟩
  have A := mul_bd (show 0 ≤ m by omega) (show m ≤ 119999 by omega) hr hr1
  have E := mul_bd (show 0 ≤ w by omega) (show w ≤ 76861433640457 by omega) hr hr1
  have id : b * r = w * r * 120000 + m * r := by
    have eb : b = w * 120000 + m := by omega
    rw [eb, Int.add_mul, Int.mul_right_comm]
  unfold arrearsref3_month.f
  rw [Int.tdiv_eq_ediv_of_nonneg hb0, Int.tmod_eq_emod_of_nonneg hb0, ← hw, ← hm, w64 (x := w) (by omega) (by omega), w64 (x := w * r) (by omega) (by omega), w64 (x := m * r) (by omega) (by omega), Int.tdiv_eq_ediv_of_nonneg A.1, Int.tmod_eq_emod_of_nonneg A.1]
  unfold month rnd at mb ⊢
  rw [id] at mb ⊢
  generalize m * r = M at A mb ⊢
  generalize w * r = Z at E mb ⊢
  rw [w64 (x := M / 120000) (by omega) (by omega), w64 (x := 2 * (M % 120000)) (by omega) (by omega), w64 (x := Z + M / 120000) (by omega) (by omega), w64 (x := Z + M / 120000 + 1) (by omega) (by omega), Int.tmod_eq_emod_of_nonneg (a := Z + M / 120000) (by omega)]
  have e1 : (Z * 120000 + M) / 120000 = Z + M / 120000 := by omega
  have e2 : (Z * 120000 + M) % 120000 = M % 120000 := by omega
  rw [e1, e2]
  by_cases c1 : 2 * (M % 120000) > 120000
  · rw [if_pos c1, if_pos (show M % 120000 > 120000 - M % 120000 by omega)]
  · rw [if_neg c1, if_neg (show ¬ M % 120000 > 120000 - M % 120000 by omega)]
    by_cases c2 : 2 * (M % 120000) = 120000
    · rw [if_pos c2, if_pos (show M % 120000 = 120000 - M % 120000 by omega)]
      by_cases c3 : (Z + M / 120000) % 2 = 1
      · rw [if_pos c3, if_pos c3]
      · rw [if_neg c3, if_neg c3]
    · rw [if_neg c2, if_neg (show ¬ M % 120000 = 120000 - M % 120000 by omega)]
section
variable (r : Int) (hr : 0 ≤ r) (hr1 : r ≤ 100000)
include hr hr1
theorem off_loop (P n : Int) (hP : I64 P) (hn : n ≤ 9223372036854775807) : ∀ (d : Nat) (i b : Int), 0 ≤ i → i + (d : Int) = n → 0 ≤ b → b ≤ 9223372036854775807 → Ev (fun k => arrearsref3_PaysOff.l0 k P b r n i) (pay P r d b) := by
  unfold I64 at hP
  intro d
  induction d with
  | zero =>
    intro i b hi0 hi hb0 hb
    refine Ev_one (fun k => ?_)
    simp only [arrearsref3_PaysOff.l0]
    rw [if_neg (by omega)]
    rfl
  | succ d ih =>
    intro i b hi0 hi hb0 hb
    have mb := month_bd b r hb0 hr hr1
    have h := refmonth_eq b r hb0 hb hr hr1
    unfold pay
    by_cases c1 : P ≤ month b r
    · rw [if_pos c1]
      refine Ev_one (fun k => ?_)
      simp only [arrearsref3_PaysOff.l0]
      rw [if_pos (by omega), h, Option.bind_some, if_pos c1]
    · rw [if_neg c1]
      by_cases c2 : b ≤ P - month b r
      · rw [if_pos c2]
        refine Ev_one (fun k => ?_)
        simp only [arrearsref3_PaysOff.l0]
        rw [if_pos (by omega), h, Option.bind_some, if_neg c1, w64 (by omega) (by omega), if_pos c2]
      · rw [if_neg c2]
        refine Ev.step (fun k => ?_) (ih (i + 1) (b - (P - month b r)) (by omega) (by omega) (by omega) (by omega))
        simp only [arrearsref3_PaysOff.l0]
        rw [if_pos (by omega), h, Option.bind_some, if_neg c1, w64 (x := P - month b r) (by omega) (by omega), if_neg (by omega), w64 (x := b - _) (by omega) (by omega), w64 (x := i + 1) (by omega) (by omega)]
theorem off_ev (P b : Int) (n : Nat) (hP : I64 P) (hn : n ≤ 120) (hb0 : 0 ≤ b) (hb : b ≤ 9223372036854775807) : Ev (fun k => arrearsref3_PaysOff.f k P b r (n : Int)) (pay P r n b) :=
  off_loop r hr hr1 P n hP (by omega) n 0 b (by omega) (by omega) hb0 hb
end
section
variable (b r : Int) (n : Nat) (hr : 0 ≤ r) (hr1 : r ≤ 100000) (hb0 : 0 ≤ b) (hb : b ≤ 9223372036854775807) (hn : n ≤ 120)
include hr hr1 hb0 hb hn
theorem halves : ∀ (e : Nat), e ≤ 62 → ∀ (p : Int), 1 ≤ p → p ≤ 9223372036854775807 → pay p r n b = true → (∀ P, 1 ≤ P → P ≤ p - 2 * 2 ^ e → pay P r n b = false) →
    ∃ q, Ev (fun k => arrearsref3_Level.l0 k b r (n : Int) p (2 ^ e)) (q, true) ∧ Least r n b q := by
  have key : ∀ (S p : Int) (T : Int), 1 ≤ S → S ≤ 4611686018427387904 → T = S / 2 → 1 ≤ p → p ≤ 9223372036854775807 → pay p r n b = true → (∀ P, 1 ≤ P → P ≤ p - 2 * S → pay P r n b = false) →
      (∀ p', 1 ≤ p' → p' ≤ 9223372036854775807 → pay p' r n b = true → (∀ P, 1 ≤ P → P ≤ p' - S → pay P r n b = false) → ∃ q, Ev (fun k => arrearsref3_Level.l0 k b r (n : Int) p' T) (q, true) ∧ Least r n b q) →
      ∃ q, Ev (fun k => arrearsref3_Level.l0 k b r (n : Int) p S) (q, true) ∧ Least r n b q := by
    intro S p T hS hS1 hT h1 h2 h3 h4 next
    have et : wrap64 (Int.tdiv S 2) = T := by rw [Int.tdiv_eq_ediv_of_nonneg (by omega), w64 (by omega) (by omega), hT]
    by_cases c : p > S
    · obtain ⟨K, h⟩ := Ev_out (off_ev r hr hr1 (p - S) b n (by unfold I64; omega) hn hb0 hb)
      have ew : wrap64 (p - S) = p - S := w64 (by omega) (by omega)
      by_cases g : pay (p - S) r n b = true
      · obtain ⟨q, hq, hl⟩ := next (p - S) (by omega) (by omega) g (fun P p1 p2 => h4 P p1 (by omega))
        obtain ⟨K2, h2'⟩ := Ev_out hq
        refine ⟨q, ⟨K + K2 + 1, fun k hk => ?_⟩, hl⟩
        obtain ⟨k, rfl⟩ : ∃ m, k = m + 1 := ⟨k - 1, by omega⟩
        simp only [arrearsref3_Level.l0]
        rw [if_pos (by omega), if_pos c, ew, h k (by omega), Option.bind_some, if_pos g, et]
        exact h2' k (by omega)
      · obtain ⟨q, hq, hl⟩ := next p h1 h2 h3 (fun P p1 p2 => by
          rcases Bool.eq_false_or_eq_true (pay P r n b) with z | z
          · exact absurd (pay_mono r hr hr1 n P (p - S) b b (by omega) (Int.le_refl _) z) g
          · exact z)
        obtain ⟨K2, h2'⟩ := Ev_out hq
        refine ⟨q, ⟨K + K2 + 1, fun k hk => ?_⟩, hl⟩
        obtain ⟨k, rfl⟩ : ∃ m, k = m + 1 := ⟨k - 1, by omega⟩
        simp only [arrearsref3_Level.l0]
        rw [if_pos (by omega), if_pos c, ew, h k (by omega), Option.bind_some, if_neg g, et]
        exact h2' k (by omega)
    · obtain ⟨q, hq, hl⟩ := next p h1 h2 h3 (fun P p1 p2 => by omega)
      refine ⟨q, Ev.step (fun k => ?_) hq, hl⟩
      simp only [arrearsref3_Level.l0]
      rw [if_pos (by omega), if_neg c, et]
  intro e
  induction e with
  | zero =>
    intro _ p h1 h2 h3 h4
    refine key 1 p 0 (by omega) (by omega) (by omega) h1 h2 h3 h4 (fun p' a1 a2 a3 a4 => ?_)
    refine ⟨p', Ev_one (fun k => ?_), a1, a2, a3, fun P p1 p2 => a4 P p1 (by omega)⟩
    simp only [arrearsref3_Level.l0]
    rw [if_neg (by omega)]
  | succ e ih =>
    intro he p h1 h2 h3 h4
    have ep : (2 : Int) ^ (e + 1) = 2 * 2 ^ e := by rw [Int.pow_succ, Int.mul_comm]
    have lo : (1 : Int) ≤ 2 ^ e := by have : (0 : Int) < 2 ^ e := Int.pow_pos (by decide); omega
    have hi : (2 : Int) ^ e ≤ 2305843009213693952 := by
      have h : 2 ^ e ≤ 2 ^ 61 := Nat.pow_le_pow_right (by decide) (show e ≤ 61 by omega)
      have h' : ((2 ^ e : Nat) : Int) ≤ ((2 ^ 61 : Nat) : Int) := Int.ofNat_le.mpr h
      simpa using h'
    have nx := ih (by omega)
    rw [ep] at h4 ⊢
    generalize (2 : Int) ^ e = S at lo hi h4 nx ⊢
    exact key (2 * S) p S (by omega) (by omega) (by omega) h1 h2 h3 h4 nx
theorem ref_yes (h1 : 1 ≤ b) (h2 : 1 ≤ n) (hG : pay 9223372036854775807 r n b = true) : ∃ q, Ev (fun k => arrearsref3_Level.f k b r (n : Int)) (q, true) ∧ Least r n b q := by
  obtain ⟨q, hq, hl⟩ := halves b r n hr hr1 hb0 hb hn 62 (by omega) 9223372036854775807 (by omega) (by omega) hG (fun P p1 p2 => by omega)
  rw [show (2 : Int) ^ 62 = 4611686018427387904 from rfl] at hq
  obtain ⟨K, h⟩ := Ev_out (off_ev r hr hr1 9223372036854775807 b n (by unfold I64; omega) hn hb0 hb)
  obtain ⟨K2, h2'⟩ := Ev_out hq
  refine ⟨q, ⟨K + K2 + 1, fun k hk => ?_⟩, hl⟩
  obtain ⟨k, rfl⟩ : ∃ m, k = m + 1 := ⟨k - 1, by omega⟩
  simp only [arrearsref3_Level.f]
  rw [if_neg (by omega), refRate_eq, decide_eq_true ⟨hr, hr1⟩, Option.bind_some, if_pos rfl, if_neg (by omega), decide_eq_false (by omega)]
  simp only [arrearsref3_Level.j0]
  rw [if_neg (by decide), h k (by omega), hG, Option.bind_some, if_pos rfl]
  exact h2' k (by omega)
theorem ref_no (h1 : 1 ≤ b) (h2 : 1 ≤ n) (hG : pay 9223372036854775807 r n b = false) : Ev (fun k => arrearsref3_Level.f k b r (n : Int)) (0, false) := by
  obtain ⟨K, h⟩ := Ev_out (off_ev r hr hr1 9223372036854775807 b n (by unfold I64; omega) hn hb0 hb)
  refine ⟨K + 1, fun k hk => ?_⟩
  obtain ⟨k, rfl⟩ : ∃ m, k = m + 1 := ⟨k - 1, by omega⟩
  simp only [arrearsref3_Level.f]
  rw [if_neg (by omega), refRate_eq, decide_eq_true ⟨hr, hr1⟩, Option.bind_some, if_pos rfl, if_neg (by omega), decide_eq_false (by omega)]
  simp only [arrearsref3_Level.j0]
  rw [if_neg (by decide), h k (by omega), hG, Option.bind_some, if_neg Bool.false_ne_true]
end
theorem ref_bad (b r c : Int) (h : ¬ (1 ≤ b ∧ (0 ≤ r ∧ r ≤ 100000) ∧ 1 ≤ c ∧ c ≤ 120)) : Ev (fun k => arrearsref3_Level.f k b r c) (0, false) := by
  have no : Ev (fun k => arrearsref3_Level.j0 k b r c true) ((0 : Int), false) := Ev_one (fun k => by simp only [arrearsref3_Level.j0]; rw [if_pos True.intro])
  refine Ev.congr (f := fun k => arrearsref3_Level.j0 k b r c true) (fun k => ?_) no
  simp only [arrearsref3_Level.f]
  by_cases c1 : b < 1
  · rw [if_pos c1]
  · rw [if_neg c1, refRate_eq]
    by_cases c2 : 0 ≤ r ∧ r ≤ 100000
    · rw [decide_eq_true c2, Option.bind_some, if_pos rfl]
      by_cases c3 : c < 1
      · rw [if_pos c3]
      · rw [if_neg c3, decide_eq_true (by omega)]
    · rw [decide_eq_false c2, Option.bind_some, if_neg Bool.false_ne_true]

end Go.Proofs.YtogmeijmdbgmdaaDoor.IRefL
