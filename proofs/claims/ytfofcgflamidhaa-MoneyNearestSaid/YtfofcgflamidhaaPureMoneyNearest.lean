/- MoneyNearest: at numbers up to 2^30 and a divisor that is not 0, MulDiv is not refused, no whole number is nearer to the fraction, and of two that are as near it is the even one. This text is the part over numbers alone. -/
import Derived.Test.YtfofcgflamidhaaMMul
import Derived.Test.YtfofcgflamidhaaPAllx5
namespace Go.Proofs.Ytfofcgflamidhaa.Pure
open Go.RowKit Go.Proofs.Ytfofcgflamidhaa.PAll Go.Proofs.YtfofcgflamidhaaW.PrintWords Go.Proofs.YtfofcgflamidhaaW.PrintLast Go.Proofs.Ytfofcgflamidhaa.MB Go.Proofs.Ytfofcgflamidhaa.MMul
set_option linter.unusedVariables false
set_option linter.unusedSectionVars false
set_option linter.unusedSimpArgs false

theorem small_eq (x : Int) : arrearslaw1_small.f x = some (decide (-1073741824 ≤ x ∧ x ≤ 1073741824)) := by
  unfold arrearslaw1_small.f
  by_cases c : x ≥ -1073741824
  · rw [if_pos c]
    congr 1
    by_cases c2 : x ≤ 1073741824
    · rw [decide_eq_true c2, decide_eq_true (by omega)]
    · rw [decide_eq_false c2, decide_eq_false (by omega)]
  · rw [if_neg c, decide_eq_false (by omega)]
theorem rnd_facts (n d : Int) (h0 : 0 ≤ n) (h1 : n ≤ 1152921504606846976) (hd : 0 < d) : 0 ≤ rnd n d ∧ rnd n d ≤ 1152921504606846976 ∧ n / d ≤ rnd n d ∧ rnd n d ≤ n / d + 1 ∧
    2 * (n - rnd n d * d) ≤ d ∧ -d ≤ 2 * (n - rnd n d * d) ∧ (2 * (n - rnd n d * d) = d ∨ 2 * (n - rnd n d * d) = -d → rnd n d % 2 = 0) := by
  have r0 := Int.emod_nonneg n (show d ≠ 0 by omega)
  have r1 := Int.emod_lt_of_pos n hd
  have e := Int.mul_ediv_add_emod n d
  rw [Int.mul_comm] at e
  have q0 : 0 ≤ n / d := Int.ediv_nonneg h0 (by omega)
  have big : rnd n d ≤ 1152921504606846976 := by
    by_cases d1 : d = 1
    · subst d1
      unfold rnd
      rw [if_neg (by omega), if_neg (by omega)]
      omega
    · have : n / d * 2 ≤ n / d * d := Int.mul_le_mul_of_nonneg_left (by omega) q0
      unfold rnd
      repeat' split
      all_goals omega
  unfold rnd at big ⊢
  by_cases c1 : n % d > d - n % d
  · rw [if_pos c1] at big ⊢
    rw [Int.add_mul]
    omega
  · rw [if_neg c1] at big ⊢
    by_cases c2 : n % d = d - n % d
    · rw [if_pos c2] at big ⊢
      by_cases c3 : n / d % 2 = 1
      · rw [if_pos c3] at big ⊢
        rw [Int.add_mul]
        omega
      · rw [if_neg c3] at big ⊢
        omega
    · rw [if_neg c2] at big ⊢
      omega
/-- The last part of the law: P over C (above 0), the answer Q. -/
theorem judge (k : Nat) (x b C Q : Int) (hC : 0 < C) (hC1 : C ≤ 1073741824) (hP : -1152921504606846976 ≤ x * b ∧ x * b ≤ 1152921504606846976) (e1 : 2 * (x * b - Q * C) ≤ C) (e2 : -C ≤ 2 * (x * b - Q * C))
    (e3 : 2 * (x * b - Q * C) = C ∨ 2 * (x * b - Q * C) = -C → Q % 2 = 0) (t1 : Q ≤ Int.tdiv (x * b) C + 1) (t2 : Int.tdiv (x * b) C - 1 ≤ Q) (t3 : -1152921504606846977 ≤ Int.tdiv (x * b) C) (t4 : Int.tdiv (x * b) C ≤ 1152921504606846977) :
    arrearslaw1_MoneyNearest.j2 (k + 2) x b C Q = some true := by
  have even : Q % 2 = 0 → (Int.tmod Q 2 == 0) = true := by
    intro h
    obtain ⟨z, rfl⟩ : ∃ z, Q = 2 * z := ⟨Q / 2, by omega⟩
    rw [Int.mul_tmod_right]
    rfl
  simp only [arrearslaw1_MoneyNearest.j2]
  rw [if_neg (by omega), w64 (x := x * b) (by omega) (by omega), w64 (x := Int.tdiv (x * b) C) (by omega) (by omega), w64 (x := Int.tdiv (x * b) C + 1) (by omega) (by omega), w64 (x := Int.tdiv (x * b) C - 1) (by omega) (by omega),
    if_neg (by omega), decide_eq_false (by omega)]
  simp only [arrearslaw1_MoneyNearest.j3]
  rw [if_neg (by decide), w64 (x := x * b) (by omega) (by omega), w64 (x := Q * C) (by omega) (by omega), w64 (x := x * b - Q * C) (by omega) (by omega), w64 (x := 2 * (x * b - Q * C)) (by omega) (by omega), w64 (x := -C) (by omega) (by omega)]
  by_cases c1 : 2 * (x * b - Q * C) = C
  · rw [if_pos c1, even (e3 (.inl c1))]
  · rw [if_neg c1]
    by_cases c2 : 2 * (x * b - Q * C) = -C
    · rw [if_pos c2, even (e3 (.inr c2))]
    · rw [if_neg c2, if_pos (by omega), decide_eq_true (by omega)]
theorem judge_pos (k : Nat) (x b C n : Int) (hC : 0 < C) (hC1 : C ≤ 1073741824) (n0 : 0 ≤ n) (n1 : n ≤ 1152921504606846976) (hP : x * b = n) : arrearslaw1_MoneyNearest.j2 (k + 2) x b C (rnd n C) = some true := by
  obtain ⟨a0, a1, a2, a3, a4, a5, a6⟩ := rnd_facts n C n0 n1 hC
  have q0 : 0 ≤ n / C := Int.ediv_nonneg n0 (by omega)
  have et : Int.tdiv (x * b) C = n / C := by rw [hP, Int.tdiv_eq_ediv_of_nonneg n0]
  exact judge k x b C _ hC hC1 (by omega) (by rw [hP]; exact a4) (by rw [hP]; exact a5) (by rw [hP]; exact a6) (by rw [et]; omega) (by rw [et]; omega) (by rw [et]; omega) (by rw [et]; omega)
theorem judge_neg (k : Nat) (x b C n : Int) (hC : 0 < C) (hC1 : C ≤ 1073741824) (n0 : 0 ≤ n) (n1 : n ≤ 1152921504606846976) (hP : x * b = -n) : arrearslaw1_MoneyNearest.j2 (k + 2) x b C (-rnd n C) = some true := by
  obtain ⟨a0, a1, a2, a3, a4, a5, a6⟩ := rnd_facts n C n0 n1 hC
  have q0 : 0 ≤ n / C := Int.ediv_nonneg n0 (by omega)
  have et : Int.tdiv (x * b) C = -(n / C) := by rw [hP, Int.neg_tdiv, Int.tdiv_eq_ediv_of_nonneg n0]
  have em : -rnd n C * C = -(rnd n C * C) := Int.neg_mul ..
  exact judge k x b C _ hC hC1 (by omega) (by rw [hP, em]; omega) (by rw [hP, em]; omega) (by rw [hP, em]; omega) (by rw [et]; omega) (by rw [et]; omega) (by rw [et]; omega) (by rw [et]; omega)
theorem MoneyNearest : arrearslaw1_MoneyNearest.Pure := by
  intro a b c ha hb hc
  have out : ∀ k, arrearslaw1_MoneyNearest.j0 (k + 1) a b c true = some true := fun k => by simp only [arrearslaw1_MoneyNearest.j0]; rw [if_pos True.intro]
  by_cases sm : (-1073741824 ≤ a ∧ a ≤ 1073741824) ∧ (-1073741824 ≤ b ∧ b ≤ 1073741824) ∧ (-1073741824 ≤ c ∧ c ≤ 1073741824) ∧ c ≠ 0
  · obtain ⟨sa, sb, sc, z⟩ := sm
    obtain ⟨K, h⟩ := Ev_out (muldiv_ev a b c (I64.of ha) (I64.of hb) (I64.of hc))
    have mp : a.natAbs * b.natAbs ≤ 1073741824 * 1073741824 := Nat.mul_le_mul (by omega) (by omega)
    have hpos := @prod_pos a b
    have hneg := @prod_neg a b
    obtain ⟨n, hn⟩ : ∃ n : Int, n = ((a.natAbs * b.natAbs : Nat) : Int) := ⟨_, rfl⟩
    rw [← hn] at hpos hneg
    have n0 : 0 ≤ n := by omega
    have n1 : n ≤ 1152921504606846976 := by omega
    have rf := rnd_facts n (c.natAbs : Int) n0 n1 (by omega)
    unfold mdiv at h
    rw [if_neg z, ← hn] at h
    refine ⟨K + 6, ?_⟩
    simp only [arrearslaw1_MoneyNearest.f]
    rw [small_eq a, small_eq b, small_eq c, decide_eq_true sa, decide_eq_true sb, decide_eq_true sc]
    simp only [Option.bind_some, if_true]
    rw [beq_eq_false_iff_ne.mpr z]
    simp only [arrearslaw1_MoneyNearest.j0]
    rw [if_neg (by decide), h (K + 5) (by omega)]
    simp only [Option.bind_some]
    have lastly : ∀ Q : Int, -1152921504606846976 ≤ Q → Q ≤ 1152921504606846976 → (c < 0 → arrearslaw1_MoneyNearest.j2 (K + 2 + 2) (-a) b (-c) Q = some true) → (¬ c < 0 → arrearslaw1_MoneyNearest.j2 (K + 2 + 2) a b c Q = some true) →
        (if (fits Q).2 = true then (if (fits Q).1 < -1152921504606846976 then arrearslaw1_MoneyNearest.j1 (K + 5) a b c (fits Q).1 true else arrearslaw1_MoneyNearest.j1 (K + 5) a b c (fits Q).1 (decide ((fits Q).1 > 1152921504606846976))) else arrearslaw1_MoneyNearest.j1 (K + 5) a b c (fits Q).1 true) = some true := by
      intro Q q0 q1 w1 w2
      rw [fits_in (by unfold I64; omega), if_pos rfl, if_neg (by omega), decide_eq_false (by omega)]
      simp only [arrearslaw1_MoneyNearest.j1]
      rw [if_neg (by decide)]
      by_cases g : c < 0
      · rw [if_pos g, w64 (by omega) (by omega), w64 (by omega) (by omega)]
        exact w1 g
      · rw [if_neg g]
        exact w2 g
    by_cases g : c < 0
    · have ec : (c.natAbs : Int) = -c := by omega
      rw [decide_eq_true g]
      by_cases s : (a < 0 ↔ b < 0)
      · rw [show (decide (a < 0) != decide (b < 0)) = false from by simp [s], if_pos (show (false != true) = true from rfl)]
        refine lastly _ (by omega) (by omega) (fun _ => ?_) (fun x => absurd g x)
        rw [ec]
        exact judge_neg _ _ _ _ n (by omega) (by omega) n0 n1 (by rw [Int.neg_mul, hpos s])
      · rw [show (decide (a < 0) != decide (b < 0)) = true from by rw [bne_iff_ne]; intro x; exact s (decide_eq_decide.mp x), if_neg (show ¬ (true != true) = true by decide)]
        refine lastly _ (by omega) (by omega) (fun _ => ?_) (fun x => absurd g x)
        rw [ec]
        exact judge_pos _ _ _ _ n (by omega) (by omega) n0 n1 (by rw [Int.neg_mul, hneg (by omega)]; omega)
    · have ec : (c.natAbs : Int) = c := by omega
      rw [decide_eq_false g]
      by_cases s : (a < 0 ↔ b < 0)
      · rw [show (decide (a < 0) != decide (b < 0)) = false from by simp [s], if_neg (show ¬ (false != false) = true by decide)]
        refine lastly _ (by omega) (by omega) (fun x => absurd x g) (fun _ => ?_)
        rw [ec]
        exact judge_pos _ _ _ _ n (by omega) (by omega) n0 n1 (hpos s)
      · rw [show (decide (a < 0) != decide (b < 0)) = true from by rw [bne_iff_ne]; intro x; exact s (decide_eq_decide.mp x), if_pos (show (true != false) = true from rfl)]
        refine lastly _ (by omega) (by omega) (fun x => absurd x g) (fun _ => ?_)
        rw [ec]
        exact judge_neg _ _ _ _ n (by omega) (by omega) n0 n1 (hneg (by omega))
  · refine ⟨1, ?_⟩
    simp only [arrearslaw1_MoneyNearest.f]
    rw [small_eq a, small_eq b, small_eq c]
    simp only [Option.bind_some]
    by_cases sa : -1073741824 ≤ a ∧ a ≤ 1073741824
    · rw [decide_eq_true sa, if_pos rfl]
      by_cases sb : -1073741824 ≤ b ∧ b ≤ 1073741824
      · rw [decide_eq_true sb, if_pos rfl]
        by_cases sc : -1073741824 ≤ c ∧ c ≤ 1073741824
        · have z : c = 0 := by omega
          rw [decide_eq_true sc, if_pos rfl, beq_iff_eq.mpr z]
          exact out 0
        · rw [decide_eq_false sc, if_neg (by decide)]
          exact out 0
      · rw [decide_eq_false sb, if_neg (by decide)]
        exact out 0
    · rw [decide_eq_false sa, if_neg (by decide)]
      exact out 0

end Go.Proofs.Ytfofcgflamidhaa.Pure
