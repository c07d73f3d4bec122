/- MoneyFloorRest: a times b is q times c plus r, with r from 0 to c - 1, wherever MulDivFloor takes the numbers; what it refuses answers zeros, and at a and b up to 2^30 and c above 0 it refuses nothing. This text is the part over numbers alone. -/
import Derived.Test.YtfofcgflamidhaaMMul
import Derived.Test.YtfofcgflamidhaaPAllx9
import Derived.Test.YtfofcgflamidhaaPAllx3
namespace Go.Proofs.Ytfofcgflamidhaa.Pure
open Go.RowKit Go.Proofs.Ytfofcgflamidhaa.PAll Go.Proofs.YtfofcgflamidhaaW.PrintWords Go.Proofs.YtfofcgflamidhaaW.PrintLast Go.Proofs.Ytfofcgflamidhaa.MB Go.Proofs.Ytfofcgflamidhaa.MMul
set_option linter.unusedVariables false
set_option linter.unusedSectionVars false
set_option linter.unusedSimpArgs false

theorem small_rest (x : Int) : arrearslaw1_small.f x = some (decide (-1073741824 ≤ x ∧ x ≤ 1073741824)) := by
  unfold arrearslaw1_small.f
  by_cases c : x ≥ -1073741824
  · rw [if_pos c]
    congr 1
    by_cases c2 : x ≤ 1073741824
    · rw [decide_eq_true c2, decide_eq_true (by omega)]
    · rw [decide_eq_false c2, decide_eq_false (by omega)]
  · rw [if_neg c, decide_eq_false (by omega)]
theorem tdiv_floor (P c : Int) (hc : 0 < c) : P / c ≤ Int.tdiv P c ∧ Int.tdiv P c ≤ P / c + 1 := by
  by_cases h : 0 ≤ P
  · rw [Int.tdiv_eq_ediv_of_nonneg h]
    omega
  · obtain ⟨n, rfl⟩ : ∃ n, P = -n := ⟨-P, by omega⟩
    rw [Int.neg_tdiv, Int.tdiv_eq_ediv_of_nonneg (by omega)]
    have := (neg_floor n c hc).1
    by_cases g : n % c > 0
    · rw [if_pos g] at this
      omega
    · rw [if_neg g] at this
      omega
theorem small_prod {a b : Int} (ha : -1073741824 ≤ a ∧ a ≤ 1073741824) (hb : -1073741824 ≤ b ∧ b ≤ 1073741824) : -1152921504606846976 ≤ a * b ∧ a * b ≤ 1152921504606846976 := by
  have mp : a.natAbs * b.natAbs ≤ 1073741824 * 1073741824 := Nat.mul_le_mul (by omega) (by omega)
  have := Int.natAbs_mul a b
  omega
theorem small_quot {P c : Int} (hP : -1152921504606846976 ≤ P ∧ P ≤ 1152921504606846976) (hc : 0 < c) : -1152921504606846976 ≤ P / c ∧ P / c ≤ 1152921504606846976 := by
  constructor
  · refine Int.le_ediv_of_mul_le hc ?_
    have : -1152921504606846976 * c ≤ -1152921504606846976 * 1 := Int.mul_le_mul_of_nonpos_left (by omega) (by omega)
    omega
  · have h1 : P / c < 1152921504606846977 := Int.ediv_lt_of_lt_mul hc (by omega)
    omega
theorem wrap_same (P q c r : Int) (h : P = q * c + r) : (wrap64 P == wrap64 (wrap64 (q * c) + r)) = true := by
  rw [beq_iff_eq]
  generalize q * c = X at h
  subst h
  unfold wrap64
  omega
theorem rest_way (k : Nat) (a b c : Int) (hc0 : 0 < c) (hc : c ≤ 9223372036854775807) : arrearslaw1_MoneyFloorRest.j0 (k + 1) a b c (a * b / c) (a * b % c) false = some true := by
  have e : a * b = a * b / c * c + a * b % c := by
    have := Int.mul_ediv_add_emod (a * b) c
    rw [Int.mul_comm] at this
    omega
  have plain : (some (wrap64 (a * b) == wrap64 (wrap64 (a * b / c * c) + a * b % c)) : Option Bool) = some true := by rw [wrap_same _ _ _ _ e]
  simp only [arrearslaw1_MoneyFloorRest.j0]
  rw [if_neg (by decide), small_rest a, small_rest b, small_rest c]
  simp only [Option.bind_some]
  by_cases sa : -1073741824 ≤ a ∧ a ≤ 1073741824
  · rw [decide_eq_true sa, if_pos rfl]
    by_cases sb : -1073741824 ≤ b ∧ b ≤ 1073741824
    · rw [decide_eq_true sb, if_pos rfl]
      by_cases sc : -1073741824 ≤ c ∧ c ≤ 1073741824
      · have sp := small_prod sa sb
        have sq := small_quot sp hc0
        have tf := tdiv_floor (a * b) c hc0
        rw [decide_eq_true sc, if_pos rfl, if_pos (by omega), if_pos (by omega), if_neg (by omega)]
        rw [show Int.tdiv (wrap64 (a * b)) c = Int.tdiv (a * b) c by rw [w64 (by omega) (by omega)], w64 (x := Int.tdiv (a * b) c) (by omega) (by omega), w64 (x := Int.tdiv (a * b) c - 1) (by omega) (by omega), if_pos (by omega), if_pos (by omega), plain]
      · rw [decide_eq_false sc, if_neg (by decide), plain]
    · rw [decide_eq_false sb, if_neg (by decide), plain]
  · rw [decide_eq_false sa, if_neg (by decide), plain]
theorem MoneyFloorRest : arrearslaw1_MoneyFloorRest.Pure := by
  intro a b c ha hb hc
  obtain ⟨K, h⟩ := Ev_out (floor_ev a b c (I64.of ha) (I64.of hb) (I64.of hc))
  replace hc := I64.of hc
  unfold I64 at hc
  refine ⟨K + 1, ?_⟩
  simp only [arrearslaw1_MoneyFloorRest.f]
  rw [h _ (by omega)]
  unfold mfloor
  simp only [Option.bind_some]
  by_cases z : c ≤ 0
  · rw [if_pos z]
    simp only [Bool.false_eq_true, if_false]
    rw [if_neg (by omega)]
    simp
  · rw [if_neg z]
    have r0 := Int.emod_nonneg (a * b) (show c ≠ 0 by omega)
    have r1 := Int.emod_lt_of_pos (a * b) (show 0 < c by omega)
    by_cases f : -9223372036854775808 ≤ a * b / c ∧ a * b / c ≤ 9223372036854775807
    · rw [if_pos f]
      simp only [if_true]
      rw [if_neg z, if_neg (by omega), decide_eq_false (by omega)]
      exact rest_way K a b c (by omega) (by omega)
    · rw [if_neg f]
      simp only [Bool.false_eq_true, if_false]
      rw [if_pos (by omega), small_rest a, small_rest b]
      simp only [Option.bind_some]
      by_cases sa : -1073741824 ≤ a ∧ a ≤ 1073741824
      · rw [decide_eq_true sa, if_pos rfl]
        by_cases sb : -1073741824 ≤ b ∧ b ≤ 1073741824
        · exact absurd (small_quot (small_prod sa sb) (show 0 < c by omega)) (by omega)
        · rw [decide_eq_false sb, if_neg (by decide)]
          rfl
      · rw [decide_eq_false sa, if_neg (by decide)]
        rfl

end Go.Proofs.Ytfofcgflamidhaa.Pure
