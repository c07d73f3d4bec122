/- The program's MulDiv: the exact fraction, rounded half to even; refused where it is beyond 64 bits. Plain Lean over the printed functions. -/
import Derived.Test.YtogmeijmdbgmdaaDoorVMDiv
import Derived.Test.YtogmeijmdbgmdaaDoorVPFx2
import Derived.Test.YtogmeijmdbgmdaaDoorVPFx1
namespace Go.Proofs.YtogmeijmdbgmdaaDoor.MMulD
open Go.RowKit Go.Proofs.YtogmeijmdbgmdaaDoor.PF Go.Proofs.YtogmeijmdbgmdaaDoorW.PrintWords Go.Proofs.YtogmeijmdbgmdaaDoorW.PrintLast Go.Proofs.YtogmeijmdbgmdaaDoorW.PrintMore Go.Proofs.YtogmeijmdbgmdaaDoor.MB Go.Proofs.YtogmeijmdbgmdaaDoor.MDiv
set_option linter.unusedVariables false
set_option linter.unusedSectionVars false
set_option linter.unusedSimpArgs false

/-- n over d, to the nearest whole number, a half to the even one. -/
def rnd (n d : Int) : Int := if n % d > d - n % d then n / d + 1 else if n % d = d - n % d then (if n / d % 2 = 1 then n / d + 1 else n / d) else n / d
def mdiv (a b c : Int) : Int × Bool := if c = 0 then (0, false) else
  fits (if ((decide (a < 0) != decide (b < 0)) != decide (c < 0)) = true then -rnd ((a.natAbs * b.natAbs : Nat) : Int) (c.natAbs : Int) else rnd ((a.natAbs * b.natAbs : Nat) : Int) (c.natAbs : Int))
theorem magnitude_eq (x : Int) (h : I64 x) : money_magnitude.f x = some (x.natAbs : Int) := by
  unfold I64 at h
  unfold money_magnitude.f
  simp only [u64e]
  by_cases c : x < 0
  · rw [if_pos c]
    congr 1
    omega
  · rw [if_neg c]
    congr 1
    omega
theorem withSign_eq (neg : Bool) (m : Int) (h0 : 0 ≤ m) (h1 : m ≤ 18446744073709551615) : money_withSign.f neg m = some (fits (if neg = true then -m else m)) := by
  unfold money_withSign.f
  cases neg with
  | true =>
    rw [if_pos rfl, if_pos rfl]
    by_cases c : m > 9223372036854775808
    · rw [if_pos c, fits_out (by unfold I64; omega)]
    · rw [if_neg c, fits_in (by unfold I64; omega), u64e]
      congr 2
      unfold wrap64
      omega
  | false =>
    rw [if_neg Bool.false_ne_true, if_neg Bool.false_ne_true]
    by_cases c : m > 9223372036854775807
    · rw [if_pos c, fits_out (by unfold I64; omega)]
    · rw [if_neg c, fits_in (by unfold I64; omega), w64 (by omega) (by omega)]
theorem prod_bd {a b : Int} (ha : I64 a) (hb : I64 b) : a.natAbs * b.natAbs ≤ 9223372036854775808 * 9223372036854775808 := by
  unfold I64 at ha hb
  exact Nat.mul_le_mul (by omega) (by omega)
theorem mul64_eq {a b : Int} (ha : I64 a) (hb : I64 b) : bits_Mul64.f (a.natAbs : Int) (b.natAbs : Int) = some (((a.natAbs * b.natAbs : Nat) : Int) / 18446744073709551616, ((a.natAbs * b.natAbs : Nat) : Int) % 18446744073709551616) := by
  unfold I64 at ha hb
  unfold bits_Mul64.f
  rw [if_pos ⟨by omega, by omega, by omega, by omega⟩]
  simp
theorem and_one (x : Int) (h0 : 0 ≤ x) (h1 : x ≤ 18446744073709551615) : Go.bits .and .u64 x 1 = x % 2 :=
  bits_mask .u64 64 (Nat.le_refl _) (fun n a b => by rw [u64e]; have : n < 18446744073709551616 := b; omega) 1 (by omega) x h0 (show x < 18446744073709551616 by omega)
theorem beyond {n d : Int} (hd : 0 < d) (h : n / 18446744073709551616 ≥ d) : 18446744073709551616 ≤ n / d := by
  refine Int.le_ediv_of_mul_le hd ?_
  omega
theorem within {n d : Int} (hn : 0 ≤ n) (hd : 0 < d) (h : n / 18446744073709551616 < d) : n / d ≤ 18446744073709551615 := by
  have : n / d < 18446744073709551616 := Int.ediv_lt_of_lt_mul hd (by omega)
  omega

theorem j1_true (k : Nat) (a b c q : Int) (q0 : 0 ≤ q) (q1 : q ≤ 18446744073709551615) : money_MulDiv.j1 (k + 1) a b c q true = some (fits (if ((decide (a < 0) != decide (b < 0)) != decide (c < 0)) = true then -(q + 1) else q + 1)) := by
  simp only [money_MulDiv.j1]
  rw [if_pos True.intro]
  by_cases z : q = 18446744073709551615
  · rw [if_pos (by rw [u64e]; omega), fits_out (by unfold I64; split <;> omega)]
  · rw [u64i (x := q + 1) (by omega) (by omega), if_neg (by omega), withSign_eq _ _ (by omega) (by omega)]
    rfl
theorem j1_false (k : Nat) (a b c q : Int) (q0 : 0 ≤ q) (q1 : q ≤ 18446744073709551615) : money_MulDiv.j1 (k + 1) a b c q false = some (fits (if ((decide (a < 0) != decide (b < 0)) != decide (c < 0)) = true then -q else q)) := by
  simp only [money_MulDiv.j1]
  rw [if_neg (by decide), withSign_eq _ _ (by omega) (by omega)]
  rfl
theorem muldiv_ev (a b c : Int) (ha : I64 a) (hb : I64 b) (hc : I64 c) : Ev (fun k => money_MulDiv.f k a b c) (mdiv a b c) := by
  have mp := prod_bd ha hb
  obtain ⟨n, hn⟩ : ∃ n : Int, n = ((a.natAbs * b.natAbs : Nat) : Int) := ⟨_, rfl⟩
  have m64 := mul64_eq ha hb
  unfold mdiv
  rw [← hn] at m64 ⊢
  have n0 : 0 ≤ n := by omega
  have n1 : n ≤ 9223372036854775808 * 9223372036854775808 := by omega
  obtain ⟨d, hd⟩ : ∃ d : Int, d = (c.natAbs : Int) := ⟨_, rfl⟩
  rw [← hd]
  have mc := magnitude_eq c hc
  rw [← hd] at mc
  unfold I64 at hc
  by_cases z : c = 0
  · rw [if_pos z]
    have z' : d = 0 := by omega
    refine ⟨2, fun k hk => ?_⟩
    obtain ⟨k, rfl⟩ : ∃ m, k = m + 2 := ⟨k - 2, by omega⟩
    simp only [money_MulDiv.f]
    rw [mc, magnitude_eq a ha, magnitude_eq b hb]
    simp only [Option.bind_some]
    rw [m64]
    simp only [Option.bind_some]
    rw [if_pos z']
    simp only [money_MulDiv.j0]
    rw [if_pos True.intro]
  · rw [if_neg z]
    have d0 : 0 < d := by omega
    have d1 : d ≤ 9223372036854775808 := by omega
    have q0 : 0 ≤ n / d := Int.ediv_nonneg n0 (by omega)
    have r0 := Int.emod_nonneg n (show d ≠ 0 by omega)
    have r1 := Int.emod_lt_of_pos n d0
    by_cases hi : n / 18446744073709551616 ≥ d
    · have hb' := beyond d0 hi
      have big : rnd n d ≥ 18446744073709551616 := by unfold rnd; repeat' split <;> omega
      refine ⟨2, fun k hk => ?_⟩
      obtain ⟨k, rfl⟩ : ∃ m, k = m + 2 := ⟨k - 2, by omega⟩
      simp only [money_MulDiv.f]
      rw [mc, magnitude_eq a ha, magnitude_eq b hb]
      simp only [Option.bind_some]
      rw [m64]
      simp only [Option.bind_some]
      rw [if_neg (by omega), decide_eq_true hi]
      simp only [money_MulDiv.j0]
      rw [if_pos True.intro, fits_out (by unfold I64; split <;> omega)]
    · have q1 := within n0 d0 (by omega)
      obtain ⟨K, h⟩ := Ev_out (div64_ev (n / 18446744073709551616) (n % 18446744073709551616) d (by omega) (by omega) (by omega) (by omega) (by omega))
      rw [show n / 18446744073709551616 * 18446744073709551616 + n % 18446744073709551616 = n by omega] at h
      refine ⟨K + 3, fun k hk => ?_⟩
      obtain ⟨k, rfl⟩ : ∃ m, k = m + 2 := ⟨k - 2, by omega⟩
      simp only [money_MulDiv.f]
      rw [mc, magnitude_eq a ha, magnitude_eq b hb]
      simp only [Option.bind_some]
      rw [m64]
      simp only [Option.bind_some]
      rw [if_neg (by omega), decide_eq_false hi]
      simp only [money_MulDiv.j0]
      rw [if_neg (by decide), h (k + 1) (by omega)]
      simp only [Option.bind_some]
      rw [u64i (x := d - n % d) (by omega) (by omega), and_one _ q0 q1]
      unfold rnd
      by_cases c1 : n % d > d - n % d
      · rw [if_pos c1, if_pos c1, j1_true k a b c _ q0 q1]
      · rw [if_neg c1, if_neg c1]
        by_cases c2 : n % d = d - n % d
        · rw [if_pos c2, if_pos c2]
          by_cases c3 : n / d % 2 = 1
          · rw [if_pos c3, beq_iff_eq.mpr c3, j1_true k a b c _ q0 q1]
          · rw [if_neg c3, beq_eq_false_iff_ne.mpr c3, j1_false k a b c _ q0 q1]
        · rw [if_neg c2, if_neg c2, j1_false k a b c _ q0 q1]

/-- The product out of its size and its sign. -/
theorem prod_pos {a b : Int} (h : a < 0 ↔ b < 0) : a * b = ((a.natAbs * b.natAbs : Nat) : Int) := by
  rw [← Int.natAbs_mul, Int.natAbs_of_nonneg]
  by_cases c : a < 0
  · exact Int.mul_nonneg_of_nonpos_of_nonpos (by omega) (by have := h.mp c; omega)
  · exact Int.mul_nonneg (by omega) (by have : ¬ b < 0 := fun z => c (h.mpr z); omega)
theorem prod_neg {a b : Int} (h : a < 0 ↔ ¬ b < 0) : a * b = -((a.natAbs * b.natAbs : Nat) : Int) := by
  have hp : a * b ≤ 0 := by
    by_cases c : a < 0
    · exact Int.mul_nonpos_of_nonpos_of_nonneg (by omega) (by have := h.mp c; omega)
    · have : b < 0 := by
        rcases Int.lt_or_le b 0 with z | z
        · exact z
        · exact absurd (h.mpr (by omega)) c
      exact Int.mul_nonpos_of_nonneg_of_nonpos (by omega) (by omega)
  rw [← Int.natAbs_mul]
  omega

end Go.Proofs.YtogmeijmdbgmdaaDoor.MMulD
