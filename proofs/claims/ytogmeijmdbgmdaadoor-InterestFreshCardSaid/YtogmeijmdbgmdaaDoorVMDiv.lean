/- The library's 128-by-64-bit division is exact: quotient and rest (Knuth's algorithm D, two digits in base 2^32). Plain Lean over the printed function. -/
import Derived.Test.YtogmeijmdbgmdaaDoorVMB
import Derived.Lib.ItoaNum
import Derived.Test.YtogmeijmdbgmdaaDoorVPFx1
namespace Go.Proofs.YtogmeijmdbgmdaaDoor.MDiv
open Go.RowKit Go.Proofs.YtogmeijmdbgmdaaDoor.PF Go.Proofs.YtogmeijmdbgmdaaDoorW.PrintWords Go.Proofs.YtogmeijmdbgmdaaDoorW.PrintLast Go.Proofs.YtogmeijmdbgmdaaDoorW.PrintMore Go.Proofs.YtogmeijmdbgmdaaDoor.MB
set_option linter.unusedVariables false
set_option linter.unusedSectionVars false
set_option linter.unusedSimpArgs false

/-- What a digit's estimate is held against. -/
theorem digit_facts (y yn1 yn0 u un1 q1 rhat : Int) (hy : y = yn1 * 4294967296 + yn0) (a0 : 2147483648 ≤ yn1) (b0 : 0 ≤ yn0) (b1 : yn0 < 4294967296)
    (u0 : 0 ≤ u) (u1 : u < y) (c0 : 0 ≤ un1) (c1 : un1 < 4294967296) (hu : u = q1 * yn1 + rhat) (r0 : 0 ≤ rhat) (r1 : rhat < 4294967296) (hq : q1 ≤ 4294967297) :
    0 ≤ (u * 4294967296 + un1) / y ∧ (u * 4294967296 + un1) / y < 4294967296 ∧
    (q1 = (u * 4294967296 + un1) / y → IntKind.u64.wrap (q1 * yn0) ≤ IntKind.u64.wrap (IntKind.u64.wrap (4294967296 * rhat) + un1)) ∧
    ((u * 4294967296 + un1) / y < q1 → q1 < 4294967296 → IntKind.u64.wrap (q1 * yn0) > IntKind.u64.wrap (IntKind.u64.wrap (4294967296 * rhat) + un1)) ∧
    ((u * 4294967296 + un1) / y < q1 → 4294967296 ≤ rhat + yn1 → q1 - 1 = (u * 4294967296 + un1) / y) := by
  have hyp : 0 < y := by omega
  have hq0 : 0 ≤ (u * 4294967296 + un1) / y := Int.ediv_nonneg (by omega) (by omega)
  have hq1 : (u * 4294967296 + un1) / y < 4294967296 := Int.ediv_lt_of_lt_mul hyp (by omega)
  have m1 : (u * 4294967296 + un1) / y * y ≤ u * 4294967296 + un1 := Int.ediv_mul_le _ (by omega)
  have m2 : u * 4294967296 + un1 < ((u * 4294967296 + un1) / y + 1) * y := Int.lt_ediv_add_one_mul_self _ hyp
  have id : q1 * y = (u - rhat) * 4294967296 + q1 * yn0 := by rw [hy, Int.mul_add, ← Int.mul_assoc, show q1 * yn1 = u - rhat by omega]
  have up : q1 * yn0 ≤ 4294967297 * yn0 := Int.mul_le_mul_of_nonneg_right hq b0
  refine ⟨hq0, hq1, ?_, ?_, ?_⟩
  · intro e
    have p0 : 0 ≤ q1 * yn0 := Int.mul_nonneg (by omega) b0
    have p1 : q1 * yn0 ≤ 4294967295 * yn0 := Int.mul_le_mul_of_nonneg_right (by omega) b0
    rw [← e] at m1
    rw [u64i p0 (by omega), u64i (x := 4294967296 * rhat) (by omega) (by omega), u64i (by omega) (by omega)]
    omega
  · intro e e2
    have p0 : 0 ≤ q1 * yn0 := Int.mul_nonneg (by omega) b0
    have p1 : q1 * yn0 ≤ 4294967295 * yn0 := Int.mul_le_mul_of_nonneg_right (by omega) b0
    have p2 : ((u * 4294967296 + un1) / y + 1) * y ≤ q1 * y := Int.mul_le_mul_of_nonneg_right (by omega) (by omega)
    rw [u64i p0 (by omega), u64i (x := 4294967296 * rhat) (by omega) (by omega), u64i (by omega) (by omega)]
    omega
  · intro e e2
    have h : q1 - 1 ≤ (u * 4294967296 + un1) / y := by
      refine Int.le_ediv_of_mul_le hyp ?_
      rw [Int.sub_mul, id]
      omega
    omega

section
variable (y s yn1 yn0 u un1 un0 : Int) (hy : y = yn1 * 4294967296 + yn0) (a0 : 2147483648 ≤ yn1) (a1 : yn1 < 4294967296) (b0 : 0 ≤ yn0) (b1 : yn0 < 4294967296)
  (u0 : 0 ≤ u) (u1 : u < y) (c0 : 0 ≤ un1) (c1 : un1 < 4294967296)
include hy a0 a1 b0 b1 u0 u1 c0 c1
theorem first_loop (r : Int × Int) (hr : Ev (fun k => bits_Div64.j2 k y s yn1 yn0 u un1 un0 ((u * 4294967296 + un1) / y)) r) : ∀ (e : Nat) (q1 rhat : Int), (q1 - (u * 4294967296 + un1) / y).toNat = e →
    (u * 4294967296 + un1) / y ≤ q1 → u = q1 * yn1 + rhat → 0 ≤ rhat → rhat < 4294967296 → q1 ≤ 4294967297 → Ev (fun k => bits_Div64.l0 k y s yn1 yn0 u un1 un0 q1 rhat) r := by
  intro e
  induction e with
  | zero =>
    intro q1 rhat he hle hu r0 r1 hq
    obtain ⟨f0, f1, f2, f3, f4⟩ := digit_facts y yn1 yn0 u un1 q1 rhat hy a0 b0 b1 u0 u1 c0 c1 hu r0 r1 hq
    have e0 : q1 = (u * 4294967296 + un1) / y := by omega
    refine Ev.step (f := fun k => bits_Div64.j1 k y s yn1 yn0 u un1 un0 q1 rhat false) (fun k => ?_) (Ev.step (fun k => ?_) hr)
    · simp only [bits_Div64.l0]
      rw [if_neg (by omega), decide_eq_false (by have := f2 e0; omega)]
    · simp only [bits_Div64.j1]
      rw [if_neg (by decide), ← e0]
  | succ e ih =>
    intro q1 rhat he hle hu r0 r1 hq
    obtain ⟨f0, f1, f2, f3, f4⟩ := digit_facts y yn1 yn0 u un1 q1 rhat hy a0 b0 b1 u0 u1 c0 c1 hu r0 r1 hq
    have lt : (u * 4294967296 + un1) / y < q1 := by omega
    refine Ev.step (f := fun k => bits_Div64.j1 k y s yn1 yn0 u un1 un0 q1 rhat true) (fun k => ?_) ?_
    · simp only [bits_Div64.l0]
      by_cases c : q1 ≥ 4294967296
      · rw [if_pos c]
      · rw [if_neg c, decide_eq_true (f3 lt (by omega))]
    · by_cases c : 4294967296 ≤ rhat + yn1
      · refine Ev.step (fun k => ?_) hr
        simp only [bits_Div64.j1]
        rw [if_pos True.intro, u64i (x := rhat + yn1) (by omega) (by omega), if_pos c, u64i (by omega) (by omega), f4 lt c]
      · refine Ev.step (fun k => ?_) (ih (q1 - 1) (rhat + yn1) (by omega) (by omega) (by rw [Int.sub_mul]; omega) (by omega) (by omega) (by omega))
        simp only [bits_Div64.j1]
        rw [if_pos True.intro, u64i (x := rhat + yn1) (by omega) (by omega), if_neg c, u64i (by omega) (by omega)]
end

section
variable (y s yn1 yn0 u un1 q : Int) (hs : 0 ≤ s) (hy : y = yn1 * 4294967296 + yn0) (a0 : 2147483648 ≤ yn1) (a1 : yn1 < 4294967296) (b0 : 0 ≤ yn0) (b1 : yn0 < 4294967296)
  (u0 : 0 ≤ u) (u1 : u < y) (c0 : 0 ≤ un1) (c1 : un1 < 4294967296)
include hs hy a0 a1 b0 b1 u0 u1 c0 c1
theorem second_loop (r : Int × Int) (hr : r = (IntKind.u64.wrap (IntKind.u64.wrap (q * 4294967296) + (u * 4294967296 + un1) / y), shr .u64 (IntKind.u64.wrap (IntKind.u64.wrap (IntKind.u64.wrap (u * 4294967296) + un1) - IntKind.u64.wrap ((u * 4294967296 + un1) / y * y))) s)) : ∀ (e : Nat) (q1 rhat : Int), (q1 - (u * 4294967296 + un1) / y).toNat = e →
    (u * 4294967296 + un1) / y ≤ q1 → u = q1 * yn1 + rhat → 0 ≤ rhat → rhat < 4294967296 → q1 ≤ 4294967297 → Ev (fun k => bits_Div64.l1 k y s yn1 yn0 un1 q rhat u q1) r := by
  intro e
  induction e with
  | zero =>
    intro q1 rhat he hle hu r0 r1 hq
    obtain ⟨f0, f1, f2, f3, f4⟩ := digit_facts y yn1 yn0 u un1 q1 rhat hy a0 b0 b1 u0 u1 c0 c1 hu r0 r1 hq
    have e0 : q1 = (u * 4294967296 + un1) / y := by omega
    refine Ev.step (f := fun k => bits_Div64.j4 k y s yn1 yn0 un1 q rhat u q1 false) (fun k => ?_) (Ev_one (fun k => ?_))
    · simp only [bits_Div64.l1]
      rw [if_neg (by omega), decide_eq_false (by have := f2 e0; omega)]
    · simp only [bits_Div64.j4]
      rw [if_neg (by decide), if_pos hs, hr, ← e0]
  | succ e ih =>
    intro q1 rhat he hle hu r0 r1 hq
    obtain ⟨f0, f1, f2, f3, f4⟩ := digit_facts y yn1 yn0 u un1 q1 rhat hy a0 b0 b1 u0 u1 c0 c1 hu r0 r1 hq
    have lt : (u * 4294967296 + un1) / y < q1 := by omega
    refine Ev.step (f := fun k => bits_Div64.j4 k y s yn1 yn0 un1 q rhat u q1 true) (fun k => ?_) ?_
    · simp only [bits_Div64.l1]
      by_cases c : q1 ≥ 4294967296
      · rw [if_pos c]
      · rw [if_neg c, decide_eq_true (f3 lt (by omega))]
    · by_cases c : 4294967296 ≤ rhat + yn1
      · refine Ev_one (fun k => ?_)
        simp only [bits_Div64.j4]
        rw [if_pos True.intro, u64i (x := rhat + yn1) (by omega) (by omega), if_pos c, if_pos hs, u64i (x := q1 - 1) (by omega) (by omega), f4 lt c, hr]
      · refine Ev.step (fun k => ?_) (ih (q1 - 1) (rhat + yn1) (by omega) (by omega) (by rw [Int.sub_mul]; omega) (by omega) (by omega) (by omega))
        simp only [bits_Div64.j4]
        rw [if_pos True.intro, u64i (x := rhat + yn1) (by omega) (by omega), if_neg c, u64i (by omega) (by omega)]
end

/-- The first guess of a digit is not below it, and at most two above 2^32 - 1. -/
theorem guess (y yn1 yn0 u un1 : Int) (hy : y = yn1 * 4294967296 + yn0) (a0 : 2147483648 ≤ yn1) (b0 : 0 ≤ yn0) (b1 : yn0 < 4294967296)
    (u0 : 0 ≤ u) (u1 : u < y) (c1 : un1 < 4294967296) :
    (u * 4294967296 + un1) / y ≤ u / yn1 ∧ u / yn1 ≤ 4294967297 ∧ 0 ≤ u / yn1 ∧ u / yn1 * yn1 ≤ u ∧ u - u / yn1 * yn1 < yn1 := by
  have hyp : 0 < y := by omega
  have m1 : u / yn1 * yn1 ≤ u := Int.ediv_mul_le _ (by omega)
  have m2 : u < (u / yn1 + 1) * yn1 := Int.lt_ediv_add_one_mul_self _ (by omega)
  have g0 : 0 ≤ u / yn1 := Int.ediv_nonneg u0 (by omega)
  have g1 : u / yn1 < 4294967298 := Int.ediv_lt_of_lt_mul (by omega) (by omega)
  refine ⟨?_, by omega, g0, m1, by rw [Int.add_mul] at m2; omega⟩
  have : (u * 4294967296 + un1) / y < u / yn1 + 1 := by
    refine Int.ediv_lt_of_lt_mul hyp ?_
    have z : 0 ≤ (u / yn1 + 1) * yn0 := Int.mul_nonneg (by omega) b0
    rw [hy, Int.mul_add, ← Int.mul_assoc]
    omega
  omega
/-- What is left of a digit's step, cut to 64 bits, is the rest itself. -/
theorem rest_u64 (y u un1 : Int) (hyp : 0 < y) (hy1 : y ≤ 18446744073709551615) :
    IntKind.u64.wrap (IntKind.u64.wrap (IntKind.u64.wrap (u * 4294967296) + un1) - IntKind.u64.wrap ((u * 4294967296 + un1) / y * y)) = (u * 4294967296 + un1) % y := by
  have m1 := Int.emod_nonneg (u * 4294967296 + un1) (show y ≠ 0 by omega)
  have m2 := Int.emod_lt_of_pos (u * 4294967296 + un1) hyp
  have m3 := Int.mul_ediv_add_emod (u * 4294967296 + un1) y
  rw [Int.mul_comm] at m3
  generalize (u * 4294967296 + un1) / y * y = P at m3 ⊢
  generalize (u * 4294967296 + un1) % y = R at m1 m2 m3 ⊢
  simp only [u64e]
  omega

theorem norm (d : Int) (h0 : 0 < d) (h1 : d ≤ 18446744073709551615) : ∃ s : Nat, s ≤ 63 ∧ 64 - (Lib.bitLen d.toNat : Int) = (s : Int) ∧ 9223372036854775808 ≤ d * 2 ^ s ∧ d * 2 ^ s ≤ 18446744073709551615 := by
  obtain ⟨x, rfl⟩ := Int.eq_ofNat_of_zero_le (show 0 ≤ d by omega)
  rw [Int.toNat_natCast]
  have hx : x < 2 ^ 64 := by omega
  obtain ⟨b0, b1, b2⟩ := Lib.bitLenAux_bounds 64 x hx (by omega)
  have b3 := Lib.bitLen_le x 64 (by omega) hx
  have e : Lib.bitLenAux 64 x = Lib.bitLen x := rfl
  rw [e] at b0 b1 b2
  generalize Lib.bitLen x = n at b0 b1 b2 b3
  refine ⟨64 - n, by omega, by omega, ?_, ?_⟩
  · have h : 2 ^ (n - 1) * 2 ^ (64 - n) ≤ x * 2 ^ (64 - n) := Nat.mul_le_mul_right _ b1
    rw [← Nat.pow_add, show n - 1 + (64 - n) = 63 by omega] at h
    have : ((2 ^ 63 : Nat) : Int) ≤ ((x * 2 ^ (64 - n) : Nat) : Int) := Int.ofNat_le.mpr h
    simpa using this
  · have h : x * 2 ^ (64 - n) < 2 ^ n * 2 ^ (64 - n) := Nat.mul_lt_mul_of_pos_right b2 (Nat.two_pow_pos _)
    rw [← Nat.pow_add, show n + (64 - n) = 64 by omega] at h
    have : ((x * 2 ^ (64 - n) : Nat) : Int) < ((2 ^ 64 : Nat) : Int) := Int.ofNat_lt.mpr h
    have e2 : ((x * 2 ^ (64 - n) : Nat) : Int) = (x : Int) * 2 ^ (64 - n) := by simp
    rw [e2] at this
    have e3 : ((2 ^ 64 : Nat) : Int) = 18446744073709551616 := rfl
    omega
theorem shl_nat (x : Int) (s : Nat) (h : s ≤ 64) : shl .u64 x (s : Int) = x * 2 ^ s % 18446744073709551616 := by
  unfold shl
  rw [u64e, show min ((s : Int).toNat) (IntKind.bits .u64) = s from Nat.min_eq_left h]
theorem shr_nat (x : Int) (s : Nat) (h : s ≤ 64) : shr .u64 x (s : Int) = x / 2 ^ s := by
  unfold shr
  rw [show min ((s : Int).toNat) (IntKind.bits .u64) = s from Nat.min_eq_left h]
theorem and32 (x : Int) (h0 : 0 ≤ x) (h1 : x ≤ 18446744073709551615) : Go.bits .and .u64 x 4294967295 = x % 4294967296 :=
  bits_mask .u64 64 (Nat.le_refl _) (fun n a b => by rw [u64e]; have : n < 18446744073709551616 := b; omega) 32 (by omega) x h0 (show x < 18446744073709551616 by omega)
theorem or_join (x z : Int) (i : Nat) (hx0 : 0 ≤ x) (hx : x % 2 ^ i = 0) (hx1 : x ≤ 18446744073709551615) (hz0 : 0 ≤ z) (hz : z < 2 ^ i) (hz1 : z ≤ 18446744073709551615) : Go.bits .or .u64 x z = x + z :=
  bits_join .u64 64 (Nat.le_refl _) (fun n a b => by rw [u64e]; have : n < 18446744073709551616 := b; omega) i x z hx0 hx (show x < 18446744073709551616 by omega) hz0 hz (show z < 18446744073709551616 by omega)

theorem div64_ev (hi lo d : Int) (h0 : 0 ≤ hi) (h1 : hi < d) (hd : d ≤ 18446744073709551615) (l0 : 0 ≤ lo) (l1 : lo ≤ 18446744073709551615) :
    Ev (fun k => bits_Div64.f k hi lo d) ((hi * 18446744073709551616 + lo) / d, (hi * 18446744073709551616 + lo) % d) := by
  by_cases z : hi = 0
  · subst z
    refine Ev_eq (fun k => ?_)
    simp only [bits_Div64.f]
    have g0 := Int.ediv_nonneg l0 (show 0 ≤ d by omega)
    have g1 : lo / d ≤ lo := Int.ediv_le_self _ l0
    rw [if_neg (by omega), if_neg (by omega), if_pos True.intro, Int.tdiv_eq_ediv_of_nonneg l0, Int.tmod_eq_emod_of_nonneg l0, u64i g0 (by omega)]
    simp
  · obtain ⟨s, s1, s2, s3, s4⟩ := norm d (by omega) hd
    have lz : bits_LeadingZeros64.f d = some (s : Int) := by
      unfold bits_LeadingZeros64.f
      rw [if_pos ⟨by omega, hd⟩, s2]
    have ws : IntKind.u64.wrap (s : Int) = (s : Int) := u64i (by omega) (by omega)
    have ws' : IntKind.u64.wrap (64 - (s : Int)) = ((64 - s : Nat) : Int) := by rw [u64i (by omega) (by omega)]; omega
    -- the powers
    obtain ⟨p, hp⟩ : ∃ p : Int, p = 2 ^ s := ⟨_, rfl⟩
    obtain ⟨p', hp'⟩ : ∃ p : Int, p = 2 ^ (64 - s) := ⟨_, rfl⟩
    have pp : p * p' = 18446744073709551616 := by
      rw [hp, hp', ← Int.pow_add, show s + (64 - s) = 64 by omega]
      rfl
    have p0 : 0 < p := by rw [hp]; exact Int.pow_pos (by decide)
    have p'0 : 0 < p' := by rw [hp']; exact Int.pow_pos (by decide)
    rw [← hp] at s3 s4
    -- the numbers, shifted
    have hi1 : (hi + 1) * p ≤ d * p := Int.mul_le_mul_of_nonneg_right (by omega) (by omega)
    have hip : 0 ≤ hi * p := Int.mul_nonneg h0 (by omega)
    rw [Int.add_mul] at hi1
    have lo0 : 0 ≤ lo / p' := Int.ediv_nonneg l0 (by omega)
    have lo1 : lo / p' < p := Int.ediv_lt_of_lt_mul p'0 (by rw [pp]; omega)
    have r0 : 0 ≤ lo % p' := Int.emod_nonneg _ (by omega)
    have r1 : lo % p' < p' := Int.emod_lt_of_pos _ p'0
    have r2 : 0 ≤ (lo % p') * p := Int.mul_nonneg r0 (by omega)
    have r3 : (lo % p' + 1) * p ≤ p' * p := Int.mul_le_mul_of_nonneg_right (by omega) (by omega)
    rw [Int.mul_comm p' p, pp, Int.add_mul] at r3
    have lp : lo * p = lo / p' * 18446744073709551616 + (lo % p') * p := by
      have := Int.mul_ediv_add_emod lo p'
      calc lo * p = (p' * (lo / p') + lo % p') * p := by rw [this]
        _ = lo / p' * (p * p') + (lo % p') * p := by rw [Int.add_mul, Int.mul_comm p' (lo / p'), Int.mul_assoc, Int.mul_comm p' p]
        _ = _ := by rw [pp]
    have ed : shl .u64 d (s : Int) = d * p := by rw [shl_nat d s (by omega), ← hp]; omega
    have eh : shl .u64 hi (s : Int) = hi * p := by rw [shl_nat hi s (by omega), ← hp]; omega
    have el : shl .u64 lo (s : Int) = (lo % p') * p := by rw [shl_nat lo s (by omega), ← hp, lp]; omega
    have er : shr .u64 lo ((64 - s : Nat) : Int) = lo / p' := by rw [shr_nat lo (64 - s) (by omega), ← hp']
    have eo : Go.bits .or .u64 (hi * p) (lo / p') = hi * p + lo / p' := by
      refine or_join _ _ s hip ?_ (by omega) lo0 (by rw [← hp]; omega) (by omega)
      rw [← hp, Int.mul_emod_left]
    obtain ⟨y, hy⟩ : ∃ y, y = d * p := ⟨_, rfl⟩
    obtain ⟨u, hu⟩ : ∃ u, u = hi * p + lo / p' := ⟨_, rfl⟩
    obtain ⟨v, hv⟩ : ∃ v, v = (lo % p') * p := ⟨_, rfl⟩
    rw [← hy] at s3 s4 hi1 ed
    rw [← hu] at eo
    rw [← hv] at r2 r3 el lp
    have total : u * 18446744073709551616 + v = (hi * 18446744073709551616 + lo) * p := by
      rw [hu, Int.add_mul, Int.add_mul, lp, Int.mul_right_comm]
      omega
    have ea : Go.bits .and .u64 y 4294967295 = y % 4294967296 := and32 y (by omega) (by omega)
    have ev : Go.bits .and .u64 v 4294967295 = v % 4294967296 := and32 v (by omega) (by omega)
    have hu0 : 0 ≤ u := by omega
    have hu1 : u < y := by omega
    -- the two digits
    have hyy : y = y / 4294967296 * 4294967296 + y % 4294967296 := by omega
    obtain ⟨g1, g2, g3, g4, g5⟩ := guess y (y / 4294967296) (y % 4294967296) u (v / 4294967296) hyy (by omega) (by omega) (by omega) hu0 hu1 (by omega)
    have R0 := Int.emod_nonneg (u * 4294967296 + v / 4294967296) (show y ≠ 0 by omega)
    have R1 := Int.emod_lt_of_pos (u * 4294967296 + v / 4294967296) (show 0 < y by omega)
    obtain ⟨w, hw⟩ : ∃ w, w = (u * 4294967296 + v / 4294967296) % y := ⟨_, rfl⟩
    rw [← hw] at R0 R1
    obtain ⟨k1, k2, k3, k4, k5⟩ := guess y (y / 4294967296) (y % 4294967296) w (v % 4294967296) hyy (by omega) (by omega) (by omega) R0 R1 (by omega)
    obtain ⟨f0, f1, _⟩ := digit_facts y (y / 4294967296) (y % 4294967296) u (v / 4294967296) _ (u - u / (y / 4294967296) * (y / 4294967296)) hyy (by omega) (by omega) (by omega) hu0 hu1 (by omega) (by omega) (by omega) (by omega) (by omega) g2
    obtain ⟨n0, n1, _⟩ := digit_facts y (y / 4294967296) (y % 4294967296) w (v % 4294967296) _ (w - w / (y / 4294967296) * (y / 4294967296)) hyy (by omega) (by omega) (by omega) R0 R1 (by omega) (by omega) (by omega) (by omega) (by omega) k2
    have D1 := Int.mul_ediv_add_emod (u * 4294967296 + v / 4294967296) y
    have D2 := Int.mul_ediv_add_emod (w * 4294967296 + v % 4294967296) y
    rw [← hw] at D1
    have E0 := Int.emod_nonneg (w * 4294967296 + v % 4294967296) (show y ≠ 0 by omega)
    have E1 := Int.emod_lt_of_pos (w * 4294967296 + v % 4294967296) (show 0 < y by omega)
    obtain ⟨Q1, hQ1⟩ : ∃ q, q = (u * 4294967296 + v / 4294967296) / y := ⟨_, rfl⟩
    obtain ⟨Q2, hQ2⟩ : ∃ q, q = (w * 4294967296 + v % 4294967296) / y := ⟨_, rfl⟩
    obtain ⟨R, hR⟩ : ∃ q, q = (w * 4294967296 + v % 4294967296) % y := ⟨_, rfl⟩
    rw [← hQ1] at D1 f0 f1
    rw [← hQ2, ← hR] at D2
    rw [← hQ2] at n0 n1
    rw [← hR] at E0 E1
    have dec : (hi * 18446744073709551616 + lo) * p = (Q1 * 4294967296 + Q2) * y + R := by
      rw [← total, Int.add_mul, Int.mul_right_comm, Int.mul_comm Q1 y, Int.mul_comm Q2 y]
      omega
    have dec2 : R = (hi * 18446744073709551616 + lo - (Q1 * 4294967296 + Q2) * d) * p := by
      rw [Int.sub_mul, dec, hy, Int.mul_assoc]
      omega
    obtain ⟨X, hX⟩ : ∃ x, x = hi * 18446744073709551616 + lo - (Q1 * 4294967296 + Q2) * d := ⟨_, rfl⟩
    rw [← hX] at dec2
    have X0 : 0 ≤ X := by
      rcases Int.lt_or_le X 0 with h | h
      · have : X * p ≤ -1 * p := Int.mul_le_mul_of_nonneg_right (by omega) (by omega)
        omega
      · exact h
    have X1 : X < d := by
      rcases Int.lt_or_le X d with h | h
      · exact h
      · have : d * p ≤ X * p := Int.mul_le_mul_of_nonneg_right h (by omega)
        omega
    obtain ⟨q1, q2⟩ := (Int.ediv_emod_unique (a := hi * 18446744073709551616 + lo) (q := Q1 * 4294967296 + Q2) (r := X) (show 0 < d by omega)).mpr ⟨by rw [hX, Int.mul_comm d]; omega, X0, X1⟩
    have RX : R / p = X := by rw [dec2]; exact Int.mul_ediv_cancel _ (by omega)
    rw [q1, q2]
    refine Ev.congr (g := fun k => bits_Div64.f k hi lo d) (f := fun k => bits_Div64.l0 k y (s : Int) (y / 4294967296) (y % 4294967296) u (v / 4294967296) (v % 4294967296) (u / (y / 4294967296)) (u - u / (y / 4294967296) * (y / 4294967296))) (fun k => ?_) ?_
    · simp only [bits_Div64.f]
      rw [if_neg (by omega), if_neg (by omega), if_neg z, lz]
      simp only [Option.bind_some]
      rw [ws, ws', if_pos (by omega), if_pos (by omega), ed, eh, el, er, eo, ea, ev, if_neg (by omega), Int.tdiv_eq_ediv_of_nonneg hu0, u64i (x := u / (y / 4294967296)) g3 (by omega),
        u64i (x := u / (y / 4294967296) * (y / 4294967296)) (Int.mul_nonneg g3 (by omega)) (by omega), u64i (by omega) (by omega)]
    · refine first_loop y s (y / 4294967296) (y % 4294967296) u (v / 4294967296) (v % 4294967296) hyy (by omega) (by omega) (by omega) (by omega) hu0 hu1 (by omega) (by omega) _ ?_ _ _ _ rfl g1 (by omega) (by omega) (by omega) g2
      refine Ev.step (f := fun k => bits_Div64.l1 k y (s : Int) (y / 4294967296) (y % 4294967296) (v % 4294967296) Q1 (w - w / (y / 4294967296) * (y / 4294967296)) w (w / (y / 4294967296))) (fun k => ?_) ?_
      · simp only [bits_Div64.j2]
        rw [if_neg (by omega), rest_u64 y u _ (by omega) (by omega), ← hw, Int.tdiv_eq_ediv_of_nonneg R0, u64i (x := w / (y / 4294967296)) k3 (by omega),
          u64i (x := w / (y / 4294967296) * (y / 4294967296)) (Int.mul_nonneg k3 (by omega)) (by omega), u64i (x := w - _) (by omega) (by omega), ← hQ1]
      · refine second_loop y s (y / 4294967296) (y % 4294967296) w (v % 4294967296) Q1 (by omega) hyy (by omega) (by omega) (by omega) (by omega) R0 R1 (by omega) (by omega) _ ?_ _ _ _ rfl k1 (by omega) (by omega) (by omega) k2
        rw [rest_u64 y w _ (by omega) (by omega), ← hQ2, ← hR, shr_nat R s (by omega), ← hp, RX, u64i (x := Q1 * 4294967296) (by omega) (by omega), u64i (by omega) (by omega)]

end Go.Proofs.YtogmeijmdbgmdaaDoor.MDiv
