/- The document's MulDiv and MulDivFloor answer the same exact numbers as the program's are shown to. Plain Lean over the printed functions. -/
import Derived.Test.YtfofcgflamidhaaDoorZXMRef
import Derived.Test.YtfofcgflamidhaaDoorZXMMul
import Derived.Test.YtfofcgflamidhaaDoorZPXx5
import Derived.Test.YtfofcgflamidhaaDoorZPXx6
namespace Go.Proofs.YtfofcgflamidhaaDoor.XMRef2
open Go.RowKit Go.Proofs.YtfofcgflamidhaaDoor.PX Go.Proofs.YtfofcgflamidhaaDoorW.PrintWords Go.Proofs.YtfofcgflamidhaaDoorW.PrintLast Go.Proofs.YtfofcgflamidhaaDoorW.PrintMore Go.Proofs.YtfofcgflamidhaaDoor.XMB Go.Proofs.YtfofcgflamidhaaDoor.XMRef Go.Proofs.YtfofcgflamidhaaDoor.XMMul
set_option linter.unusedVariables false
set_option linter.unusedSectionVars false
set_option linter.unusedSimpArgs false

theorem nat_div (x y : Nat) : (x : Int) / (y : Int) = ((x / y : Nat) : Int) := rfl
theorem nat_mod (x y : Nat) : (x : Int) % (y : Int) = ((x % y : Nat) : Int) := rfl

theorem ref_muldiv_ev (a b c : Int) (ha : I64 a) (hb : I64 b) (hc : I64 c) : Ev (fun k => arrearsref1_MulDiv.f k a b c) (mdiv a b c) := by
  have mp := prod_bd ha hb
  unfold mdiv
  by_cases z : c = 0
  · refine Ev_eq (fun k => ?_)
    simp only [arrearsref1_MulDiv.f]
    rw [if_pos z, if_pos z]
  · rw [if_neg z]
    have sa := size_eq a ha
    have sb := size_eq b hb
    have sc := size_eq c hc
    unfold I64 at ha hb hc
    obtain ⟨A, hA⟩ : ∃ A, A = a.natAbs := ⟨_, rfl⟩
    obtain ⟨B, hB⟩ : ∃ B, B = b.natAbs := ⟨_, rfl⟩
    obtain ⟨D, hD⟩ : ∃ D, D = c.natAbs := ⟨_, rfl⟩
    rw [← hA] at sa mp ⊢
    rw [← hB] at sb mp ⊢
    rw [← hD] at sc ⊢
    have D0 : 0 < D := by omega
    have D1 : D ≤ 9223372036854775808 := by omega
    obtain ⟨n, hn⟩ : ∃ n, n = A * B := ⟨_, rfl⟩
    obtain ⟨K1, h1⟩ := Ev_out (digits_ev A (by omega))
    obtain ⟨K2, h2⟩ := Ev_out (digits_ev B (by omega))
    obtain ⟨K3, h3⟩ := Ev_out (times_ev A B (by omega) (by omega))
    rw [← hn] at h3 mp ⊢
    have n1 : n < 2 ^ 128 := by omega
    have q1 : n / D ≤ n := Nat.div_le_self _ _
    have r1 : n % D < D := Nat.mod_lt _ D0
    obtain ⟨K4, h4⟩ := Ev_out (over_ev n D D0 D1 n1)
    obtain ⟨neg, hneg⟩ : ∃ s, s = ((decide (a < 0) != decide (b < 0)) != decide (c < 0)) := ⟨_, rfl⟩
    rw [← hneg]
    obtain ⟨K5, h5⟩ := Ev_out (more_ev (n / D))
    obtain ⟨K6, h6⟩ := Ev_out (signed_ev neg (n / D) (by omega))
    obtain ⟨K7, h7⟩ := Ev_out (signed_ev neg (n / D + 1) (by omega))
    refine ⟨K1 + K2 + K3 + K4 + K5 + K6 + K7 + 1, fun k hk => ?_⟩
    obtain ⟨k, rfl⟩ : ∃ m, k = m + 1 := ⟨k - 1, by omega⟩
    have up : arrearsref1_MulDiv.j0 (k + 1) a b c (bitsOf 128 (n / D)) true = some (fits (if neg = true then -((n / D : Nat) + 1 : Int) else ((n / D : Nat) : Int) + 1)) := by
      simp only [arrearsref1_MulDiv.j0]
      rw [if_pos True.intro, h5 k (by omega), ← hneg]
      simp only [Option.bind_some]
      rw [h7 k (by omega)]
      simp
    have stay : arrearsref1_MulDiv.j0 (k + 1) a b c (bitsOf 128 (n / D)) false = some (fits (if neg = true then -((n / D : Nat) : Int) else ((n / D : Nat) : Int))) := by
      simp only [arrearsref1_MulDiv.j0]
      rw [if_neg (by decide), ← hneg, h6 k (by omega)]
      simp
    simp only [arrearsref1_MulDiv.f]
    rw [if_neg z, sc, sa, sb]
    simp only [Option.bind_some]
    rw [h1 (k + 1) (by omega), h2 (k + 1) (by omega)]
    simp only [Option.bind_some]
    rw [h3 (k + 1) (by omega)]
    simp only [Option.bind_some]
    rw [h4 (k + 1) (by omega)]
    simp only [Option.bind_some]
    rw [u64i (x := (D : Int) - ((n % D : Nat) : Int)) (by omega) (by omega)]
    unfold rnd
    rw [nat_div, nat_mod]
    by_cases c1 : ((n % D : Nat) : Int) > (D : Int) - ((n % D : Nat) : Int)
    · rw [if_pos c1, if_pos c1, up]
    · rw [if_neg c1, if_neg c1]
      by_cases c2 : ((n % D : Nat) : Int) = (D : Int) - ((n % D : Nat) : Int)
      · have e0 : rd (bitsOf 128 (n / D)) 0 = ((n / D % 2 : Nat) : Int) := by
          have := bitsOf_getD 128 (n / D) 0 (by omega)
          rw [Nat.pow_zero, Nat.div_one] at this
          exact this
        rw [if_pos c2, if_pos c2, if_pos (by rw [bitsOf_length]; omega), e0]
        by_cases c3 : ((n / D : Nat) : Int) % 2 = 1
        · rw [if_pos c3, show ((((n / D % 2 : Nat) : Int) == 1) = true) from by rw [beq_iff_eq]; omega, up]
        · rw [if_neg c3, show ((((n / D % 2 : Nat) : Int) == 1) = false) from by rw [beq_eq_false_iff_ne]; omega, stay]
      · rw [if_neg c2, if_neg c2, stay]

theorem signed_neg (v : Nat) (hv : v < 2 ^ 128) : Ev (fun k => arrearsref1_signed.f k true (bitsOf 128 v)) (fits (-(v : Int))) := by
  have h := signed_ev true v hv
  rw [if_pos rfl] at h
  exact h
theorem signed_pos (v : Nat) (hv : v < 2 ^ 128) : Ev (fun k => arrearsref1_signed.f k false (bitsOf 128 v)) (fits (v : Int)) := by
  have h := signed_ev false v hv
  rw [if_neg Bool.false_ne_true] at h
  exact h
def inr (v r : Int) : Int × Int × Bool := if -9223372036854775808 ≤ v ∧ v ≤ 9223372036854775807 then (v, r, true) else (0, 0, false)
theorem end_eq (g : Option (Int × Bool)) (v r : Int) (h : g = some (fits v)) : (g.bind fun bt => (if bt.2 = true then (some (bt.1, r, true)) else (some ((0 : Int), (0 : Int), false)))) = some (inr v r) := by
  rw [h, Option.bind_some, fin_eq]
  rfl
theorem neg_end (k : Nat) (q : Nat) (D r v R : Int) (K5 K6 K7 : Nat) (h5 : ∀ k, K5 ≤ k → arrearsref1_more.f k (bitsOf 128 q) = some (bitsOf 128 (q + 1)))
    (h6 : ∀ k, K6 ≤ k → arrearsref1_signed.f k true (bitsOf 128 q) = some (fits (-(q : Int)))) (h7 : ∀ k, K7 ≤ k → arrearsref1_signed.f k true (bitsOf 128 (q + 1)) = some (fits (-((q : Int) + 1))))
    (k5 : K5 ≤ k) (k6 : K6 ≤ k) (k7 : K7 ≤ k) (hv : v = if r > 0 then -((q : Int) + 1) else -(q : Int)) (hR : R = if r > 0 then D - r else r) (d0 : r ≤ D) (d1 : D ≤ 9223372036854775807) (r0 : 0 ≤ r) :
    (if r > 0 then ((arrearsref1_more.f k (bitsOf 128 q)).bind fun t => ((arrearsref1_signed.f k true t).bind fun bt => (if bt.2 = true then (some (bt.1, wrap64 (IntKind.u64.wrap (D - r)), true)) else (some (0, 0, false))))) else ((arrearsref1_signed.f k true (bitsOf 128 q)).bind fun bt => (if bt.2 = true then (some (bt.1, wrap64 r, true)) else (some ((0 : Int), (0 : Int), false))))) = some (inr v R) := by
  by_cases g : r > 0
  · rw [if_pos g] at hv hR ⊢
    rw [h5 k k5, Option.bind_some, u64i (by omega) (by omega), w64 (by omega) (by omega), hv, hR]
    exact end_eq _ _ _ (h7 k k7)
  · rw [if_neg g] at hv hR ⊢
    rw [w64 (by omega) (by omega), hv, hR]
    exact end_eq _ _ _ (h6 k k6)
theorem ref_floor_ev (a b c : Int) (ha : I64 a) (hb : I64 b) (hc : I64 c) : Ev (fun k => arrearsref1_MulDivFloor.f k a b c) (mfloor a b c) := by
  by_cases z : c ≤ 0
  · refine Ev_eq (fun k => ?_)
    unfold mfloor
    simp only [arrearsref1_MulDivFloor.f]
    rw [if_pos z, if_pos z]
  · have hm : mfloor a b c = inr (a * b / c) (a * b % c) := by unfold mfloor inr; rw [if_neg z]
    rw [hm]
    have mp := prod_bd ha hb
    have sa := size_eq a ha
    have sb := size_eq b hb
    have sc := size_eq c hc
    have hpos := @prod_pos a b
    have hneg := @prod_neg a b
    unfold I64 at ha hb hc
    obtain ⟨A, hA⟩ : ∃ A, A = a.natAbs := ⟨_, rfl⟩
    obtain ⟨B, hB⟩ : ∃ B, B = b.natAbs := ⟨_, rfl⟩
    obtain ⟨D, hD⟩ : ∃ D, D = c.natAbs := ⟨_, rfl⟩
    rw [← hA] at sa
    rw [← hB] at sb
    rw [← hD] at sc
    rw [← hA, ← hB] at hpos hneg mp
    have hDc : c = (D : Int) := by omega
    have D0 : 0 < D := by omega
    have D1 : D ≤ 9223372036854775807 := by omega
    obtain ⟨n, hn⟩ : ∃ n, n = A * B := ⟨_, rfl⟩
    obtain ⟨K1, h1⟩ := Ev_out (digits_ev A (by omega))
    obtain ⟨K2, h2⟩ := Ev_out (digits_ev B (by omega))
    obtain ⟨K3, h3⟩ := Ev_out (times_ev A B (by omega) (by omega))
    rw [← hn] at h3 mp hpos hneg
    have n1 : n < 2 ^ 128 := by omega
    have q1 : n / D ≤ n := Nat.div_le_self _ _
    have r1 : n % D < D := Nat.mod_lt _ D0
    obtain ⟨K4, h4⟩ := Ev_out (over_ev n D D0 (by omega) n1)
    obtain ⟨K5, h5⟩ := Ev_out (more_ev (n / D))
    obtain ⟨K6, h6⟩ := Ev_out (signed_neg (n / D) (by omega))
    obtain ⟨K7, h7⟩ := Ev_out (signed_neg (n / D + 1) (by omega))
    obtain ⟨K8, h8⟩ := Ev_out (signed_pos (n / D) (by omega))
    rw [Int.natCast_succ] at h7
    obtain ⟨nf1, nf2⟩ := neg_floor (n : Int) (D : Int) (by omega)
    rw [nat_mod, nat_div] at nf1
    rw [nat_mod] at nf2
    obtain ⟨q, hq⟩ : ∃ q, q = n / D := ⟨_, rfl⟩
    obtain ⟨r, hr⟩ : ∃ q, q = n % D := ⟨_, rfl⟩
    have np : ∀ (_ : a < 0 ↔ b < 0), a * b / c = (q : Int) ∧ a * b % c = (r : Int) := fun s => by rw [hpos s, hDc, nat_div, nat_mod, hq, hr]; exact ⟨rfl, rfl⟩
    have nn : ∀ (_ : a < 0 ↔ ¬ b < 0), (a * b / c = if (r : Int) > 0 then -((q : Int) + 1) else -(q : Int)) ∧ (a * b % c = if (r : Int) > 0 then (D : Int) - (r : Int) else (r : Int)) := fun s => by rw [hneg s, hDc, nf1, nf2, hq, hr]; exact ⟨rfl, rfl⟩
    rw [← hq] at h4 h5 h6 h7 h8
    rw [← hr] at h4 r1
    clear nf1 nf2 hpos hneg
    have d0 : (r : Int) ≤ (D : Int) := by omega
    have d1 : (D : Int) ≤ 9223372036854775807 := by omega
    refine ⟨K1 + K2 + K3 + K4 + K5 + K6 + K7 + K8, fun k hk => ?_⟩
    have l5 : K5 ≤ k := by omega
    have l6 : K6 ≤ k := by omega
    have l7 : K7 ≤ k := by omega
    have l8 : K8 ≤ k := by omega
    simp only [arrearsref1_MulDivFloor.f]
    rw [if_neg z, sc, sa, sb]
    simp only [Option.bind_some]
    rw [h1 k (by omega), h2 k (by omega)]
    simp only [Option.bind_some]
    rw [h3 k (by omega)]
    simp only [Option.bind_some]
    rw [h4 k (by omega), Option.bind_some]
    have pos_way : ∀ (_ : a < 0 ↔ b < 0), ((arrearsref1_signed.f k false (bitsOf 128 q)).bind fun bt => (if bt.2 = true then (some (bt.1, wrap64 (r : Int), true)) else (some ((0 : Int), (0 : Int), false)))) = some (inr (a * b / c) (a * b % c)) := by
      intro s
      rw [(np s).1, (np s).2, w64 (x := (r : Int)) (by omega) (by omega)]
      exact end_eq _ _ _ (h8 k l8)
    by_cases s : (a < 0 ↔ b < 0)
    · rw [show (decide (a < 0) != decide (b < 0)) = false from by simp [s], if_neg Bool.false_ne_true]
      exact pos_way s
    · rw [show (decide (a < 0) != decide (b < 0)) = true from by rw [bne_iff_ne]; intro x; exact s (decide_eq_decide.mp x), if_pos rfl]
      exact neg_end k q D r _ _ K5 K6 K7 h5 h6 h7 l5 l6 l7 (nn (by omega)).1 (nn (by omega)).2 d0 d1 (Int.natCast_nonneg _)

end Go.Proofs.YtfofcgflamidhaaDoor.XMRef2
