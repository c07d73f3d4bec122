/- Add, Sub, Mul and Clamp by the program and by the document; MulDiv, Bps and MulDivFloor as parts of a script. Plain Lean over the printed functions. -/
import Derived.Test.YtfofcgflamidhaaDoorZXMRef2
import Derived.Test.YtfofcgflamidhaaDoorZXMSum
import Derived.Test.YtfofcgflamidhaaDoorZPXx1
import Derived.Test.YtfofcgflamidhaaDoorZPXx3
import Derived.Test.YtfofcgflamidhaaDoorZPXx11
import Derived.Test.YtfofcgflamidhaaDoorZPXx5
import Derived.Test.YtfofcgflamidhaaDoorZPXx6
namespace Go.Proofs.YtfofcgflamidhaaDoor.XMNum
open Go.RowKit Go.Proofs.YtfofcgflamidhaaDoor.PX Go.Proofs.YtfofcgflamidhaaDoorW.PrintWords Go.Proofs.YtfofcgflamidhaaDoorW.PrintLast Go.Proofs.YtfofcgflamidhaaDoor.XMB Go.Proofs.YtfofcgflamidhaaDoor.XMRef Go.Proofs.YtfofcgflamidhaaDoor.XMMul Go.Proofs.YtfofcgflamidhaaDoor.XMRef2 Go.Proofs.YtfofcgflamidhaaDoor.XMSum
set_option linter.unusedVariables false
set_option linter.unusedSectionVars false
set_option linter.unusedSimpArgs false

theorem add_eq (a b : Int) (ha : I64 a) (hb : I64 b) : money_Add.f a b = some (fits (a + b)) := by
  unfold I64 at ha hb
  unfold money_Add.f fits wrap64
  by_cases c1 : 0 ≤ a <;> by_cases c2 : 0 ≤ b
  all_goals
    first | rw [show decide (a ≥ 0) = true from decide_eq_true c1] | rw [show decide (a ≥ 0) = false from decide_eq_false c1]
    first | rw [show decide (b ≥ 0) = true from decide_eq_true c2] | rw [show decide (b ≥ 0) = false from decide_eq_false c2]
  · rw [if_pos (by rfl)]
    by_cases c3 : a + b ≤ 9223372036854775807
    · rw [decide_eq_true (by omega), if_neg (by decide), if_pos (by omega)]
      congr 2
      omega
    · rw [decide_eq_false (by omega), if_pos (by decide), if_neg (by omega)]
  · rw [if_neg (by decide), if_pos (by omega)]
    congr 2
    omega
  · rw [if_neg (by decide), if_pos (by omega)]
    congr 2
    omega
  · rw [if_pos (by rfl)]
    by_cases c3 : -9223372036854775808 ≤ a + b
    · rw [decide_eq_false (by omega), if_neg (by decide), if_pos (by omega)]
      congr 2
      omega
    · rw [decide_eq_true (by omega), if_pos (by decide), if_neg (by omega)]
theorem sub_eq (a b : Int) (ha : I64 a) (hb : I64 b) : money_Sub.f a b = some (fits (a - b)) := by
  unfold I64 at ha hb
  unfold money_Sub.f fits wrap64
  by_cases c1 : 0 ≤ a <;> by_cases c2 : 0 ≤ b
  all_goals
    first | rw [show decide (a ≥ 0) = true from decide_eq_true c1] | rw [show decide (a ≥ 0) = false from decide_eq_false c1]
    first | rw [show decide (b ≥ 0) = true from decide_eq_true c2] | rw [show decide (b ≥ 0) = false from decide_eq_false c2]
  · rw [if_neg (by decide), if_pos (by omega)]
    congr 2
    omega
  · rw [if_pos (by rfl)]
    by_cases c3 : a - b ≤ 9223372036854775807
    · rw [decide_eq_true (by omega), if_neg (by decide), if_pos (by omega)]
      congr 2
      omega
    · rw [decide_eq_false (by omega), if_pos (by decide), if_neg (by omega)]
  · rw [if_pos (by rfl)]
    by_cases c3 : -9223372036854775808 ≤ a - b
    · rw [decide_eq_false (by omega), if_neg (by decide), if_pos (by omega)]
      congr 2
      omega
    · rw [decide_eq_true (by omega), if_pos (by decide), if_neg (by omega)]
  · rw [if_neg (by decide), if_pos (by omega)]
    congr 2
    omega
theorem joined_any (h l : Int) (h0 : -4611686018427387904 ≤ h) (h1 : h ≤ 4611686018427387903) (l0 : -4611686018427387904 ≤ l) (l1 : l ≤ 4611686018427387903) :
    arrearsref1_joined.f h l = some (fits (h * 4294967296 + l)) := by
  unfold arrearsref1_joined.f fits
  have e1 : wrap64 (h + l / 4294967296) = h + l / 4294967296 := w64 (by omega) (by omega)
  have e2 : wrap64 (l / 4294967296 * 4294967296) = l / 4294967296 * 4294967296 := w64 (by omega) (by omega)
  rw [e1, e2]
  by_cases c1 : h + l / 4294967296 < -2147483648
  · rw [if_pos c1, if_neg (by omega)]
  · rw [if_neg c1]
    by_cases c2 : h + l / 4294967296 > 2147483647
    · rw [if_pos c2, if_neg (by omega)]
    · rw [if_neg c2, if_pos (by omega), w64 (x := (h + l / 4294967296) * 4294967296) (by omega) (by omega), w64 (x := l - l / 4294967296 * 4294967296) (by omega) (by omega), w64 (by omega) (by omega)]
      congr 2
      omega
theorem refAdd_eq (a b : Int) (ha : I64 a) (hb : I64 b) : arrearsref1_Add.f a b = some (fits (a + b)) := by
  have la := lowOf_eq a ha
  have lb := lowOf_eq b hb
  unfold I64 at ha hb
  unfold arrearsref1_Add.f
  rw [la, lb]
  simp only [arrearsref1_high.f, Option.bind_some]
  rw [w64 (x := a / 4294967296 + b / 4294967296) (by omega) (by omega), w64 (x := a % 4294967296 + b % 4294967296) (by omega) (by omega), joined_any _ _ (by omega) (by omega) (by omega) (by omega),
    show (a / 4294967296 + b / 4294967296) * 4294967296 + (a % 4294967296 + b % 4294967296) = a + b by omega]
  rfl
theorem refSub_eq (a b : Int) (ha : I64 a) (hb : I64 b) : arrearsref1_Sub.f a b = some (fits (a - b)) := by
  have la := lowOf_eq a ha
  have lb := lowOf_eq b hb
  unfold I64 at ha hb
  unfold arrearsref1_Sub.f
  rw [la, lb]
  simp only [arrearsref1_high.f, Option.bind_some]
  rw [w64 (x := a / 4294967296 - b / 4294967296) (by omega) (by omega), w64 (x := a % 4294967296 - b % 4294967296) (by omega) (by omega), joined_any _ _ (by omega) (by omega) (by omega) (by omega),
    show (a / 4294967296 - b / 4294967296) * 4294967296 + (a % 4294967296 - b % 4294967296) = a - b by omega]
  rfl
/-- The product of these sizes with its sign, if it fits. -/
def prod (a b : Int) : Int × Bool := fits (if (decide (a < 0) != decide (b < 0)) = true then -((a.natAbs * b.natAbs : Nat) : Int) else ((a.natAbs * b.natAbs : Nat) : Int))
theorem mul_eq (a b : Int) (ha : I64 a) (hb : I64 b) : money_Mul.f a b = some (prod a b) := by
  have m64 := mul64_eq ha hb
  unfold money_Mul.f prod
  rw [magnitude_eq a ha, magnitude_eq b hb]
  simp only [Option.bind_some]
  rw [m64]
  simp only [Option.bind_some]
  obtain ⟨n, hn⟩ : ∃ n : Nat, n = a.natAbs * b.natAbs := ⟨_, rfl⟩
  rw [← hn]
  by_cases z : (n : Int) / 18446744073709551616 = 0
  · rw [if_pos z, withSign_eq _ _ (by omega) (by omega), Option.bind_some, show (n : Int) % 18446744073709551616 = n by omega]
  · rw [if_neg z, fits_out (by unfold I64; split <;> omega)]
theorem refMul_ev (a b : Int) (ha : I64 a) (hb : I64 b) : Ev (fun k => arrearsref1_Mul.f k a b) (prod a b) := by
  have mp := prod_bd ha hb
  have sa := size_eq a ha
  have sb := size_eq b hb
  unfold I64 at ha hb
  unfold prod
  obtain ⟨A, hA⟩ : ∃ A, A = a.natAbs := ⟨_, rfl⟩
  obtain ⟨B, hB⟩ : ∃ B, B = b.natAbs := ⟨_, rfl⟩
  rw [← hA] at sa mp ⊢
  rw [← hB] at sb mp ⊢
  obtain ⟨n, hn⟩ : ∃ n, n = A * B := ⟨_, rfl⟩
  obtain ⟨K1, h1⟩ := Ev_out (digits_ev A (by omega))
  obtain ⟨K2, h2⟩ := Ev_out (digits_ev B (by omega))
  obtain ⟨K3, h3⟩ := Ev_out (times_ev A B (by omega) (by omega))
  rw [← hn] at h3 mp ⊢
  obtain ⟨K4, h4⟩ := Ev_out (signed_ev (decide (a < 0) != decide (b < 0)) n (by omega))
  refine ⟨K1 + K2 + K3 + K4, fun k hk => ?_⟩
  simp only [arrearsref1_Mul.f]
  rw [sa, sb]
  simp only [Option.bind_some]
  rw [h1 k (by omega), h2 k (by omega)]
  simp only [Option.bind_some]
  rw [h3 k (by omega), Option.bind_some, h4 k (by omega)]
  rfl
theorem sums_ev (a b : Int) (ha : I64 a) (hb : I64 b) : Ev (fun k => arrearslaw1_sums.f k a b) true := by
  obtain ⟨K, e⟩ := Ev_out (refMul_ev a b ha hb)
  refine ⟨K + 2, fun k hk => ?_⟩
  obtain ⟨k, rfl⟩ : ∃ m, k = m + 2 := ⟨k - 2, by omega⟩
  simp only [arrearslaw1_sums.f]
  rw [add_eq a b ha hb, refAdd_eq a b ha hb]
  simp only [Option.bind_some]
  rw [if_pos True.intro, bne_self_eq_false]
  simp only [arrearslaw1_sums.j0]
  rw [if_neg Bool.false_ne_true, sub_eq a b ha hb, refSub_eq a b ha hb]
  simp only [Option.bind_some]
  rw [if_pos True.intro, bne_self_eq_false]
  simp only [arrearslaw1_sums.j1]
  rw [if_neg Bool.false_ne_true, mul_eq a b ha hb, e k (by omega)]
  simp only [Option.bind_some]
  rw [if_pos True.intro, beq_self_eq_true]
theorem clamps_ev (x lo hi : Int) : Ev (fun k => arrearslaw1_clamps.f k x lo hi) true := by
  refine ⟨1, fun k hk => ?_⟩
  obtain ⟨k, rfl⟩ : ∃ m, k = m + 1 := ⟨k - 1, by omega⟩
  have e1 : money_Clamp_int64.f x lo hi = arrearsref1_Clamp.f x lo hi := rfl
  have e2 : arrearslaw1_Cents_43.f x lo hi = arrearsref1_Clamp.f x lo hi := rfl
  have e3 : money_Clamp_int.f x lo hi = arrearsref1_Clamp.f x lo hi := rfl
  have e4 : arrearslaw1_Count_45.f x lo hi = arrearsref1_Clamp.f x lo hi := rfl
  obtain ⟨y, hy⟩ : ∃ y, arrearsref1_Clamp.f x lo hi = some y := by
    unfold arrearsref1_Clamp.f
    split
    · exact ⟨_, rfl⟩
    · split <;> exact ⟨_, rfl⟩
  simp only [arrearslaw1_clamps.f]
  rw [e1, e2, hy]
  simp only [Option.bind_some]
  rw [if_pos True.intro, bne_self_eq_false]
  simp only [arrearslaw1_clamps.j0]
  rw [if_neg Bool.false_ne_true, e3, e4, hy]
  simp only [Option.bind_some]
  rw [if_pos True.intro, beq_self_eq_true]
theorem rounds_ev (a b c : Int) (ha : I64 a) (hb : I64 b) (hc : I64 c) : Ev (fun k => arrearslaw1_MoneyRounds.f k a b c) true := by
  obtain ⟨K1, h1⟩ := Ev_out (muldiv_ev a b c ha hb hc)
  obtain ⟨K2, h2⟩ := Ev_out (ref_muldiv_ev a b c ha hb hc)
  obtain ⟨K3, h3⟩ := Ev_out (muldiv_ev a b 10000 ha hb (by unfold I64; omega))
  obtain ⟨K4, h4⟩ := Ev_out (ref_muldiv_ev a b 10000 ha hb (by unfold I64; omega))
  refine ⟨K1 + K2 + K3 + K4 + 1, fun k hk => ?_⟩
  obtain ⟨k, rfl⟩ : ∃ m, k = m + 1 := ⟨k - 1, by omega⟩
  simp only [arrearslaw1_MoneyRounds.f]
  rw [h1 _ (by omega), h2 _ (by omega)]
  simp only [Option.bind_some, if_true, bne_self_eq_false, arrearslaw1_MoneyRounds.j0, Bool.false_eq_true, if_false, money_Bps.f, arrearsref1_Bps.f]
  rw [h3 _ (by omega), h4 _ (by omega)]
  simp
theorem floors_ev (a b c : Int) (ha : I64 a) (hb : I64 b) (hc : I64 c) : Ev (fun k => arrearslaw1_MoneyFloors.f k a b c) true := by
  obtain ⟨K1, h1⟩ := Ev_out (floor_ev a b c ha hb hc)
  obtain ⟨K2, h2⟩ := Ev_out (ref_floor_ev a b c ha hb hc)
  refine ⟨K1 + K2, fun k hk => ?_⟩
  simp only [arrearslaw1_MoneyFloors.f]
  rw [h1 _ (by omega), h2 _ (by omega)]
  simp
end Go.Proofs.YtfofcgflamidhaaDoor.XMNum
