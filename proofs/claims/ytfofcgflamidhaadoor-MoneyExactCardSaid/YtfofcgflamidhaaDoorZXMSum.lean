/- Sum of a list, by the program and by the document: both answer the exact sum, or refuse it where it is beyond 64 bits. Plain Lean over the printed functions. -/
import Derived.Test.YtfofcgflamidhaaDoorZXMB
import Derived.Test.YtfofcgflamidhaaDoorZPXx7
import Derived.Test.YtfofcgflamidhaaDoorZPXx6
namespace Go.Proofs.YtfofcgflamidhaaDoor.XMSum
open Go.RowKit Go.Proofs.YtfofcgflamidhaaDoor.PX Go.Proofs.YtfofcgflamidhaaDoorW.PrintWords Go.Proofs.YtfofcgflamidhaaDoorW.PrintLast Go.Proofs.YtfofcgflamidhaaDoorW.PrintMore Go.Proofs.YtfofcgflamidhaaDoor.XMB
set_option linter.unusedVariables false
set_option linter.unusedSectionVars false
set_option linter.unusedSimpArgs false

theorem joined_eq (h l : Int) (h0 : -4611686018427387904 ≤ h) (h1 : h ≤ 4611686018427387903) (l0 : 0 ≤ l) (l1 : l ≤ 4611686018427387903) :
    arrearsref1_joined.f h l = some (fits (h * 4294967296 + l)) := by
  unfold arrearsref1_joined.f fits
  have e1 : wrap64 (h + l / 4294967296) = h + l / 4294967296 := w64 (by omega) (by omega)
  have e2 : wrap64 (l / 4294967296 * 4294967296) = l / 4294967296 * 4294967296 := w64 (by omega) (by omega)
  rw [e1, e2]
  by_cases c1 : h + l / 4294967296 < -2147483648
  · rw [if_pos c1, if_neg (by omega)]
  · rw [if_neg c1]
    by_cases c2 : h + l / 4294967296 > 2147483647
    · rw [if_pos c2, if_neg (by omega)]
    · rw [if_neg c2, if_pos (by omega), w64 (x := (h + l / 4294967296) * 4294967296) (by omega) (by omega), w64 (x := l - l / 4294967296 * 4294967296) (by omega) (by omega), w64 (by omega) (by omega)]
      congr 2
      omega
theorem lowOf_eq (x : Int) (h : I64 x) : arrearsref1_lowOf.f x = some (x % 4294967296) := by
  unfold arrearsref1_lowOf.f arrearsref1_high.f
  unfold I64 at h
  simp only [Option.bind_some]
  rw [w64 (x := x / 4294967296 * 4294967296) (by omega) (by omega), w64 (by omega) (by omega)]
  congr 1
  omega
theorem refSum_loop (l : List Int) (hl : l.length ≤ 1048576) (hw : ∀ x ∈ l, I64 x) : ∀ (d i : Nat), i + d = l.length → ∀ H L : Int, H * 4294967296 + L = (l.take i).sum →
    -2147483648 * (i : Int) ≤ H → H ≤ 2147483648 * (i : Int) → 0 ≤ L → L ≤ 4294967296 * (i : Int) → Ev (fun k => arrearsref1_Sum.l0 k l H L (i : Int)) (fits l.sum) := by
  intro d
  induction d with
  | zero =>
    intro i hi H L hs a0 a1 b0 b1
    refine Ev_one (fun k => ?_)
    simp only [arrearsref1_Sum.l0]
    rw [if_neg (by omega), joined_eq H L (by omega) (by omega) (by omega) (by omega), hs, List.take_of_length_le (by omega)]
    rfl
  | succ d ih =>
    intro i hi H L hs a0 a1 b0 b1
    have hlt : i < l.length := by omega
    have hx := hw _ (rd_mem hlt)
    have hx' := hx
    unfold I64 at hx
    refine Ev.step (fun k => ?_) (ih (i + 1) (by omega) (H + l.getD i 0 / 4294967296) (L + l.getD i 0 % 4294967296) (by rw [take_sum hlt]; omega) (by omega) (by omega) (by omega) (by omega))
    simp only [arrearsref1_Sum.l0]
    rw [if_pos (by omega), if_pos (by omega), rd_nat, lowOf_eq _ hx']
    simp only [arrearsref1_high.f, Option.bind_some]
    rw [w64 (x := H + _) (by omega) (by omega), w64 (x := L + _) (by omega) (by omega), wi i (by omega)]
theorem refSum_ev (l : List Int) (hl : l.length ≤ 1048576) (hw : ∀ x ∈ l, I64 x) : Ev (fun k => arrearsref1_Sum.f k l) (fits l.sum) :=
  refSum_loop l hl hw l.length 0 (by omega) 0 0 (by simp) (by omega) (by omega) (by omega) (by omega)

theorem ad64s_eq {x y : Int} (hx : 0 ≤ x) (hy : 0 ≤ y) : ad64s x y = (x + y) % 18446744073709551616 := by unfold ad64s; omega
theorem ad64c_eq {x y : Int} (hx : 0 ≤ x) (hy : 0 ≤ y) : ad64c x y = (x + y) / 18446744073709551616 := by unfold ad64c; omega
theorem sum_end (S : Int) (h0 : -9223372036854775808 * 17592186044416 ≤ S) (h1 : S ≤ 9223372036854775808 * 17592186044416) :
    (if S / 18446744073709551616 % 18446744073709551616 = 0 then (if S % 18446744073709551616 ≤ 9223372036854775807 then (some (wrap64 (S % 18446744073709551616), true)) else (if S / 18446744073709551616 % 18446744073709551616 = 18446744073709551615 then (if S % 18446744073709551616 ≥ 9223372036854775808 then (some (wrap64 (S % 18446744073709551616), true)) else (some (0, false))) else (some (0, false)))) else (if S / 18446744073709551616 % 18446744073709551616 = 18446744073709551615 then (if S % 18446744073709551616 ≥ 9223372036854775808 then (some (wrap64 (S % 18446744073709551616), true)) else (some (0, false))) else (some (0, false)))) = some (fits S) := by
  unfold fits
  by_cases c : 0 ≤ S ∧ S ≤ 9223372036854775807
  · rw [if_pos (by omega), if_pos (by omega), if_pos (by omega), w64 (by omega) (by omega)]
    congr 2
    omega
  · by_cases c2 : -9223372036854775808 ≤ S ∧ S < 0
    · rw [if_neg (by omega), if_pos (by omega), if_pos (by omega), if_pos (by omega)]
      congr 2
      unfold wrap64
      omega
    · rw [if_neg (c := -9223372036854775808 ≤ S ∧ S ≤ 9223372036854775807) (by omega)]
      by_cases z : S / 18446744073709551616 % 18446744073709551616 = 0
      · rw [if_pos z, if_neg (by omega), if_neg (by omega)]
      · rw [if_neg z]
        by_cases y : S / 18446744073709551616 % 18446744073709551616 = 18446744073709551615
        · rw [if_pos y, if_neg (by omega)]
        · rw [if_neg y]
theorem sum_loop (l : List Int) (hl : l.length ≤ 17592186044416) (hw : ∀ x ∈ l, I64 x) : ∀ (d i : Nat), i + d = l.length → ∀ S : Int, S = (l.take i).sum →
    Ev (fun k => money_Sum_int64.l0 k (S / 18446744073709551616 % 18446744073709551616) (S % 18446744073709551616) l (l.length : Int) (i : Int)) (fits l.sum) := by
  intro d
  induction d with
  | zero =>
    intro i hi S hS
    have hb := sum_take_bd l hw i (by omega)
    rw [← hS] at hb
    have e : l.sum = S := by rw [hS, List.take_of_length_le (by omega)]
    refine Ev_one (fun k => ?_)
    simp only [money_Sum_int64.l0]
    rw [if_neg (by omega), sum_end S (by omega) (by omega), e]
  | succ d ih =>
    intro i hi S hS
    have hlt : i < l.length := by omega
    have hx := hw _ (rd_mem hlt)
    unfold I64 at hx
    refine Ev.step (fun k => ?_) (ih (i + 1) (by omega) (S + l.getD i 0) (by rw [take_sum hlt, hS]))
    simp only [money_Sum_int64.l0]
    rw [if_pos (by omega), if_pos (by omega), if_pos (by omega), rd_nat, wi i (by omega)]
    generalize l.getD i 0 = x at hx ⊢
    simp only [u64e]
    rw [ad64s_eq (by omega) (by omega), ad64c_eq (by omega) (by omega)]
    have es : (S % 18446744073709551616 + x % 18446744073709551616) % 18446744073709551616 = (S + x) % 18446744073709551616 := by omega
    rw [es]
    by_cases c : x < 0
    · rw [if_pos c]
      congr 1
      omega
    · rw [if_neg c]
      congr 1
      omega
theorem sum_ev (l : List Int) (hl : l.length ≤ 17592186044416) (hw : ∀ x ∈ l, I64 x) : Ev (fun k => money_Sum_int64.f k l) (fits l.sum) :=
  sum_loop l hl hw l.length 0 (by omega) 0 (by simp)

theorem copied_loop (l : List Int) (hl : l.length ≤ 1048576) : ∀ (d i : Nat), i + d = l.length → Ev (fun k => arrearslaw1_copied.l0 k l (l.take i) (i : Int)) l := by
  intro d
  induction d with
  | zero =>
    intro i hi
    refine Ev_one (fun k => ?_)
    simp only [arrearslaw1_copied.l0]
    rw [if_neg (by omega), List.take_of_length_le (by omega)]
  | succ d ih =>
    intro i hi
    have hlt : i < l.length := by omega
    refine Ev.step (fun k => ?_) (ih (i + 1) (by omega))
    simp only [arrearslaw1_copied.l0]
    rw [if_pos (by omega), if_pos (by omega), if_pos (by rw [List.length_take]; omega), rd_nat, wi i (by omega), take_next hlt]
theorem copied_ev (l : List Int) (hl : l.length ≤ 1048576) : Ev (fun k => arrearslaw1_copied.f k l) l := copied_loop l hl l.length 0 (by omega)
theorem same_loop (l : List Int) (hl : l.length ≤ 1048576) : ∀ (d i : Nat), i + d = l.length → Ev (fun k => arrearslaw1_same.l0 k l l (i : Int)) true := by
  intro d
  induction d with
  | zero =>
    intro i hi
    refine Ev_one (fun k => ?_)
    simp only [arrearslaw1_same.l0]
    rw [if_neg (by omega)]
  | succ d ih =>
    intro i hi
    refine Ev.step (fun k => ?_) (ih (i + 1) (by omega))
    simp only [arrearslaw1_same.l0]
    rw [if_pos (by omega), if_pos (by omega), if_pos (by omega), if_pos True.intro, wi i (by omega)]
theorem same_ev (l : List Int) (hl : l.length ≤ 1048576) : Ev (fun k => arrearslaw1_same.f k l l) true := by
  refine Ev.congr (fun k => ?_) (same_loop l hl l.length 0 (by omega))
  simp only [arrearslaw1_same.f]
  rw [if_pos True.intro]
  rfl

end Go.Proofs.YtfofcgflamidhaaDoor.XMSum
