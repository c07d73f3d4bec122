/- MoneyTotals: Sum of any list of up to 4096 numbers, at int64 and at the statement's two own types, is the document's, and the list stays. This text is the part over numbers and lists. -/
import Derived.Test.YtfofcgflamidhaaMSum
import Derived.Test.YtfofcgflamidhaaPAllx2
import Derived.Test.YtfofcgflamidhaaPAllx1
namespace Go.Proofs.Ytfofcgflamidhaa.Pure
open Go.RowKit Go.Proofs.Ytfofcgflamidhaa.PAll Go.Proofs.YtfofcgflamidhaaW.PrintWords Go.Proofs.YtfofcgflamidhaaW.PrintLast Go.Proofs.Ytfofcgflamidhaa.MB Go.Proofs.Ytfofcgflamidhaa.MSum
set_option linter.unusedVariables false
set_option linter.unusedSectionVars false
set_option linter.unusedSimpArgs false

theorem cents_l0 : ∀ (k : Nat) (a b : Int) (l : List Int) (n i : Int), arrearslaw1_Cents.l0 k a b l n i = money_Sum_int64.l0 k a b l n i
  | 0, _, _, _, _, _ => rfl
  | k + 1, a, b, l, n, i => by simp only [arrearslaw1_Cents.l0, money_Sum_int64.l0, cents_l0 k]
theorem count_l0 : ∀ (k : Nat) (a b : Int) (l : List Int) (n i : Int), arrearslaw1_Count.l0 k a b l n i = money_Sum_int64.l0 k a b l n i
  | 0, _, _, _, _, _ => rfl
  | k + 1, a, b, l, n, i => by simp only [arrearslaw1_Count.l0, money_Sum_int64.l0, count_l0 k]
theorem cents_f (k : Nat) (l : List Int) : arrearslaw1_Cents.f k l = money_Sum_int64.f k l := cents_l0 k ..
theorem count_f (k : Nat) (l : List Int) : arrearslaw1_Count.f k l = money_Sum_int64.f k l := count_l0 k ..

theorem totals_loop (l : List Int) (hl : l.length ≤ 4096) (hw : ∀ x ∈ l, I64 x) : ∀ (d i : Nat), i + d = l.length →
    Ev (fun k => arrearslaw1_MoneyTotals.l0 k l (fits l.sum).1 (fits l.sum).2 (l.take i) (l.take i) (i : Int)) true := by
  intro d
  induction d with
  | zero =>
    intro i hi
    obtain ⟨K, h⟩ := Ev_out (sum_ev l (by omega) hw)
    refine ⟨K + 1, fun k hk => ?_⟩
    obtain ⟨k, rfl⟩ : ∃ m, k = m + 1 := ⟨k - 1, by omega⟩
    simp only [arrearslaw1_MoneyTotals.l0]
    rw [if_neg (by omega), List.take_of_length_le (by omega), cents_f, count_f, h k (by omega)]
    simp
  | succ d ih =>
    intro i hi
    have hlt : i < l.length := by omega
    refine Ev.step (fun k => ?_) (ih (i + 1) (by omega))
    simp only [arrearslaw1_MoneyTotals.l0]
    rw [if_pos (by omega), if_pos (by omega), if_pos (by rw [List.length_take]; omega), if_pos (by rw [List.length_take]; omega), rd_nat, wi i (by omega), take_next hlt]
theorem MoneyTotals : arrearslaw1_MoneyTotals.Pure := by
  intro l _ _ hw
  replace hw : ∀ x ∈ l, I64 x := fun x hx => I64.of (hw x hx)
  by_cases c : (l.length : Int) > 4096
  · exact ⟨0, by simp only [arrearslaw1_MoneyTotals.f]; rw [if_pos c]⟩
  · have hl : l.length ≤ 4096 := by omega
    obtain ⟨K1, h1⟩ := Ev_out (refSum_ev l (by omega) hw)
    obtain ⟨K2, h2⟩ := Ev_out (copied_ev l (by omega))
    obtain ⟨K3, h3⟩ := Ev_out (sum_ev l (by omega) hw)
    obtain ⟨K4, h4⟩ := Ev_out (same_ev l (by omega))
    obtain ⟨K5, h5⟩ := Ev_out (totals_loop l hl hw l.length 0 (by omega))
    refine ⟨K1 + K2 + K3 + K4 + K5 + 1, ?_⟩
    simp only [arrearslaw1_MoneyTotals.f]
    rw [if_neg c, h1 _ (by omega), h2 _ (by omega)]
    simp only [Option.bind_some]
    rw [h3 _ (by omega), h4 _ (by omega)]
    simp only [Option.bind_some, if_true, bne_self_eq_false, Bool.false_eq_true, if_false, arrearslaw1_MoneyTotals.j0, Bool.not_true]
    exact h5 _ (by omega)

end Go.Proofs.Ytfofcgflamidhaa.Pure
