/- MoneyOrderless: the order of a list, and where it is cut, count for nothing in Sum. This text is the part over numbers and lists. -/
import Derived.Test.YtfofcgflamidhaaMSum
import Derived.Test.YtfofcgflamidhaaPAllx3
namespace Go.Proofs.Ytfofcgflamidhaa.Pure
open Go.RowKit Go.Proofs.Ytfofcgflamidhaa.PAll Go.Proofs.YtfofcgflamidhaaW.PrintWords Go.Proofs.YtfofcgflamidhaaW.PrintLast Go.Proofs.Ytfofcgflamidhaa.MB Go.Proofs.Ytfofcgflamidhaa.MSum
set_option linter.unusedVariables false
set_option linter.unusedSectionVars false
set_option linter.unusedSimpArgs false

theorem add_eq (a b : Int) (ha : I64 a) (hb : I64 b) : money_Add.f a b = some (fits (a + b)) := by
  unfold I64 at ha hb
  unfold money_Add.f fits wrap64
  by_cases c1 : 0 ≤ a <;> by_cases c2 : 0 ≤ b
  all_goals
    first | rw [show decide (a ≥ 0) = true from decide_eq_true c1] | rw [show decide (a ≥ 0) = false from decide_eq_false c1]
    first | rw [show decide (b ≥ 0) = true from decide_eq_true c2] | rw [show decide (b ≥ 0) = false from decide_eq_false c2]
  · rw [if_pos (by rfl)]
    by_cases c3 : a + b ≤ 9223372036854775807
    · rw [decide_eq_true (by omega), if_neg (by decide), if_pos (by omega)]
      congr 2
      omega
    · rw [decide_eq_false (by omega), if_pos (by decide), if_neg (by omega)]
  · rw [if_neg (by decide), if_pos (by omega)]
    congr 2
    omega
  · rw [if_neg (by decide), if_pos (by omega)]
    congr 2
    omega
  · rw [if_pos (by rfl)]
    by_cases c3 : -9223372036854775808 ≤ a + b
    · rw [decide_eq_false (by omega), if_neg (by decide), if_pos (by omega)]
      congr 2
      omega
    · rw [decide_eq_true (by omega), if_pos (by decide), if_neg (by omega)]
theorem sum_turned (l : List Int) : l.reverse.sum = l.sum := by
  induction l with
  | nil => rfl
  | cons x l ih =>
    rw [List.reverse_cons, List.sum_append, ih]
    simp only [List.sum_cons, List.sum_nil]
    omega
theorem drop_prev {l : List Int} {j : Nat} (h : j < l.length) : (l.drop j).reverse = (l.drop (j + 1)).reverse ++ [l.getD j 0] := by
  rw [List.drop_eq_getElem_cons h, List.reverse_cons, List.getD_eq_getElem?_getD, List.getElem?_eq_getElem h]
  rfl

section
variable (l : List Int) (at_ : Int) (hl : l.length ≤ 4096) (hw : ∀ x ∈ l, I64 x)
include hl hw
theorem cut_way (h0 : 0 ≤ at_) (h1 : at_ ≤ l.length) : Ev (fun k => arrearslaw1_MoneyOrderless.j3 k l at_ (fits l.sum).2 (fits l.sum).1 false) true := by
  obtain ⟨i, rfl⟩ := Int.eq_ofNat_of_zero_le h0
  have w1 : ∀ x ∈ l.take i, I64 x := fun x hx => hw x (List.mem_of_mem_take hx)
  have w2 : ∀ x ∈ l.drop i, I64 x := fun x hx => hw x (List.mem_of_mem_drop hx)
  have n1 : (l.take i).length ≤ 4096 := by rw [List.length_take]; omega
  have n2 : (l.drop i).length ≤ 4096 := by rw [List.length_drop]; omega
  obtain ⟨K1, e1⟩ := Ev_out (copied_ev (l.take i) (by omega))
  obtain ⟨K2, e2⟩ := Ev_out (sum_ev (l.take i) (by omega) w1)
  obtain ⟨K3, e3⟩ := Ev_out (copied_ev (l.drop i) (by omega))
  obtain ⟨K4, e4⟩ := Ev_out (sum_ev (l.drop i) (by omega) w2)
  have whole : l.sum = (l.take i).sum + (l.drop i).sum := by rw [← List.sum_append, List.take_append_drop]
  refine ⟨K1 + K2 + K3 + K4 + 1, fun k hk => ?_⟩
  obtain ⟨k, rfl⟩ : ∃ m, k = m + 1 := ⟨k - 1, by omega⟩
  simp only [arrearslaw1_MoneyOrderless.j3]
  rw [if_neg (by decide), if_pos (by omega), if_pos (by omega), Int.toNat_natCast, e1 k (by omega), e3 k (by omega)]
  simp only [Option.bind_some]
  rw [e2 k (by omega), e4 k (by omega)]
  simp only [Option.bind_some]
  by_cases f1 : I64 (l.take i).sum
  · rw [fits_in f1, if_pos rfl]
    by_cases f2 : I64 (l.drop i).sum
    · rw [fits_in f2, if_pos rfl, add_eq _ _ f1 f2, ← whole]
      simp
    · rw [fits_out f2]
      simp
  · rw [fits_out f1]
    simp
theorem back_way : ∀ (j : Nat), j ≤ l.length → Ev (fun k => arrearslaw1_MoneyOrderless.l0 k l at_ (fits l.sum).2 (fits l.sum).1 (l.drop j).reverse ((j : Int) - 1)) true := by
  intro j
  induction j with
  | zero =>
    intro _
    rw [List.drop_zero]
    obtain ⟨K1, e1⟩ := Ev_out (sum_ev l.reverse (by rw [List.length_reverse]; omega) (fun x hx => hw x (by simpa using hx)))
    rw [sum_turned] at e1
    have tail : Ev (fun k => arrearslaw1_MoneyOrderless.j2 k l at_ (fits l.sum).2 (fits l.sum).1 false) true := by
      have yes : Ev (fun k => arrearslaw1_MoneyOrderless.j3 k l at_ (fits l.sum).2 (fits l.sum).1 true) true := Ev_one (fun k => by simp only [arrearslaw1_MoneyOrderless.j3]; rw [if_pos True.intro])
      by_cases c : at_ < 0
      · refine Ev.step (fun k => ?_) yes
        simp only [arrearslaw1_MoneyOrderless.j2]
        rw [if_neg (by decide), if_pos c]
      · by_cases c2 : at_ > l.length
        · refine Ev.step (fun k => ?_) yes
          simp only [arrearslaw1_MoneyOrderless.j2]
          rw [if_neg (by decide), if_neg c, decide_eq_true c2]
        · refine Ev.step (fun k => ?_) (cut_way l at_ hl hw (by omega) (by omega))
          simp only [arrearslaw1_MoneyOrderless.j2]
          rw [if_neg (by decide), if_neg c, decide_eq_false c2]
    obtain ⟨K2, e2⟩ := Ev_out (tail)
    refine ⟨K1 + K2 + 1, fun k hk => ?_⟩
    obtain ⟨k, rfl⟩ : ∃ m, k = m + 1 := ⟨k - 1, by omega⟩
    simp only [arrearslaw1_MoneyOrderless.l0]
    rw [if_neg (by omega), e1 k (by omega)]
    simp only [Option.bind_some, if_true, bne_self_eq_false]
    exact e2 k (by omega)
  | succ j ih =>
    intro hj
    have h := ih (by omega)
    rw [drop_prev (show j < l.length by omega)] at h
    refine Ev.step (fun k => ?_) h
    simp only [arrearslaw1_MoneyOrderless.l0]
    rw [show ((j + 1 : Nat) : Int) - 1 = (j : Int) by omega, if_pos (by omega), if_pos (by omega), if_pos (by omega), if_pos (by rw [List.length_reverse, List.length_drop]; omega), rd_nat, w64 (by omega) (by omega)]
end
theorem MoneyOrderless : arrearslaw1_MoneyOrderless.Pure := by
  intro l at_ _ _ hw _
  replace hw : ∀ x ∈ l, I64 x := fun x hx => I64.of (hw x hx)
  by_cases c : (l.length : Int) > 4096
  · exact ⟨0, by simp only [arrearslaw1_MoneyOrderless.f]; rw [if_pos c]⟩
  · have hl : l.length ≤ 4096 := by omega
    obtain ⟨K1, h1⟩ := Ev_out (sum_ev [7, -2] (by decide) (by intro x hx; simp at hx; unfold I64; omega))
    obtain ⟨K2, h2⟩ := Ev_out (copied_ev l (by omega))
    obtain ⟨K3, h3⟩ := Ev_out (sum_ev l (by omega) hw)
    obtain ⟨K4, h4⟩ := Ev_out (back_way l at_ hl hw l.length (Nat.le_refl _))
    rw [List.drop_length, List.reverse_nil] at h4
    have e5 : fits ([7, -2] : List Int).sum = (5, true) := by decide
    rw [e5] at h1
    refine ⟨K1 + K2 + K3 + K4 + 1, ?_⟩
    simp only [arrearslaw1_MoneyOrderless.f]
    rw [if_neg c, h1 _ (by omega)]
    simp only [Option.bind_some, if_true, bne_self_eq_false, arrearslaw1_MoneyOrderless.j0, Bool.false_eq_true, if_false]
    rw [h2 _ (by omega)]
    simp only [Option.bind_some]
    rw [h3 _ (by omega), w64 (by omega) (by omega)]
    simp only [Option.bind_some]
    exact h4 _ (by omega)

end Go.Proofs.Ytfofcgflamidhaa.Pure
