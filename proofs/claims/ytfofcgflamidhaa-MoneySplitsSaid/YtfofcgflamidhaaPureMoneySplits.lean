/- MoneySplits: Split of any total by any weights (up to 4096) answers the document's parts; the weights and what lies behind them stay. This text is the part over numbers and lists. -/
import Derived.Test.YtfofcgflamidhaaMSplit
import Derived.Test.YtfofcgflamidhaaPAllx10
namespace Go.Proofs.Ytfofcgflamidhaa.Pure
open Go.RowKit Go.Proofs.Ytfofcgflamidhaa.PAll Go.Proofs.YtfofcgflamidhaaW.PrintWords Go.Proofs.YtfofcgflamidhaaW.PrintLast Go.Proofs.Ytfofcgflamidhaa.MB Go.Proofs.Ytfofcgflamidhaa.MSum Go.Proofs.Ytfofcgflamidhaa.MSplit
set_option linter.unusedVariables false

theorem MoneySplits : arrearslaw1_MoneySplits.Pure := by
  intro a l ha _ _ hw
  replace hw : ∀ x ∈ l, I64 x := fun x hx => I64.of (hw x hx)
  by_cases c : (l.length : Int) > 4096
  · exact ⟨0, by simp only [arrearslaw1_MoneySplits.f]; rw [if_pos c]⟩
  · have hl : l.length ≤ 4096 := by omega
    have plen : (splitSpec a l).1.length ≤ 4096 := by
      unfold splitSpec
      split
      · rw [bumps_length, List.length_map]
        exact hl
      · simp
    obtain ⟨K1, h1⟩ := Ev_out (copied_ev l (by omega))
    obtain ⟨K2, h2⟩ := Ev_out (split_ev a l (I64.of ha) hw (by omega))
    obtain ⟨K3, h3⟩ := Ev_out (ref_split_ev a l (I64.of ha) hw (by omega))
    obtain ⟨K4, h4⟩ := Ev_out (same_ev (splitSpec a l).1 (by omega))
    obtain ⟨K5, h5⟩ := Ev_out (same_ev l (by omega))
    have len : (l ++ [901, 902]).length = l.length + 2 := by rw [List.length_append]; rfl
    have tk : (l ++ [901, 902]).take l.length = l := by rw [List.take_append_of_le_length (Nat.le_refl _), List.take_length]
    have r1 : rd (l ++ [901, 902]) (l.length : Int) = 901 := by rw [rd_nat, List.getD_eq_getElem?_getD, List.getElem?_append_right (Nat.le_refl _), Nat.sub_self]; rfl
    have r2 : rd (l ++ [901, 902]) ((l.length + 1 : Nat) : Int) = 902 := by rw [rd_nat, List.getD_eq_getElem?_getD, List.getElem?_append_right (by omega), Nat.add_sub_cancel_left]; rfl
    refine ⟨K1 + K2 + K3 + K4 + K5, ?_⟩
    simp only [arrearslaw1_MoneySplits.f]
    rw [if_neg c, h1 _ (by omega)]
    simp only [Option.bind_some]
    rw [if_pos (by show l.length + 2 < _; omega), len, if_pos (by omega), if_pos (by omega), Int.toNat_natCast, tk, h2 _ (by omega), h3 _ (by omega)]
    simp only [Option.bind_some, beq_self_eq_true, if_true]
    rw [h4 _ (by omega), h5 _ (by omega)]
    simp only [Option.bind_some, if_true]
    rw [r1, wi l.length (by omega), r2, if_pos (by omega), if_pos rfl, if_pos (by omega), if_pos (by omega)]
    rfl

end Go.Proofs.Ytfofcgflamidhaa.Pure
