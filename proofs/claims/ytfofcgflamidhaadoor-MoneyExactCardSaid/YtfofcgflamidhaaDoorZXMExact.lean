/- MoneyExact: whatever calls are made, in whatever order, each answers as the document says; lists that were handed out are their holder's. Plain Lean over the printed functions. -/
import Derived.Test.YtfofcgflamidhaaDoorZXMNum
import Derived.Test.YtfofcgflamidhaaDoorZXMSplitR
import Derived.Test.YtfofcgflamidhaaDoorZXMRText
import Derived.Test.YtfofcgflamidhaaDoorZPXx8
import Derived.Test.YtfofcgflamidhaaDoorZPXx7
import Derived.Test.YtfofcgflamidhaaDoorZPXx10
import Derived.Test.YtfofcgflamidhaaDoorZPXx15
import Derived.Test.YtfofcgflamidhaaDoorZPXx16
namespace Go.Proofs.YtfofcgflamidhaaDoor.XMExact
open Go.RowKit Go.Proofs.YtfofcgflamidhaaDoor.PX Go.Proofs.YtfofcgflamidhaaDoorW.PrintWords Go.Proofs.YtfofcgflamidhaaDoorW.PrintLast Go.Proofs.YtfofcgflamidhaaDoor.XMB Go.Proofs.YtfofcgflamidhaaDoor.XMSum Go.Proofs.YtfofcgflamidhaaDoor.XMSplit Go.Proofs.YtfofcgflamidhaaDoor.XMSplitR Go.Proofs.YtfofcgflamidhaaDoor.XMNum Go.Proofs.YtfofcgflamidhaaDoor.XMRText
set_option linter.unusedVariables false
set_option linter.unusedSectionVars false
set_option linter.unusedSimpArgs false

theorem cents_l0 : ∀ (k : Nat) (a b : Int) (l : List Int) (n i : Int), arrearslaw1_Cents_39.l0 k a b l n i = money_Sum_int64.l0 k a b l n i
  | 0, _, _, _, _, _ => rfl
  | k + 1, a, b, l, n, i => by simp only [arrearslaw1_Cents_39.l0, money_Sum_int64.l0, cents_l0 k]
theorem count_l0 : ∀ (k : Nat) (a b : Int) (l : List Int) (n i : Int), arrearslaw1_Count_40.l0 k a b l n i = money_Sum_int64.l0 k a b l n i
  | 0, _, _, _, _, _ => rfl
  | k + 1, a, b, l, n, i => by simp only [arrearslaw1_Count_40.l0, money_Sum_int64.l0, count_l0 k]
theorem cents_f (k : Nat) (l : List Int) : arrearslaw1_Cents_39.f k l = money_Sum_int64.f k l := cents_l0 k ..
theorem count_f (k : Nat) (l : List Int) : arrearslaw1_Count_40.f k l = money_Sum_int64.f k l := count_l0 k ..
theorem totals_loop (l : List Int) (hl : l.length ≤ 4096) (hw : ∀ x ∈ l, I64 x) : ∀ (d i : Nat), i + d = l.length →
    Ev (fun k => arrearslaw1_MoneyTotals.l0 k l (fits l.sum).1 (fits l.sum).2 (l.take i) (l.take i) (i : Int)) true := by
  intro d
  induction d with
  | zero =>
    intro i hi
    obtain ⟨K, h⟩ := Ev_out (sum_ev l (by omega) hw)
    refine ⟨K + 1, fun k hk => ?_⟩
    obtain ⟨k, rfl⟩ : ∃ m, k = m + 1 := ⟨k - 1, by omega⟩
    simp only [arrearslaw1_MoneyTotals.l0]
    rw [if_neg (by omega), List.take_of_length_le (by omega), cents_f, count_f, h k (by omega)]
    simp
  | succ d ih =>
    intro i hi
    have hlt : i < l.length := by omega
    refine Ev.step (fun k => ?_) (ih (i + 1) (by omega))
    simp only [arrearslaw1_MoneyTotals.l0]
    rw [if_pos (by omega), if_pos (by omega), if_pos (by rw [List.length_take]; omega), if_pos (by rw [List.length_take]; omega), rd_nat, wi i (by omega), take_next hlt]
theorem totals_ev (l : List Int) (hw : ∀ x ∈ l, I64 x) : Ev (fun k => arrearslaw1_MoneyTotals.f k l) true := by
  by_cases c : (l.length : Int) > 4096
  · exact Ev_eq fun k => by simp only [arrearslaw1_MoneyTotals.f]; rw [if_pos c]
  · have hl : l.length ≤ 4096 := by omega
    obtain ⟨K1, h1⟩ := Ev_out (refSum_ev l (by omega) hw)
    obtain ⟨K2, h2⟩ := Ev_out (copied_ev l (by omega))
    obtain ⟨K3, h3⟩ := Ev_out (sum_ev l (by omega) hw)
    obtain ⟨K4, h4⟩ := Ev_out (same_ev l (by omega))
    obtain ⟨K5, h5⟩ := Ev_out (totals_loop l hl hw l.length 0 (by omega))
    refine ⟨K1 + K2 + K3 + K4 + K5 + 1, fun k hk => ?_⟩
    obtain ⟨k, rfl⟩ : ∃ m, k = m + 1 := ⟨k - 1, by omega⟩
    simp only [arrearslaw1_MoneyTotals.f]
    rw [if_neg c, h1 _ (by omega), h2 _ (by omega)]
    simp only [Option.bind_some]
    rw [h3 _ (by omega), h4 _ (by omega)]
    simp only [Option.bind_some, if_true, bne_self_eq_false, Bool.false_eq_true, if_false, arrearslaw1_MoneyTotals.j0, Bool.not_true]
    exact h5 _ (by omega)
theorem spec_len (a : Int) (l : List Int) : (splitSpec a l).1.length ≤ l.length := by
  unfold splitSpec
  split
  · rw [bumps_length, List.length_map]
    exact Nat.le_refl _
  · simp
theorem splits_ev (a : Int) (l : List Int) (ha : I64 a) (hw : ∀ x ∈ l, I64 x) : Ev (fun k => arrearslaw1_MoneySplits.f k a l) true := by
  by_cases c : (l.length : Int) > 4096
  · exact Ev_eq fun k => by simp only [arrearslaw1_MoneySplits.f]; rw [if_pos c]
  · have hl : l.length ≤ 4096 := by omega
    have plen := spec_len a l
    obtain ⟨K1, h1⟩ := Ev_out (copied_ev l (by omega))
    obtain ⟨K2, h2⟩ := Ev_out (split_ev a l ha hw (by omega))
    obtain ⟨K3, h3⟩ := Ev_out (ref_split_ev a l ha hw (by omega))
    obtain ⟨K4, h4⟩ := Ev_out (same_ev (splitSpec a l).1 (by omega))
    obtain ⟨K5, h5⟩ := Ev_out (same_ev l (by omega))
    have len : (l ++ [901, 902]).length = l.length + 2 := by rw [List.length_append]; rfl
    have tk : (l ++ [901, 902]).take l.length = l := by rw [List.take_append_of_le_length (Nat.le_refl _), List.take_length]
    have r1 : rd (l ++ [901, 902]) (l.length : Int) = 901 := by rw [rd_nat, List.getD_eq_getElem?_getD, List.getElem?_append_right (Nat.le_refl _), Nat.sub_self]; rfl
    have r2 : rd (l ++ [901, 902]) ((l.length + 1 : Nat) : Int) = 902 := by rw [rd_nat, List.getD_eq_getElem?_getD, List.getElem?_append_right (by omega), Nat.add_sub_cancel_left]; rfl
    refine ⟨K1 + K2 + K3 + K4 + K5, fun k hk => ?_⟩
    simp only [arrearslaw1_MoneySplits.f]
    rw [if_neg c, h1 _ (by omega)]
    simp only [Option.bind_some]
    rw [if_pos (by show l.length + 2 < _; omega), len, if_pos (by omega), if_pos (by omega), Int.toNat_natCast, tk, h2 _ (by omega), h3 _ (by omega)]
    simp only [Option.bind_some, beq_self_eq_true, if_true]
    rw [h4 _ (by omega), h5 _ (by omega)]
    simp only [Option.bind_some, if_true]
    rw [r1, wi l.length (by omega), r2, if_pos (by omega), if_pos rfl, if_pos (by omega), if_pos (by omega)]
    rfl
theorem gap_loop (x : Int) : ∀ (d i : Nat), i + d = 64 → Ev (fun k => arrearslaw1_gap.l0 k x (List.replicate i x) (i : Int)) (List.replicate 64 x) := by
  intro d
  induction d with
  | zero =>
    intro i hi
    obtain rfl : i = 64 := by omega
    refine Ev_one fun k => ?_
    simp only [arrearslaw1_gap.l0]
    rw [if_neg (by decide)]
  | succ d ih =>
    intro i hi
    refine Ev.step (fun k => ?_) (ih (i + 1) (by omega))
    simp only [arrearslaw1_gap.l0]
    rw [if_pos (by omega), if_pos (by rw [List.length_replicate]; omega), wi i (by omega), List.replicate_succ']
theorem gap_ev (x : Int) : Ev (fun k => arrearslaw1_gap.f k x) (List.replicate 64 x) := gap_loop x 64 0 rfl
section
variable (mark : Int) (l q : List Int) (ok : Bool) (f0 f1 f2 f3 : Int) (f5 : ByteArray) (hl : l.length ≤ 4096) (hq : q.length ≤ 4096)
include hl hq
theorem kept_loop : ∀ (d i : Nat) (P : List Int), i + d = q.length → P.length = q.length → Ev (fun k => arrearslaw1_kept.l0 k mark l P ok q ok q (i : Int) f0 f1 f2 f3 l f5) true := by
  intro d
  induction d with
  | zero =>
    intro i P hi hP
    obtain ⟨K1, h1⟩ := Ev_out (gap_ev (wrap64 ((wrap64 (-mark)) - 2)))
    obtain ⟨K2, h2⟩ := Ev_out (same_ev q (by omega))
    obtain ⟨K3, h3⟩ := Ev_out (same_ev l (by omega))
    refine ⟨K1 + K2 + K3 + 2, fun k hk => ?_⟩
    obtain ⟨k, rfl⟩ : ∃ m, k = m + 2 := ⟨k - 2, by omega⟩
    simp only [arrearslaw1_kept.l0]
    rw [if_neg (by omega), h1 _ (by omega), Option.bind_some, List.length_append, List.length_replicate, if_pos (by omega), w64 (by omega) (by omega), if_pos (by omega), bne_self_eq_false]
    simp only [arrearslaw1_kept.j1]
    rw [if_neg Bool.false_ne_true, h2 k (by omega), Option.bind_some, if_pos rfl, h3 k (by omega), Option.bind_some]
  | succ d ih =>
    intro i P hi hP
    refine Ev.step (fun k => ?_) (ih (i + 1) (P.set i (wrap64 ((wrap64 (-mark)) - 1))) (by omega) (by rw [List.length_set]; exact hP))
    simp only [arrearslaw1_kept.l0]
    rw [if_pos (by omega), if_pos (by omega), wi i (by omega), Int.toNat_natCast]
end
theorem kept_ev (o : S30) (mark : Int) (h1 : I64 o.f1) (hw : ∀ x ∈ o.f4, I64 x) (hl : o.f4.length ≤ 4096) : Ev (fun k => arrearslaw1_kept.f k o.f0 o.f1 o.f2 o.f3 o.f4 o.f5 mark) true := by
  have plen := spec_len o.f1 o.f4
  obtain ⟨K1, e1⟩ := Ev_out (copied_ev o.f4 (by omega))
  obtain ⟨K2, e2⟩ := Ev_out (split_ev o.f1 o.f4 h1 hw (by omega))
  obtain ⟨K3, e3⟩ := Ev_out (ref_split_ev o.f1 o.f4 h1 hw (by omega))
  obtain ⟨K4, e4⟩ := Ev_out (kept_loop mark o.f4 (splitSpec o.f1 o.f4).1 (splitSpec o.f1 o.f4).2 o.f0 o.f1 o.f2 o.f3 o.f5 hl (by omega) (splitSpec o.f1 o.f4).1.length 0 (splitSpec o.f1 o.f4).1 (by omega) rfl)
  refine ⟨K1 + K2 + K3 + K4, fun k hk => ?_⟩
  simp only [arrearslaw1_kept.f]
  rw [e1 k (by omega), Option.bind_some, e2 k (by omega), Option.bind_some, Option.bind_some, e3 k (by omega), Option.bind_some]
  exact e4 k (by omega)
/-- The parts of a call are a program's: numbers of 64 bits, a text of a length that is one. -/
def OpOk (o : S30) : Prop := I64 o.f1 ∧ I64 o.f2 ∧ I64 o.f3 ∧ (∀ x ∈ o.f4, I64 x) ∧ o.f5.size ≤ 9223372036854775807
theorem plays_ev (o : S30) (h : OpOk o) : Ev (fun k => arrearslaw1_plays.f k o.f0 o.f1 o.f2 o.f3 o.f4 o.f5) true := by
  obtain ⟨h1, h2, h3, h4, h5⟩ := h
  obtain ⟨K1, e1⟩ := Ev_out (sums_ev o.f1 o.f2 h1 h2)
  obtain ⟨K2, e2⟩ := Ev_out (rounds_ev o.f1 o.f2 o.f3 h1 h2 h3)
  obtain ⟨K3, e3⟩ := Ev_out (floors_ev o.f1 o.f2 o.f3 h1 h2 h3)
  obtain ⟨K4, e4⟩ := Ev_out (totals_ev o.f4 h4)
  obtain ⟨K5, e5⟩ := Ev_out (splits_ev o.f1 o.f4 h1 h4)
  obtain ⟨K6, e6⟩ := Ev_out (clamps_ev o.f1 o.f2 o.f3)
  obtain ⟨K7, e7⟩ := Ev_out (texts_ev o.f1 o.f5 h1 h5)
  refine ⟨K1 + K2 + K3 + K4 + K5 + K6 + K7, fun k hk => ?_⟩
  simp only [arrearslaw1_plays.f]
  rw [e1 k (by omega), e2 k (by omega), e3 k (by omega), e4 k (by omega), e5 k (by omega), e6 k (by omega), e7 k (by omega)]
  simp only [Option.bind_some]
  repeat' (first | rfl | split)
theorem z30_ok : OpOk z30 := by
  unfold OpOk I64 z30
  refine ⟨by decide, by decide, by decide, fun x hx => ?_, by decide⟩
  cases hx
theorem rd_ok {l : List S30} (h : ∀ o ∈ l, OpOk o) (i : Nat) : OpOk (rd_T30 l (i : Int)) := by
  unfold rd_T30
  rw [List.getD_eq_getElem?_getD]
  cases e : l[((i : Nat) : Int).toNat]? with
  | none => exact z30_ok
  | some o => exact h o (List.mem_of_getElem? e)
theorem exact_l0 (l : List S30) (hl : l.length ≤ 9223372036854775807) (h : ∀ o ∈ l, OpOk o) : ∀ d i : Nat, i + d = l.length → Ev (fun k => arrearslaw1_MoneyExact.l0 k l (i : Int)) true := by
  intro d
  induction d with
  | zero =>
    intro i hi
    refine Ev_one fun k => ?_
    simp only [arrearslaw1_MoneyExact.l0]
    rw [if_neg (by omega)]
  | succ d ih =>
    intro i hi
    have ho := rd_ok h i
    obtain ⟨K1, e1⟩ := Ev_out (plays_ev (rd_T30 l (i : Int)) ho)
    obtain ⟨K2, e2⟩ := Ev_out (ih (i + 1) (by omega))
    have no : ∀ k, K2 ≤ k → arrearslaw1_MoneyExact.j2 (k + 1) l (i : Int) false (rd_T30 l (i : Int)).f0 (rd_T30 l (i : Int)).f1 (rd_T30 l (i : Int)).f2 (rd_T30 l (i : Int)).f3 (rd_T30 l (i : Int)).f4 (rd_T30 l (i : Int)).f5 = some true := by
      intro k hk
      simp only [arrearslaw1_MoneyExact.j2]
      rw [if_neg Bool.false_ne_true, w64 (x := (i : Int) + 1) (by omega) (by omega)]
      exact e2 k hk
    have yes : ∃ K, ∀ k, K ≤ k → (((rd_T30 l (i : Int)).f4.length : Int) ≤ 4096) → arrearslaw1_MoneyExact.j2 (k + 1) l (i : Int) true (rd_T30 l (i : Int)).f0 (rd_T30 l (i : Int)).f1 (rd_T30 l (i : Int)).f2 (rd_T30 l (i : Int)).f3 (rd_T30 l (i : Int)).f4 (rd_T30 l (i : Int)).f5 = some true := by
      by_cases c : ((rd_T30 l (i : Int)).f4.length : Int) ≤ 4096
      · obtain ⟨K3, e3⟩ := Ev_out (kept_ev (rd_T30 l (i : Int)) (i : Int) ho.1 ho.2.2.2.1 (by omega))
        refine ⟨K2 + K3, fun k hk _ => ?_⟩
        simp only [arrearslaw1_MoneyExact.j2]
        rw [if_pos True.intro, e3 k (by omega), Option.bind_some, if_pos rfl, w64 (x := (i : Int) + 1) (by omega) (by omega)]
        exact e2 k (by omega)
      · exact ⟨0, fun k _ g => absurd g c⟩
    obtain ⟨K4, e4⟩ := yes
    refine ⟨K1 + K2 + K4 + 2, fun k hk => ?_⟩
    obtain ⟨k, rfl⟩ : ∃ j, k = j + 2 := ⟨k - 2, by omega⟩
    simp only [arrearslaw1_MoneyExact.l0]
    rw [if_pos (by omega), if_pos (by omega), e1 (k + 1) (by omega), Option.bind_some, if_pos rfl]
    by_cases c5 : (rd_T30 l (i : Int)).f0 = 5
    · rw [if_pos c5]
      by_cases c6 : ((rd_T30 l (i : Int)).f4.length : Int) ≤ 4096
      · rw [decide_eq_true c6]
        exact e4 k (by omega) c6
      · rw [decide_eq_false c6]
        exact no k (by omega)
    · rw [if_neg c5]
      exact no k (by omega)
theorem exact_ev (l : List S30) (hl : l.length ≤ 9223372036854775807) (h : ∀ o ∈ l, OpOk o) : Ev (fun k => arrearslaw1_MoneyExact.f k l) true := by
  obtain ⟨K, e⟩ := Ev_out (exact_l0 l hl h l.length 0 (by omega))
  refine ⟨K + 1, fun k hk => ?_⟩
  obtain ⟨k, rfl⟩ : ∃ j, k = j + 1 := ⟨k - 1, by omega⟩
  simp only [arrearslaw1_MoneyExact.f]
  rw [show money_Add.f 1 2 = some (3, true) by rw [add_eq 1 2 (by unfold I64; decide) (by unfold I64; decide)]; decide, Option.bind_some, if_pos rfl]
  simp only [arrearslaw1_MoneyExact.j0]
  rw [if_neg (by decide)]
  exact e k (by omega)
end Go.Proofs.YtfofcgflamidhaaDoor.XMExact
