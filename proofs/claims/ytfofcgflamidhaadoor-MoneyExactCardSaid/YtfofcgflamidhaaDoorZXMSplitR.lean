/- The document's Split answers what the program's is shown to. Plain Lean over the printed functions. -/
import Derived.Test.YtfofcgflamidhaaDoorZXMSplit
import Derived.Test.YtfofcgflamidhaaDoorZXMRef2
import Derived.Test.YtfofcgflamidhaaDoorZPXx9
import Derived.Test.YtfofcgflamidhaaDoorZPXx10
namespace Go.Proofs.YtfofcgflamidhaaDoor.XMSplitR
open Go.RowKit Go.Proofs.YtfofcgflamidhaaDoor.PX Go.Proofs.YtfofcgflamidhaaDoorW.PrintWords Go.Proofs.YtfofcgflamidhaaDoorW.PrintLast Go.Proofs.YtfofcgflamidhaaDoorW.PrintMore Go.Proofs.YtfofcgflamidhaaDoor.XMB Go.Proofs.YtfofcgflamidhaaDoor.XMSum Go.Proofs.YtfofcgflamidhaaDoor.XMMul Go.Proofs.YtfofcgflamidhaaDoor.XMRef2 Go.Proofs.YtfofcgflamidhaaDoor.XMSplit
set_option linter.unusedVariables false
set_option linter.unusedSectionVars false
set_option linter.unusedSimpArgs false

section
variable (l : List Int) (hl : l.length ≤ 1048576) (hw : ∀ x ∈ l, I64 x)
include hl hw
theorem whole_loop : ∀ (d i : Nat), i + d = l.length → (l.take i).any (fun x => decide (x < 0)) = false → Ev (fun k => arrearsref1_whole.l0 k l (i : Int)) (tspec l) := by
  intro d
  induction d with
  | zero =>
    intro i hi h0
    obtain ⟨K, h⟩ := Ev_out (refSum_ev l (by omega) hw)
    rw [List.take_of_length_le (by omega)] at h0
    refine ⟨K + 1, fun k hk => ?_⟩
    obtain ⟨k, rfl⟩ : ∃ m, k = m + 1 := ⟨k - 1, by omega⟩
    simp only [arrearsref1_whole.l0]
    rw [if_neg (by omega), h k (by omega), Option.bind_some]
    unfold tspec
    rw [if_neg (c := l.any (fun x => decide (x < 0)) = true) (by rw [h0]; exact Bool.false_ne_true)]
    by_cases g : (fits l.sum).2 = true
    · rw [if_pos g, if_pos g]
    · rw [if_neg g, if_neg g]
  | succ d ih =>
    intro i hi h0
    have hlt : i < l.length := by omega
    by_cases c : l.getD i 0 < 0
    · refine Ev_one (fun k => ?_)
      simp only [arrearsref1_whole.l0]
      rw [if_pos (by omega), if_pos (by omega), rd_nat, if_pos c]
      unfold tspec
      rw [if_pos (c := l.any (fun x => decide (x < 0)) = true) (any_now hlt c)]
    · refine Ev.step (fun k => ?_) (ih (i + 1) (by omega) (any_next hlt h0 c))
      simp only [arrearsref1_whole.l0]
      rw [if_pos (by omega), if_pos (by omega), rd_nat, if_neg c, wi i (by omega)]
theorem whole_ev (a : Int) : Ev (fun k => arrearsref1_whole.f k a l) (wspec a l) := by
  have no : Ev (fun k => arrearsref1_whole.j0 k l true) ((0 : Int), false) := Ev_one (fun k => by simp only [arrearsref1_whole.j0]; rw [if_pos True.intro])
  unfold wspec
  by_cases c1 : a < 0
  · rw [if_pos (.inl c1)]
    exact Ev.congr (fun k => by simp only [arrearsref1_whole.f]; rw [if_pos c1]) no
  · by_cases c2 : (l.length : Int) = 0
    · rw [if_pos (by omega)]
      exact Ev.congr (fun k => by simp only [arrearsref1_whole.f]; rw [if_neg c1, if_pos c2]) no
    · by_cases c3 : (l.length : Int) > 1000
      · rw [if_pos (by omega)]
        exact Ev.congr (fun k => by simp only [arrearsref1_whole.f]; rw [if_neg c1, if_neg c2, decide_eq_true c3]) no
      · rw [if_neg (by omega)]
        have h := whole_loop l hl hw l.length 0 (by omega) rfl
        refine Ev.congr (f := fun k => arrearsref1_whole.j0 k l false) (fun k => by simp only [arrearsref1_whole.f]; rw [if_neg c1, if_neg c2, decide_eq_false c3]) (Ev.step (fun k => ?_) h)
        simp only [arrearsref1_whole.j0]
        rw [if_neg (by decide)]
        rfl
end
section
variable (n : Nat) (hn : 1 ≤ n) (hn1 : n ≤ 1048576)
include hn hn1
theorem ref_scan (P R : List Int) (hP : P.length = n) (hR : R.length = n) (left c : Int) (res : List Int × Bool) : ∀ (d i b : Nat), i + d = n → b < n →
    Ev (fun k => arrearsref1_Split.l1 k (P.set (bestL R d b i) (wrap64 (P.getD (bestL R d b i) 0 + 1))) (R.set (bestL R d b i) (-1)) left (wrap64 (c + 1))) res → Ev (fun k => arrearsref1_Split.l2 k P R left c (b : Int) (i : Int)) res := by
  intro d
  induction d with
  | zero =>
    intro i b hi hb h
    refine Ev.step (fun k => ?_) h
    simp only [arrearsref1_Split.l2, bestL]
    rw [if_neg (by omega), if_pos (by omega), if_pos (by omega), if_pos (by omega), rd_nat, Int.toNat_natCast]
  | succ d ih =>
    intro i b hi hb h
    by_cases g : R.getD i 0 > R.getD b 0
    · have e : bestL R (d + 1) b i = bestL R d i (i + 1) := by rw [bestL, if_pos g]
      rw [e] at h
      refine Ev.step (fun k => ?_) (ih (i + 1) i (by omega) (by omega) h)
      simp only [arrearsref1_Split.l2]
      rw [if_pos (by omega), if_pos (by omega), if_pos (by omega), if_pos (by omega), rd_nat, rd_nat, if_pos g, wi i (by omega)]
    · have e : bestL R (d + 1) b i = bestL R d b (i + 1) := by rw [bestL, if_neg g]
      rw [e] at h
      refine Ev.step (fun k => ?_) (ih (i + 1) b (by omega) hb h)
      simp only [arrearsref1_Split.l2]
      rw [if_pos (by omega), if_pos (by omega), if_pos (by omega), if_pos (by omega), rd_nat, rd_nat, if_neg g, wi i (by omega)]
theorem ref_bumps_ev : ∀ (m : Nat) (P R : List Int) (left c : Int), P.length = n → R.length = n → I64 left → 0 ≤ c → (left - c).toNat = m → Ev (fun k => arrearsref1_Split.l1 k P R left c) ((bumps m (P, R)).1, true) := by
  intro m
  induction m with
  | zero =>
    intro P R left c hP hR hl hc hm
    refine Ev_one (fun k => ?_)
    simp only [arrearsref1_Split.l1]
    rw [if_neg (by omega)]
    rfl
  | succ m ih =>
    intro P R left c hP hR hl hc hm
    have hl' := hl
    unfold I64 at hl
    have ec : wrap64 (c + 1) = c + 1 := w64 (by omega) (by omega)
    have h := ih (P.set (best R) (wrap64 (P.getD (best R) 0 + 1))) (R.set (best R) (-1)) left (wrap64 (c + 1)) (by rw [List.length_set, hP]) (by rw [List.length_set, hR]) hl' (by rw [ec]; omega) (by rw [ec]; omega)
    have e0 : bestL R (n - 1) 0 1 = best R := by unfold best; rw [hR]
    refine Ev.step (fun k => ?_) (ref_scan n hn hn1 P R hP hR left c _ (n - 1) 1 0 (by omega) (by omega) (by rw [e0]; exact h))
    simp only [arrearsref1_Split.l1]
    rw [if_pos (by omega)]
    rfl
end
section
variable (a W : Int) (l : List Int) (ha : I64 a) (hW : I64 W) (hw : ∀ x ∈ l, I64 x) (hl0 : 1 ≤ l.length) (hl : l.length ≤ 1048576)
include ha hW hw hl0 hl
theorem ref_fill : ∀ (d i : Nat), i + d = l.length → Ev (fun k => arrearsref1_Split.l0 k a l W ((l.take i).map (qf a W)) ((l.take i).map (rf a W)) (left0 a W (l.take i)) (i : Int)) ((bumps (left0 a W l).toNat (l.map (qf a W), l.map (rf a W))).1, true) := by
  intro d
  induction d with
  | zero =>
    intro i hi
    have h := ref_bumps_ev l.length hl0 hl (left0 a W l).toNat (l.map (qf a W)) (l.map (rf a W)) (left0 a W l) 0 (List.length_map _) (List.length_map _) (left_I64 a W l ha) (Int.le_refl _) (by rw [Int.sub_zero])
    refine Ev.step (fun k => ?_) h
    simp only [arrearsref1_Split.l0]
    rw [if_neg (by omega), List.take_of_length_le (by omega)]
  | succ d ih =>
    intro i hi
    have hlt : i < l.length := by omega
    obtain ⟨K1, h1⟩ := Ev_out (ref_floor_ev a (l.getD i 0) W ha (hw _ (rd_mem hlt)) hW)
    obtain ⟨K2, h2⟩ := Ev_out (ih (i + 1) (by omega))
    have hq : (mfloor a (l.getD i 0) W).1 = qf a W (l.getD i 0) := rfl
    have hr : (mfloor a (l.getD i 0) W).2.1 = rf a W (l.getD i 0) := rfl
    have mp : ∀ f : Int → Int, (l.take (i + 1)).map f = (l.take i).map f ++ [f (l.getD i 0)] := fun f => by rw [take_next hlt, List.map_append]; rfl
    refine ⟨K1 + K2 + 1, fun k hk => ?_⟩
    obtain ⟨k, rfl⟩ : ∃ m, k = m + 1 := ⟨k - 1, by omega⟩
    simp only [arrearsref1_Split.l0]
    rw [if_pos (by omega), if_pos (by omega), rd_nat, h1 k (by omega), Option.bind_some, if_pos (by rw [List.length_map, List.length_take]; omega), if_pos (by rw [List.length_map, List.length_take]; omega), hq, hr, ← mp, ← mp, ← left_next a W l i hlt, wi i (by omega)]
    exact h2 k (by omega)
end
theorem ref_split_ev (a : Int) (l : List Int) (ha : I64 a) (hw : ∀ x ∈ l, I64 x) (hl : l.length ≤ 1048576) : Ev (fun k => arrearsref1_Split.f k a l) (splitSpec a l) := by
  obtain ⟨K1, h1⟩ := Ev_out (whole_ev l hl hw a)
  unfold splitSpec
  by_cases c : (wspec a l).2 = true
  · obtain ⟨p1, p2, p3, p4, p5, p6, p7⟩ := wspec_ok c
    rw [if_pos c]
    obtain ⟨K2, h2⟩ := Ev_out (ref_fill a (wspec a l).1 l ha (by rw [p4]; exact p6) hw p2 hl l.length 0 (by omega))
    refine ⟨K1 + K2, fun k hk => ?_⟩
    simp only [arrearsref1_Split.f]
    rw [h1 k (by omega), Option.bind_some, if_pos c]
    exact h2 k (by omega)
  · rw [if_neg c]
    refine ⟨K1, fun k hk => ?_⟩
    simp only [arrearsref1_Split.f]
    rw [h1 k (by omega), Option.bind_some, if_neg c]

end Go.Proofs.YtfofcgflamidhaaDoor.XMSplitR
