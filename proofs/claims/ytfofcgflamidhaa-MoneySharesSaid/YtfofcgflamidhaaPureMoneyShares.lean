/- MoneyShares: no cent is lost, a weight of 0 gets nothing, the greater weight never gets less, equal weights differ by a cent at most with the first ahead (up to 4096 weights). This text is the part over numbers and lists. -/
import Derived.Test.YtfofcgflamidhaaMShare
import Derived.Test.YtfofcgflamidhaaPAllx12
import Derived.Test.YtfofcgflamidhaaPAllx11
namespace Go.Proofs.Ytfofcgflamidhaa.Pure
open Go.RowKit Go.Proofs.Ytfofcgflamidhaa.PAll Go.Proofs.YtfofcgflamidhaaW.PrintWords Go.Proofs.YtfofcgflamidhaaW.PrintLast Go.Proofs.Ytfofcgflamidhaa.MB Go.Proofs.Ytfofcgflamidhaa.MSum Go.Proofs.Ytfofcgflamidhaa.MSplit Go.Proofs.Ytfofcgflamidhaa.MShare
set_option linter.unusedVariables false
set_option linter.unusedSectionVars false

section
variable (P l : List Int) (len : P.length = l.length) (hl : l.length ≤ 4096) (bd : ∀ i, i < l.length → 0 ≤ P.getD i 0 ∧ P.getD i 0 ≤ 9223372036854775807)
  (gt : ∀ i j, i < l.length → j < l.length → l.getD i 0 > l.getD j 0 → P.getD j 0 ≤ P.getD i 0)
  (eq : ∀ i j, i < j → j < l.length → l.getD i 0 = l.getD j 0 → P.getD i 0 = P.getD j 0 ∨ P.getD i 0 = P.getD j 0 + 1)
include len hl bd gt eq
theorem pair_ok (i j : Nat) (hij : i < j) (hj : j < l.length) (h : Ev (fun k => arrearslaw1_fair.l1 k P l (i : Int) ((j + 1 : Nat) : Int)) true) : Ev (fun k => arrearslaw1_fair.l1 k P l (i : Int) (j : Int)) true := by
  have b := bd i (by omega)
  have b2 := bd j hj
  have h2 : Ev (fun k => arrearslaw1_fair.j2 k P l (i : Int) (j : Int) false) true := by
    refine Ev.step (fun k => ?_) h
    simp only [arrearslaw1_fair.j2]
    rw [if_neg (by decide), if_pos (by omega), if_pos (by omega), if_pos (by omega), if_pos (by omega), rd_nat, rd_nat, rd_nat, rd_nat, wi j (by omega)]
    by_cases c : l.getD i 0 = l.getD j 0
    · rw [if_pos c, if_pos (by omega), if_pos (by omega)]
      rcases eq i j hij hj c with z | z
      · rw [if_pos z]
      · rw [if_neg (by omega), w64 (by omega) (by omega), if_pos z]
    · rw [if_neg c]
  refine Ev.step (fun k => ?_) h2
  simp only [arrearslaw1_fair.l1]
  rw [if_pos (by omega), if_pos (by omega), if_pos (by omega), if_pos (by omega), if_pos (by omega), rd_nat, rd_nat, rd_nat, rd_nat]
  by_cases c : l.getD i 0 > l.getD j 0
  · have := gt i j (by omega) hj c
    rw [if_pos c, if_pos (by omega), if_neg (by omega), if_neg (by omega)]
  · rw [if_neg c]
    by_cases c2 : l.getD i 0 < l.getD j 0
    · have := gt j i hj (by omega) c2
      rw [if_pos c2, if_pos (by omega), decide_eq_false (by omega)]
    · rw [if_neg c2]
theorem row_ok (i : Nat) (hi : i < l.length) (h : Ev (fun k => arrearslaw1_fair.l0 k P l ((i + 1 : Nat) : Int)) true) : ∀ (d j : Nat), j + d = l.length → i < j → Ev (fun k => arrearslaw1_fair.l1 k P l (i : Int) (j : Int)) true := by
  intro d
  induction d with
  | zero =>
    intro j hj hij
    refine Ev.step (fun k => ?_) h
    simp only [arrearslaw1_fair.l1]
    rw [if_neg (by omega), wi i (by omega)]
  | succ d ih =>
    intro j hj hij
    exact pair_ok P l len hl bd gt eq i j hij (by omega) (ih (j + 1) (by omega) (by omega))
theorem fair_ok : ∀ (d i : Nat), i + d = l.length → Ev (fun k => arrearslaw1_fair.l0 k P l (i : Int)) true := by
  intro d
  induction d with
  | zero =>
    intro i hi
    refine Ev_one (fun k => ?_)
    simp only [arrearslaw1_fair.l0]
    rw [if_neg (by omega)]
  | succ d ih =>
    intro i hi
    refine Ev.step (fun k => ?_) (row_ok P l len hl bd gt eq i (by omega) (ih (i + 1) (by omega)) d (i + 1) (by omega) (by omega))
    simp only [arrearslaw1_fair.l0]
    rw [if_pos (by omega), wi i (by omega)]
theorem shares_loop (zero : ∀ i, i < l.length → l.getD i 0 = 0 → P.getD i 0 = 0) (tot : P.sum ≤ 9223372036854775807) : ∀ (d i : Nat), i + d = l.length → Ev (fun k => arrearslaw1_MoneyShares.l0 k l P (P.drop i).sum (i : Int)) true := by
  have nn : ∀ x ∈ P, 0 ≤ x := by
    intro x hx
    obtain ⟨i, hi, rfl⟩ := List.getElem_of_mem hx
    have := (bd i (by omega)).1
    rw [List.getD_eq_getElem?_getD, List.getElem?_eq_getElem hi] at this
    exact this
  intro d
  induction d with
  | zero =>
    intro i hi
    obtain ⟨K, h⟩ := Ev_out (fair_ok P l len hl bd gt eq l.length 0 (by omega))
    refine ⟨K + 1, fun k hk => ?_⟩
    obtain ⟨k, rfl⟩ : ∃ m, k = m + 1 := ⟨k - 1, by omega⟩
    simp only [arrearslaw1_MoneyShares.l0]
    rw [if_neg (by omega), List.drop_of_length_le (by omega), if_pos (by simp)]
    unfold arrearslaw1_fair.f
    have := h k (by omega)
    rw [show ((0 : Nat) : Int) = 0 from rfl] at this
    rw [this]
    rfl
  | succ d ih =>
    intro i hi
    have hlt : i < P.length := by omega
    have e : (P.drop i).sum = P.getD i 0 + (P.drop (i + 1)).sum := by
      rw [List.drop_eq_getElem_cons hlt, List.sum_cons, List.getD_eq_getElem?_getD, List.getElem?_eq_getElem hlt]
      rfl
    have r0 : 0 ≤ (P.drop (i + 1)).sum := sum_nonneg _ (fun x hx => nn x (List.mem_of_mem_drop hx))
    have r1 : (P.take i).sum + (P.drop i).sum = P.sum := by rw [← List.sum_append, List.take_append_drop]
    have r2 : 0 ≤ (P.take i).sum := sum_nonneg _ (fun x hx => nn x (List.mem_of_mem_take hx))
    have b := bd i (by omega)
    have z := zero i (by omega)
    refine Ev.step (fun k => ?_) (ih (i + 1) (by omega))
    simp only [arrearslaw1_MoneyShares.l0]
    rw [if_pos (by omega), if_pos (by omega), rd_nat, rd_nat, if_neg (by omega), if_neg (by omega), if_pos (by omega), wi i (by omega), w64 (x := (P.drop i).sum - P.getD i 0) (by omega) (by omega), show (P.drop i).sum - P.getD i 0 = (P.drop (i + 1)).sum by omega]
    by_cases c : l.getD i 0 = 0
    · rw [if_pos c, if_pos (z c)]
    · rw [if_neg c]
end
theorem MoneyShares : arrearslaw1_MoneyShares.Pure := by
  intro a l ha _ _ hw
  replace hw : ∀ x ∈ l, I64 x := fun x hx => I64.of (hw x hx)
  replace ha := I64.of ha
  have ha' := ha
  unfold I64 at ha'
  have one_w : (∀ x ∈ ([1] : List Int), 0 ≤ x) := by intro x hx; simp at hx; omega
  have tail : Ev (fun k => arrearslaw1_MoneyShares.j0 k a l false) true := by
    by_cases c : (l.length : Int) > 4096
    · refine Ev_one (fun k => ?_)
      simp only [arrearslaw1_MoneyShares.j0]
      rw [if_neg (by decide), if_pos c]
    · have hl : l.length ≤ 4096 := by omega
      obtain ⟨K1, h1⟩ := Ev_out (copied_ev l (by omega))
      obtain ⟨K2, h2⟩ := Ev_out (split_ev a l ha hw (by omega))
      unfold splitSpec at h2
      by_cases g : (wspec a l).2 = true
      · obtain ⟨p1, p2, p3, p4, p5, p6, p7⟩ := wspec_ok g
        rw [if_pos g, p4] at h2
        obtain ⟨R, inv, tot⟩ := parts_ok a l.sum l p1 ha'.2 rfl p5 p7
        obtain ⟨f1, f2, f3⟩ := part_facts a l.sum l p1 ha'.2 rfl p5 p7 _ _ R inv
        generalize (bumps (left0 a l.sum l).toNat (l.map (qf a l.sum), l.map (rf a l.sum))).1 = P at h2 inv tot f1 f2 f3
        have len := inv.lenP
        have nn : ∀ x ∈ P, 0 ≤ x := by
          intro x hx
          obtain ⟨i, hi, rfl⟩ := List.getElem_of_mem hx
          have := (f1 i (by omega)).1
          rw [List.getD_eq_getElem?_getD, List.getElem?_eq_getElem hi] at this
          exact this
        have bd : ∀ i, i < l.length → 0 ≤ P.getD i 0 ∧ P.getD i 0 ≤ 9223372036854775807 := fun i hi => by
          have := mem_le_sum P nn _ (rd_mem (show i < P.length by omega))
          exact ⟨(f1 i hi).1, by omega⟩
        obtain ⟨K3, h3⟩ := Ev_out (shares_loop P l len hl bd f2 f3 (fun i hi => (f1 i hi).2.2) (by omega) l.length 0 (by omega))
        rw [List.drop_zero, tot] at h3
        refine ⟨K1 + K2 + K3 + 1, fun k hk => ?_⟩
        obtain ⟨k, rfl⟩ : ∃ m, k = m + 1 := ⟨k - 1, by omega⟩
        simp only [arrearslaw1_MoneyShares.j0]
        rw [if_neg (by decide), if_neg c, h1 k (by omega), Option.bind_some, h2 k (by omega), Option.bind_some, if_pos rfl, if_pos (by show (P.length : Int) = _; rw [len])]
        exact h3 k (by omega)
      · rw [if_neg g] at h2
        refine ⟨K1 + K2 + 1, fun k hk => ?_⟩
        obtain ⟨k, rfl⟩ : ∃ m, k = m + 1 := ⟨k - 1, by omega⟩
        simp only [arrearslaw1_MoneyShares.j0]
        rw [if_neg (by decide), if_neg c, h1 k (by omega), Option.bind_some, h2 k (by omega), Option.bind_some, if_neg Bool.false_ne_true]
        rfl
  obtain ⟨K0, h0⟩ := Ev_out tail
  obtain ⟨K1, h1⟩ := Ev_out (split_ev a [1] ha (by intro x hx; simp at hx; unfold I64; omega) (by decide))
  refine ⟨K0 + K1, ?_⟩
  simp only [arrearslaw1_MoneyShares.f]
  rw [h1 _ (by omega)]
  unfold splitSpec
  by_cases g : 0 ≤ a
  · have ws : wspec a [1] = (1, true) := by
      unfold wspec
      rw [if_neg (by simp; omega)]
      decide
    rw [ws, if_pos rfl]
    obtain ⟨R, inv, tot⟩ := parts_ok a 1 [1] g ha'.2 rfl (by omega) one_w
    have l1 := inv.lenP
    generalize (bumps (left0 a 1 [1]).toNat (([1] : List Int).map (qf a 1), ([1] : List Int).map (rf a 1))).1 = P at inv tot l1 ⊢
    obtain ⟨p, rfl⟩ : ∃ p, P = [p] := by
      match P, l1 with
      | [p], _ => exact ⟨p, rfl⟩
    have hp : p = a := by simpa using tot
    simp only [Option.bind_some, if_true]
    rw [if_pos (by omega), if_pos (by simp), if_pos (by simp), if_pos (by rw [show rd [p] 0 = p from rfl, hp]), if_neg (by omega)]
    exact h0 _ (by omega)
  · have ws : wspec a [1] = (0, false) := by
      unfold wspec
      rw [if_pos (.inl (by omega))]
    rw [ws, if_neg Bool.false_ne_true]
    simp only [Option.bind_some]
    rw [if_neg (by omega), if_pos (by omega)]
    exact h0 _ (by omega)

end Go.Proofs.Ytfofcgflamidhaa.Pure
