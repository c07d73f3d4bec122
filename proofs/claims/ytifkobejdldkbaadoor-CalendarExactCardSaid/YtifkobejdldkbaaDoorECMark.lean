/- The holidays with marks behind them, and Adjusts at any list. Plain Lean over the printed functions. -/
import Derived.Test.YtifkobejdldkbaaDoorECAdj
import Derived.Test.YtifkobejdldkbaaDoorPEx5
import Derived.Test.YtifkobejdldkbaaDoorPEx9
import Derived.Test.YtifkobejdldkbaaDoorPEx10
namespace Go.Proofs.YtifkobejdldkbaaDoor.ECMark
open Go.RowKit Go.Proofs.YtifkobejdldkbaaDoor.PE Go.Proofs.YtifkobejdldkbaaDoorW.PrintWords Go.Proofs.YtifkobejdldkbaaDoorW.PrintLast Go.Proofs.YtifkobejdldkbaaDoorW.PrintMore Go.Proofs.YtifkobejdldkbaaDoor.EMB Go.Proofs.YtifkobejdldkbaaDoor.ECDate Go.Proofs.YtifkobejdldkbaaDoor.ECDay Go.Proofs.YtifkobejdldkbaaDoor.ECAdj
set_option linter.unusedVariables false
set_option linter.unusedSectionVars false
set_option linter.unusedSimpArgs false

def marks : List Int := [-71, -72, -73]
theorem marked_l0 (l : List Int) (hl : l.length ≤ 4096) : ∀ d i : Nat, i + d = l.length → Ev (fun k => arrearslaw2_marked.l0 k l (l.take i) (i : Int)) (l ++ marks) := by
  intro d
  induction d with
  | zero =>
    intro i hi
    refine Ev_one fun k => ?_
    simp only [arrearslaw2_marked.l0]
    rw [if_neg (by omega), Option.bind_some, List.take_of_length_le (by omega), if_pos (by simp; omega)]
    rfl
  | succ d ih =>
    intro i hi
    refine Ev.step (fun k => ?_) (ih (i + 1) (by omega))
    simp only [arrearslaw2_marked.l0]
    rw [if_pos (by omega), if_pos (by omega), if_pos (by rw [List.length_take]; omega), wi i (by omega), take_next (by omega), rd_nat]
theorem marked_ev (l : List Int) (hl : l.length ≤ 4096) : Ev (fun k => arrearslaw2_marked.f k l) (l ++ marks) := by
  have := marked_l0 l hl l.length 0 (by omega)
  rw [List.take_zero] at this
  exact this
theorem rd_app (l m : List Int) (i : Nat) (h : i < l.length) : rd (l ++ m) (i : Int) = rd l (i : Int) := by
  rw [rd_nat, rd_nat, List.getD_eq_getElem?_getD, List.getD_eq_getElem?_getD, List.getElem?_append_left h]
theorem rd_app2 (l m : List Int) (i : Nat) : rd (l ++ m) ((l.length + i : Nat) : Int) = m.getD i 0 := by
  rw [rd_nat, List.getD_eq_getElem?_getD, List.getD_eq_getElem?_getD, List.getElem?_append_right (by omega)]
  congr 2
  omega
theorem still_l0 (l : List Int) (hl : l.length ≤ 4096) : ∀ d i : Nat, i + d = l.length → Ev (fun k => arrearslaw2_still.l0 k (l ++ marks) l (l.length : Int) (i : Int)) true := by
  intro d
  induction d with
  | zero =>
    intro i hi
    refine Ev_one fun k => ?_
    simp only [arrearslaw2_still.l0]
    rw [if_neg (by omega)]
  | succ d ih =>
    intro i hi
    refine Ev.step (fun k => ?_) (ih (i + 1) (by omega))
    simp only [arrearslaw2_still.l0]
    rw [if_pos (by omega), if_pos (by omega), if_pos (by rw [List.length_append]; omega), if_pos (by omega), rd_app l marks i (by omega), if_pos rfl, wi i (by omega)]
theorem still_ev (l : List Int) (hl : l.length ≤ 4096) : Ev (fun k => arrearslaw2_still.f k (l ++ marks) l) true := by
  obtain ⟨K, e⟩ := Ev_out (still_l0 l hl l.length 0 (by omega))
  have hlen : (l ++ marks).length = l.length + 3 := by rw [List.length_append]; rfl
  have r0 := rd_app2 l marks 0
  have r1 := rd_app2 l marks 1
  have r2 := rd_app2 l marks 2
  rw [show ((l.length + 0 : Nat) : Int) = (l.length : Int) by omega] at r0
  rw [show ((l.length + 1 : Nat) : Int) = (l.length : Int) + 1 by omega] at r1
  rw [show ((l.length + 2 : Nat) : Int) = (l.length : Int) + 2 by omega] at r2
  rw [show marks.getD 0 0 = (-71 : Int) from rfl] at r0
  rw [show marks.getD 1 0 = (-72 : Int) from rfl] at r1
  rw [show marks.getD 2 0 = (-73 : Int) from rfl] at r2
  refine ⟨K + 1, fun k hk => ?_⟩
  obtain ⟨k, rfl⟩ : ∃ j, k = j + 1 := ⟨k - 1, by omega⟩
  simp only [arrearslaw2_still.f]
  rw [hlen, w64 (x := (l.length : Int) + 3) (by omega) (by omega), w64 (x := (l.length : Int) + 1) (by omega) (by omega), w64 (x := (l.length : Int) + 2) (by omega) (by omega), r0, r1, r2,
    if_pos (by omega), if_pos (by omega), if_pos (by omega), if_pos rfl, if_pos (by omega), if_pos (by omega), if_pos rfl, if_pos (by omega), if_pos (by omega)]
  rw [bne_self_eq_false]
  simp only [arrearslaw2_still.j0]
  rw [if_neg Bool.false_ne_true]
  exact e k (by omega)
theorem take_marks (l : List Int) : (l ++ marks).take ((l.length : Int) : Int).toNat = l := by
  rw [Int.toNat_natCast, List.take_left]
theorem ca_l0 (a : Int) (l : List Int) (r : Int) (hl : l.length ≤ 4096) : ∀ d i : Nat, i + d = l.length → ∀ p : List Int, p.length = i →
    Ev (fun k => arrearslaw2_CalendarAdjusts.l0 k a l r (p ++ (l ++ marks).drop i) p (i : Int)) true := by
  intro d
  induction d with
  | zero =>
    intro i hi p hp
    have hd : (l ++ marks).drop i = marks := by rw [show i = l.length by omega, List.drop_left]
    have hp' : p.length = l.length := by omega
    rw [hd]
    have hpl : p.length ≤ 4096 := by omega
    obtain ⟨K1, e1⟩ := Ev_out (business_ev a p (by omega))
    obtain ⟨K2, e2⟩ := Ev_out (refBusiness_ev a p (by omega))
    obtain ⟨K3, e3⟩ := Ev_out (adjust_ev a p r (by omega))
    obtain ⟨K4, e4⟩ := Ev_out (refAdjust_ev a p r (by omega))
    obtain ⟨K5, e5⟩ := Ev_out (still_ev p hpl)
    have ht := take_marks p
    have hlen : (p ++ marks).length = l.length + 3 := by rw [List.length_append, hp']; rfl
    refine ⟨K1 + K2 + K3 + K4 + K5 + 1, fun k hk => ?_⟩
    obtain ⟨k, rfl⟩ : ∃ j, k = j + 1 := ⟨k - 1, by omega⟩
    simp only [arrearslaw2_CalendarAdjusts.l0]
    rw [if_neg (by omega), if_pos (by omega), if_pos (by rw [hlen]; omega), ← hp', ht, e1 k (by omega), Option.bind_some, e2 k (by omega), Option.bind_some, bne_self_eq_false, if_neg Bool.false_ne_true,
      e3 k (by omega), Option.bind_some, e4 k (by omega), Option.bind_some, if_pos rfl, beq_self_eq_true, if_pos rfl, e5 k (by omega), Option.bind_some]
  | succ d ih =>
    intro i hi p hp
    have hlen : (p ++ (l ++ marks).drop i).length = l.length + 3 := by
      rw [List.length_append, List.length_drop, List.length_append, hp]
      have : marks.length = 3 := rfl
      omega
    have hc : (l ++ marks).drop i = (l ++ marks).getD i 0 :: (l ++ marks).drop (i + 1) := by
      have hi2 : i < (l ++ marks).length := by rw [List.length_append]; omega
      rw [List.drop_eq_getElem_cons hi2, List.getD_eq_getElem?_getD, List.getElem?_eq_getElem hi2]
      rfl
    generalize hx : wrap64 (Go.bits .and .i64 a 16777215 + (i : Int)) = x
    have hset : (p ++ (l ++ marks).drop i).set ((i : Int) : Int).toNat x = (p ++ [x]) ++ (l ++ marks).drop (i + 1) := by
      rw [hc, Int.toNat_natCast, List.set_append_right _ _ (by omega), hp, Nat.sub_self, List.set_cons_zero, List.append_assoc]
      rfl
    have hrd : rd ((p ++ [x]) ++ (l ++ marks).drop (i + 1)) (i : Int) = x := by
      rw [rd_nat, List.getD_eq_getElem?_getD, List.getElem?_append_left (by simp; omega), List.getElem?_append_right (by omega), hp, Nat.sub_self]
      rfl
    refine Ev.step (fun k => ?_) (ih (i + 1) (by omega) (p ++ [x]) (by simp; omega))
    simp only [arrearslaw2_CalendarAdjusts.l0]
    rw [if_pos (by omega), if_pos (by omega), if_pos (by rw [hlen]; omega), hx, hset, Option.bind_some, if_pos (by omega), hrd, wi i (by omega)]
theorem adjusts_ev (a : Int) (l : List Int) (r : Int) : Ev (fun k => arrearslaw2_CalendarAdjusts.f k a l r) true := by
  by_cases c : (l.length : Int) > 4096
  · refine ⟨0, fun k hk => ?_⟩
    simp only [arrearslaw2_CalendarAdjusts.f]
    rw [if_pos c]
  · have hpl : l.length ≤ 4096 := by omega
    obtain ⟨K0, e0⟩ := Ev_out (marked_ev l hpl)
    obtain ⟨K1, e1⟩ := Ev_out (business_ev a l (by omega))
    obtain ⟨K2, e2⟩ := Ev_out (refBusiness_ev a l (by omega))
    obtain ⟨K3, e3⟩ := Ev_out (adjust_ev a l r (by omega))
    obtain ⟨K4, e4⟩ := Ev_out (refAdjust_ev a l r (by omega))
    obtain ⟨K5, e5⟩ := Ev_out (still_ev l hpl)
    obtain ⟨K6, e6⟩ := Ev_out (ca_l0 a l r hpl l.length 0 (by omega) [] rfl)
    have ht := take_marks l
    have hlen : (l ++ marks).length = l.length + 3 := by rw [List.length_append]; rfl
    refine ⟨K0 + K1 + K2 + K3 + K4 + K5 + K6 + 1, fun k hk => ?_⟩
    obtain ⟨k, rfl⟩ : ∃ j, k = j + 1 := ⟨k - 1, by omega⟩
    simp only [arrearslaw2_CalendarAdjusts.f]
    rw [if_neg c, e0 _ (by omega), Option.bind_some, if_pos (by omega), if_pos (by rw [hlen]; omega), ht, e1 _ (by omega), Option.bind_some, e2 _ (by omega), Option.bind_some, bne_self_eq_false, if_neg Bool.false_ne_true,
      e3 _ (by omega), Option.bind_some, e4 _ (by omega), Option.bind_some, if_pos rfl, bne_self_eq_false, if_neg Bool.false_ne_true, e5 _ (by omega), Option.bind_some]
    simp only [arrearslaw2_CalendarAdjusts.j0, Bool.not_true]
    rw [if_neg Bool.false_ne_true]
    exact e6 _ (by omega)

end Go.Proofs.YtifkobejdldkbaaDoor.ECMark
