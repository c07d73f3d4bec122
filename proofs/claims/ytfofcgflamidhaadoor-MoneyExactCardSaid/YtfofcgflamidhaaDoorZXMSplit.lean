/- Split, by the program and by the document, as one plain function on lists: each weight's whole share and rest, and then a cent at a time to the first of the greatest rests. Plain Lean over the printed functions. -/
import Derived.Test.YtfofcgflamidhaaDoorZXMSum
import Derived.Test.YtfofcgflamidhaaDoorZXMMul
import Derived.Test.YtfofcgflamidhaaDoorZPXx8
import Derived.Test.YtfofcgflamidhaaDoorZPXx9
namespace Go.Proofs.YtfofcgflamidhaaDoor.XMSplit
open Go.RowKit Go.Proofs.YtfofcgflamidhaaDoor.PX Go.Proofs.YtfofcgflamidhaaDoorW.PrintWords Go.Proofs.YtfofcgflamidhaaDoorW.PrintLast Go.Proofs.YtfofcgflamidhaaDoorW.PrintMore Go.Proofs.YtfofcgflamidhaaDoor.XMB Go.Proofs.YtfofcgflamidhaaDoor.XMSum Go.Proofs.YtfofcgflamidhaaDoor.XMMul
set_option linter.unusedVariables false
set_option linter.unusedSectionVars false
set_option linter.unusedSimpArgs false

/-- The weights' sum, if none is below 0 and it fits; and whether it is above 0. -/
def tspec (l : List Int) : Int × Bool := if l.any (fun x => decide (x < 0)) = true then (0, false) else if (fits l.sum).2 = true then ((fits l.sum).1, decide ((fits l.sum).1 > 0)) else ((fits l.sum).1, false)
def wspec (a : Int) (l : List Int) : Int × Bool := if a < 0 ∨ l.length < 1 ∨ l.length > 1000 then (0, false) else tspec l
theorem any_next {l : List Int} {i : Nat} (h : i < l.length) (h0 : (l.take i).any (fun x => decide (x < 0)) = false) (hx : ¬ l.getD i 0 < 0) : (l.take (i + 1)).any (fun x => decide (x < 0)) = false := by
  rw [take_next h, List.any_append, h0]
  simpa using hx
theorem any_now {l : List Int} {i : Nat} (h : i < l.length) (hx : l.getD i 0 < 0) : l.any (fun x => decide (x < 0)) = true := by
  rw [List.any_eq_true]
  exact ⟨_, rd_mem h, decide_eq_true hx⟩
section
variable (l : List Int) (hl : l.length ≤ 1048576) (hw : ∀ x ∈ l, I64 x)
include hl hw
theorem weighed_loop : ∀ (d i : Nat), i + d = l.length → (l.take i).any (fun x => decide (x < 0)) = false → Ev (fun k => money_weighed.l0 k l l (l.length : Int) (i : Int)) (tspec l) := by
  intro d
  induction d with
  | zero =>
    intro i hi h0
    obtain ⟨K, h⟩ := Ev_out (sum_ev l (by omega) hw)
    rw [List.take_of_length_le (by omega)] at h0
    refine ⟨K + 1, fun k hk => ?_⟩
    obtain ⟨k, rfl⟩ : ∃ m, k = m + 1 := ⟨k - 1, by omega⟩
    simp only [money_weighed.l0]
    rw [if_neg (by omega), h k (by omega), Option.bind_some]
    unfold tspec
    rw [if_neg (c := l.any (fun x => decide (x < 0)) = true) (by rw [h0]; exact Bool.false_ne_true)]
    by_cases g : (fits l.sum).2 = true
    · rw [if_pos g, if_pos g]
    · rw [if_neg g, if_neg g]
  | succ d ih =>
    intro i hi h0
    have hlt : i < l.length := by omega
    by_cases c : l.getD i 0 < 0
    · refine Ev_one (fun k => ?_)
      simp only [money_weighed.l0]
      rw [if_pos (by omega), if_pos (by omega), if_pos (by omega), rd_nat, if_pos c]
      unfold tspec
      rw [if_pos (c := l.any (fun x => decide (x < 0)) = true) (any_now hlt c)]
    · refine Ev.step (fun k => ?_) (ih (i + 1) (by omega) (any_next hlt h0 c))
      simp only [money_weighed.l0]
      rw [if_pos (by omega), if_pos (by omega), if_pos (by omega), rd_nat, if_neg c, wi i (by omega)]
theorem weighed_ev (a : Int) : Ev (fun k => money_weighed.f k a l) (wspec a l) := by
  have no : Ev (fun k => money_weighed.j0 k l true) ((0 : Int), false) := Ev_one (fun k => by simp only [money_weighed.j0]; rw [if_pos True.intro])
  unfold wspec
  by_cases c1 : a < 0
  · rw [if_pos (.inl c1)]
    exact Ev.congr (fun k => by simp only [money_weighed.f]; rw [if_pos c1]) no
  · by_cases c2 : (l.length : Int) < 1
    · rw [if_pos (by omega)]
      exact Ev.congr (fun k => by simp only [money_weighed.f]; rw [if_neg c1, if_pos c2]) no
    · by_cases c3 : (l.length : Int) > 1000
      · rw [if_pos (by omega)]
        exact Ev.congr (fun k => by simp only [money_weighed.f]; rw [if_neg c1, if_neg c2, decide_eq_true c3]) no
      · rw [if_neg (by omega)]
        have h := weighed_loop l hl hw l.length 0 (by omega) rfl
        refine Ev.congr (f := fun k => money_weighed.j0 k l false) (fun k => by simp only [money_weighed.f]; rw [if_neg c1, if_neg c2, decide_eq_false c3]) (Ev.step (fun k => ?_) h)
        simp only [money_weighed.j0]
        rw [if_neg (by decide)]
        rfl
end

/-- The first of the greatest rests, from place i on, d places more, b being the best so far. -/
def bestL (R : List Int) : Nat → Nat → Nat → Nat
  | 0, b, _ => b
  | d + 1, b, i => if R.getD i 0 > R.getD b 0 then bestL R d i (i + 1) else bestL R d b (i + 1)
def best (R : List Int) : Nat := bestL R (R.length - 1) 0 1
def bump (s : List Int × List Int) : List Int × List Int := (s.1.set (best s.2) (wrap64 (s.1.getD (best s.2) 0 + 1)), s.2.set (best s.2) (-1))
def bumps : Nat → List Int × List Int → List Int × List Int
  | 0, s => s
  | n + 1, s => bumps n (bump s)
def qf (a W w : Int) : Int := (mfloor a w W).1
def rf (a W w : Int) : Int := (mfloor a w W).2.1
def left0 (a W : Int) (l : List Int) : Int := l.foldl (fun acc w => wrap64 (acc - qf a W w)) a
def splitSpec (a : Int) (l : List Int) : List Int × Bool := if (wspec a l).2 = true then ((bumps (left0 a (wspec a l).1 l).toNat (l.map (qf a (wspec a l).1), l.map (rf a (wspec a l).1))).1, true) else ([], false)
theorem bestL_lt (R : List Int) : ∀ d b i, b < R.length → i + d ≤ R.length → bestL R d b i < R.length
  | 0, _, _, h, _ => h
  | d + 1, b, i, h, h2 => by
    unfold bestL
    split
    · exact bestL_lt R d i (i + 1) (by omega) (by omega)
    · exact bestL_lt R d b (i + 1) h (by omega)
theorem best_lt (R : List Int) (h : 1 ≤ R.length) : best R < R.length := bestL_lt R _ 0 1 (by omega) (by omega)
theorem set_next (f : Int → Int) (l : List Int) (i d : Nat) (hi : i + (d + 1) = l.length) : ((l.take i).map f ++ List.replicate (d + 1) 0).set i (f (l.getD i 0)) = (l.take (i + 1)).map f ++ List.replicate d 0 := by
  have e : ((l.take i).map f).length = i := by rw [List.length_map, List.length_take]; omega
  rw [List.set_append_right _ _ (by omega), e, Nat.sub_self, List.replicate_succ, List.set_cons_zero, take_next (by omega), List.map_append, List.append_assoc]
  rfl
theorem left_next (a W : Int) (l : List Int) (i : Nat) (h : i < l.length) : left0 a W (l.take (i + 1)) = wrap64 (left0 a W (l.take i) - qf a W (l.getD i 0)) := by
  unfold left0
  rw [take_next h, List.foldl_append]
  rfl
theorem wrap_I64 (x : Int) : I64 (wrap64 x) := by unfold I64 wrap64; omega
theorem left_I64 (a W : Int) (l : List Int) (ha : I64 a) : I64 (left0 a W l) := by
  unfold left0
  rcases List.eq_nil_or_concat l with rfl | ⟨m, x, rfl⟩
  · exact ha
  · rw [List.concat_eq_append, List.foldl_append]
    exact wrap_I64 _

section
variable (n : Nat) (hn : 1 ≤ n) (hn1 : n ≤ 1048576)
include hn hn1
theorem bump_scan (P R : List Int) (hP : P.length = n) (hR : R.length = n) (left : Int) (res : List Int × Bool) : ∀ (d i b : Nat), i + d = n → b < n →
    Ev (fun k => money_Split.l1 k (P.set (bestL R d b i) (wrap64 (P.getD (bestL R d b i) 0 + 1))) (R.set (bestL R d b i) (-1)) (wrap64 (left - 1))) res → Ev (fun k => money_Split.l2 k P R left (b : Int) R (n : Int) (i : Int)) res := by
  intro d
  induction d with
  | zero =>
    intro i b hi hb h
    refine Ev.step (fun k => ?_) h
    simp only [money_Split.l2, bestL]
    rw [if_neg (by omega), if_pos (by omega), if_pos (by omega), if_pos (by omega), rd_nat, Int.toNat_natCast]
  | succ d ih =>
    intro i b hi hb h
    by_cases c : R.getD i 0 > R.getD b 0
    · have e : bestL R (d + 1) b i = bestL R d i (i + 1) := by rw [bestL, if_pos c]
      rw [e] at h
      refine Ev.step (fun k => ?_) (ih (i + 1) i (by omega) (by omega) h)
      simp only [money_Split.l2]
      rw [if_pos (by omega), if_pos (by omega), if_pos (by omega), if_pos (by omega), if_pos (by omega), rd_nat, rd_nat, if_pos c, wi i (by omega)]
    · have e : bestL R (d + 1) b i = bestL R d b (i + 1) := by rw [bestL, if_neg c]
      rw [e] at h
      refine Ev.step (fun k => ?_) (ih (i + 1) b (by omega) hb h)
      simp only [money_Split.l2]
      rw [if_pos (by omega), if_pos (by omega), if_pos (by omega), if_pos (by omega), if_pos (by omega), rd_nat, rd_nat, if_neg c, wi i (by omega)]
theorem bumps_ev : ∀ (m : Nat) (P R : List Int) (left : Int), P.length = n → R.length = n → I64 left → left.toNat = m → Ev (fun k => money_Split.l1 k P R left) ((bumps m (P, R)).1, true) := by
  intro m
  induction m with
  | zero =>
    intro P R left hP hR hl hm
    refine Ev_one (fun k => ?_)
    simp only [money_Split.l1]
    rw [if_neg (by omega)]
    rfl
  | succ m ih =>
    intro P R left hP hR hl hm
    unfold I64 at hl
    have hb : best R < n := by have := best_lt R (by omega); omega
    have h := ih (P.set (best R) (wrap64 (P.getD (best R) 0 + 1))) (R.set (best R) (-1)) (wrap64 (left - 1)) (by rw [List.length_set, hP]) (by rw [List.length_set, hR]) (wrap_I64 _) (by rw [w64 (by omega) (by omega)]; omega)
    have e0 : bestL R n 0 0 = best R := by
      obtain ⟨z, hz⟩ : ∃ z, n = z + 1 := ⟨n - 1, by omega⟩
      unfold best
      rw [hR, hz, bestL, if_neg (by omega)]
      rfl
    refine Ev.step (fun k => ?_) (bump_scan n hn hn1 P R hP hR left _ n 0 0 (by omega) (by omega) (by rw [e0]; exact h))
    simp only [money_Split.l1]
    rw [if_pos (by omega), hR]
    rfl
end

section
variable (a W : Int) (l : List Int) (ha : I64 a) (hW : I64 W) (hw : ∀ x ∈ l, I64 x) (hl0 : 1 ≤ l.length) (hl : l.length ≤ 1048576)
include ha hW hw hl0 hl
theorem fill_loop : ∀ (d i : Nat), i + d = l.length → Ev (fun k => money_Split.l0 k a W ((l.take i).map (qf a W) ++ List.replicate d 0) ((l.take i).map (rf a W) ++ List.replicate d 0) (left0 a W (l.take i)) l (l.length : Int) (i : Int)) ((bumps (left0 a W l).toNat (l.map (qf a W), l.map (rf a W))).1, true) := by
  intro d
  induction d with
  | zero =>
    intro i hi
    have h := bumps_ev l.length hl0 hl (left0 a W l).toNat (l.map (qf a W)) (l.map (rf a W)) (left0 a W l) (List.length_map _) (List.length_map _) (left_I64 a W l ha) rfl
    refine Ev.step (fun k => ?_) h
    simp only [money_Split.l0]
    rw [if_neg (by omega), List.take_of_length_le (by omega), List.replicate_zero, List.append_nil, List.append_nil]
  | succ d ih =>
    intro i hi
    have hlt : i < l.length := by omega
    obtain ⟨K1, h1⟩ := Ev_out (floor_ev a (l.getD i 0) W ha (hw _ (rd_mem hlt)) hW)
    obtain ⟨K2, h2⟩ := Ev_out (ih (i + 1) (by omega))
    have len : ∀ f : Int → Int, ((l.take i).map f ++ List.replicate (d + 1) (0 : Int)).length = l.length := fun f => by rw [List.length_append, List.length_map, List.length_take, List.length_replicate]; omega
    have hq : (mfloor a (l.getD i 0) W).1 = qf a W (l.getD i 0) := rfl
    have hr : (mfloor a (l.getD i 0) W).2.1 = rf a W (l.getD i 0) := rfl
    refine ⟨K1 + K2 + 1, fun k hk => ?_⟩
    obtain ⟨k, rfl⟩ : ∃ m, k = m + 1 := ⟨k - 1, by omega⟩
    simp only [money_Split.l0]
    rw [if_pos (by omega), if_pos (by omega), if_pos (by omega), rd_nat, h1 k (by omega), Option.bind_some, len, if_pos (by omega), Option.bind_some, len, if_pos (by omega), hq, hr, Int.toNat_natCast, set_next _ l i d (by omega), set_next _ l i d (by omega), wi i (by omega)]
    have e : rd ((l.take (i + 1)).map (qf a W) ++ List.replicate d 0) (i : Int) = qf a W (l.getD i 0) := by
      rw [rd_nat, take_next hlt, List.map_append, List.append_assoc, List.getD_eq_getElem?_getD, List.getElem?_append_right (by rw [List.length_map, List.length_take]; omega), List.length_map, List.length_take, Nat.min_eq_left (by omega), Nat.sub_self]
      rfl
    rw [e, ← left_next a W l i hlt]
    exact h2 k (by omega)
end
theorem wspec_ok {a : Int} {l : List Int} (h : (wspec a l).2 = true) : 0 ≤ a ∧ 1 ≤ l.length ∧ l.length ≤ 1000 ∧ (wspec a l).1 = l.sum ∧ 0 < l.sum ∧ I64 l.sum ∧ (∀ x ∈ l, 0 ≤ x) := by
  unfold wspec at h ⊢
  split at h
  · cases h
  · rename_i c
    rw [if_neg c]
    unfold tspec at h ⊢
    split at h
    · cases h
    · rename_i c2
      rw [if_neg c2]
      split at h
      · rename_i c3
        rw [if_pos c3]
        have hin : I64 l.sum := by
          by_cases z : I64 l.sum
          · exact z
          · rw [fits_out z] at c3
            cases c3
        rw [fits_in hin] at h ⊢
        have pos : l.sum > 0 := of_decide_eq_true h
        refine ⟨by omega, by omega, by omega, rfl, pos, hin, fun x hx => ?_⟩
        rcases Int.lt_or_le x 0 with z | z
        · exact absurd (List.any_eq_true.mpr ⟨x, hx, decide_eq_true z⟩) c2
        · exact z
      · cases h
theorem split_ev (a : Int) (l : List Int) (ha : I64 a) (hw : ∀ x ∈ l, I64 x) (hl : l.length ≤ 1048576) : Ev (fun k => money_Split.f k a l) (splitSpec a l) := by
  obtain ⟨K1, h1⟩ := Ev_out (weighed_ev l hl hw a)
  unfold splitSpec
  by_cases c : (wspec a l).2 = true
  · obtain ⟨p1, p2, p3, p4, p5, p6, p7⟩ := wspec_ok c
    rw [if_pos c]
    obtain ⟨K2, h2⟩ := Ev_out (fill_loop a (wspec a l).1 l ha (by rw [p4]; exact p6) hw p2 hl l.length 0 (by omega))
    refine ⟨K1 + K2, fun k hk => ?_⟩
    simp only [money_Split.f]
    rw [h1 k (by omega), Option.bind_some, if_pos c, if_pos (by omega), if_pos (by omega)]
    exact h2 k (by omega)
  · rw [if_neg c]
    refine ⟨K1, fun k hk => ?_⟩
    simp only [money_Split.f]
    rw [h1 k (by omega), Option.bind_some, if_neg c]
theorem bumps_length : ∀ (m : Nat) (P R : List Int), (bumps m (P, R)).1.length = P.length
  | 0, _, _ => rfl
  | m + 1, P, R => by
    have := bumps_length m (P.set (best R) (wrap64 (P.getD (best R) 0 + 1))) (R.set (best R) (-1))
    rw [List.length_set] at this
    exact this

end Go.Proofs.YtfofcgflamidhaaDoor.XMSplit
