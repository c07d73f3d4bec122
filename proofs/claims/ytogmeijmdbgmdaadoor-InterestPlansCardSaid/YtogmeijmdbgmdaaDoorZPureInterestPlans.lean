/- InterestPlans: with enough rounds the printed law returns true at every terms and holidays. Plain Lean over the printed functions. -/
import Derived.Test.YtogmeijmdbgmdaaDoorZIPlanE
import Derived.Test.YtogmeijmdbgmdaaDoorZPAx16
import Derived.Test.YtogmeijmdbgmdaaDoorZPAx14
import Derived.Test.YtogmeijmdbgmdaaDoorZPAx1
import Derived.Test.YtogmeijmdbgmdaaDoorZPAx15
namespace Go.Proofs.YtogmeijmdbgmdaaDoor.PureInterestPlans
open Go.RowKit Go.Proofs.YtogmeijmdbgmdaaDoor.PA Go.Proofs.YtogmeijmdbgmdaaDoorW.PrintWords Go.Proofs.YtogmeijmdbgmdaaDoorW.PrintLast Go.Proofs.YtogmeijmdbgmdaaDoorW.PrintMore Go.Proofs.YtogmeijmdbgmdaaDoor.MB Go.Proofs.YtogmeijmdbgmdaaDoor.IPlanE
set_option linter.unusedVariables false
set_option linter.unusedSimpArgs false

theorem alike_loop (l : List S41) (hl : l.length ≤ 100000) : ∀ (d i : Nat) (k : Nat), i + d = l.length → d < k → arrearslaw3_alike.l0 k l l i = some true := by
  intro d
  induction d with
  | zero =>
    intro i k hi hk
    obtain ⟨k, rfl⟩ : ∃ m, k = m + 1 := ⟨k - 1, by omega⟩
    simp only [arrearslaw3_alike.l0]
    rw [if_neg (by omega)]
  | succ d ih =>
    intro i k hi hk
    obtain ⟨k, rfl⟩ : ∃ m, k = m + 1 := ⟨k - 1, by omega⟩
    simp only [arrearslaw3_alike.l0]
    rw [if_pos (by omega), if_pos (by omega), if_pos (by omega), if_pos True.intro, if_pos True.intro, if_pos True.intro, if_neg (by simp), wi i (by omega)]
    exact ih (i + 1) k (by omega) (by omega)
theorem alike_ev (l : List S41) (hl : l.length ≤ 100000) : Ev (fun k => arrearslaw3_alike.f k l l) true := by
  refine ⟨l.length + 1, fun k hk => ?_⟩
  simp only [arrearslaw3_alike.f]
  rw [if_pos True.intro]
  exact alike_loop l hl l.length 0 k (by omega) (by omega)
theorem same_loop (l : List Int) (hl : l.length ≤ 100000) : ∀ (d i : Nat) (k : Nat), i + d = l.length → d < k → arrearslaw3_same.l0 k l l i = some true := by
  intro d
  induction d with
  | zero =>
    intro i k hi hk
    obtain ⟨k, rfl⟩ : ∃ m, k = m + 1 := ⟨k - 1, by omega⟩
    simp only [arrearslaw3_same.l0]
    rw [if_neg (by omega)]
  | succ d ih =>
    intro i k hi hk
    obtain ⟨k, rfl⟩ : ∃ m, k = m + 1 := ⟨k - 1, by omega⟩
    simp only [arrearslaw3_same.l0]
    rw [if_pos (by omega), if_pos (by omega), if_pos (by omega), if_pos True.intro, wi i (by omega)]
    exact ih (i + 1) k (by omega) (by omega)
theorem same_ev (l : List Int) (hl : l.length ≤ 100000) : Ev (fun k => arrearslaw3_same.f k l l) true := by
  refine ⟨l.length + 1, fun k hk => ?_⟩
  simp only [arrearslaw3_same.f]
  rw [if_pos True.intro]
  exact same_loop l hl l.length 0 k (by omega) (by omega)
def marks : List Int := [-7, -8, -9]
theorem copied_loop (l : List Int) (hl : l.length ≤ 100000) : ∀ (d i : Nat) (k : Nat), i + d = l.length → d < k → arrearslaw3_copied.l0 k l (l.take i) i = some (l ++ marks) := by
  intro d
  induction d with
  | zero =>
    intro i k hi hk
    obtain ⟨k, rfl⟩ : ∃ m, k = m + 1 := ⟨k - 1, by omega⟩
    simp only [arrearslaw3_copied.l0]
    rw [if_neg (by omega), List.take_of_length_le (by omega), Option.bind_some, if_pos (by simp; omega)]
    rfl
  | succ d ih =>
    intro i k hi hk
    obtain ⟨k, rfl⟩ : ∃ m, k = m + 1 := ⟨k - 1, by omega⟩
    simp only [arrearslaw3_copied.l0]
    rw [if_pos (by omega), if_pos (by omega), if_pos (by have := List.length_take_le i l; omega), wi i (by omega), rd_nat, ← take_next (by omega)]
    exact ih (i + 1) k (by omega) (by omega)
theorem copied_ev (l : List Int) (hl : l.length ≤ 100000) : Ev (fun k => arrearslaw3_copied.f k l) (l ++ marks) := by
  refine ⟨l.length + 1, fun k hk => ?_⟩
  simp only [arrearslaw3_copied.f]
  exact copied_loop l hl l.length 0 k (by omega) (by omega)
section
variable (kind pr rate cnt start rule : Int)
/-- The other holidays. -/
def oth (i : Nat) : Int := wrap64 (wrap64 (Int.tmod start 3000000 + 28) + (i : Int))
def O (n : Nat) : List Int := (List.range n).map (oth start)
theorem O_len (n : Nat) : (O start n).length = n := by simp [O]
theorem O_succ (n i : Nat) (h : i < n) : (O start n).take (i + 1) = (O start n).take i ++ [oth start i] := by
  rw [List.take_succ_eq_append_getElem (by rw [O_len]; exact h)]
  congr 2
  simp [O]
def H (x1 : List Int) (i : Nat) : List Int := (O start x1.length).take i ++ (x1 ++ marks).drop i
theorem H_len (x1 : List Int) (i : Nat) (h : i ≤ x1.length) : (H start x1 i).length = x1.length + 3 := by
  unfold H
  rw [List.length_append, List.length_take, List.length_drop, O_len, List.length_append]
  simp [marks]
  omega
theorem H_set (x1 : List Int) (i : Nat) (h : i < x1.length) : (H start x1 i).set i (oth start i) = H start x1 (i + 1) := by
  unfold H
  have e : ((O start x1.length).take i).length = i := by rw [List.length_take, O_len]; omega
  rw [O_succ start x1.length i h, List.set_append_right _ _ (by omega), e, Nat.sub_self]
  have e2 : (x1 ++ marks).drop i = (x1 ++ marks)[i]'(by rw [List.length_append]; omega) :: (x1 ++ marks).drop (i + 1) := List.drop_eq_getElem_cons _
  rw [e2, List.set_cons_zero]
  simp
theorem H_rd (x1 : List Int) (i : Nat) (h : i < x1.length) : rd (H start x1 (i + 1)) (i : Int) = oth start i := by
  unfold H
  have e : ((O start x1.length).take i).length = i := by rw [List.length_take, O_len]; omega
  rw [O_succ start x1.length i h, rd_nat, List.getD_eq_getElem?_getD, List.append_assoc, List.getElem?_append_right (by omega), e]
  simp
theorem H_end (x1 : List Int) : H start x1 x1.length = O start x1.length ++ marks := by
  unfold H
  rw [List.take_of_length_le (by rw [O_len]; exact Nat.le_refl _), List.drop_left]
theorem loop_ev (x1 : List Int) (hx : x1.length ≤ 1000) (l : List S41) (hl : l.length ≤ 120) : ∀ (d i : Nat), i + d = x1.length →
    Ev (fun k => arrearslaw3_InterestPlans.l0 k x1 (H start x1 i) l l ((O start x1.length).take i) i kind pr rate cnt start rule) true := by
  intro d
  induction d with
  | zero =>
    intro i hi
    obtain rfl : i = x1.length := by omega
    obtain ⟨r, hr, h1, h2⟩ := both kind pr rate cnt start rule (O start x1.length)
    obtain ⟨K1, h1⟩ := Ev_out h1
    obtain ⟨K2, h2⟩ := Ev_out h2
    obtain ⟨K3, h3⟩ := Ev_out (alike_ev r.1 (by omega))
    obtain ⟨K4, h4⟩ := Ev_out (alike_ev l (by omega))
    obtain ⟨K5, h5⟩ := Ev_out (copied_ev (O start x1.length) (by rw [O_len]; omega))
    obtain ⟨K6, h6⟩ := Ev_out (same_ev (O start x1.length ++ marks) (by rw [List.length_append, O_len]; simp [marks]; omega))
    refine ⟨K1 + K2 + K3 + K4 + K5 + K6 + 1, fun k hk => ?_⟩
    obtain ⟨k, rfl⟩ : ∃ q, k = q + 1 := ⟨k - 1, by omega⟩
    simp only [arrearslaw3_InterestPlans.l0]
    rw [H_end, List.take_of_length_le (by rw [O_len]; exact Nat.le_refl _)]
    rw [if_neg (by omega), if_pos (by omega), if_pos (by rw [List.length_append, O_len]; omega)]
    have et : (O start x1.length ++ marks).take ((x1.length : Int)).toNat = O start x1.length := by
      rw [Int.toNat_natCast]
      exact List.take_left' (O_len start x1.length)
    rw [et, h1 k (by omega), Option.bind_some, h2 k (by omega), Option.bind_some, if_pos (by simp), h3 k (by omega), Option.bind_some, if_pos rfl, h4 k (by omega), Option.bind_some, if_pos rfl, h5 k (by omega), Option.bind_some, h6 k (by omega)]
    rfl
  | succ d ih =>
    intro i hi
    obtain ⟨K, h⟩ := Ev_out (ih (i + 1) (by omega))
    refine ⟨K + 1, fun k hk => ?_⟩
    obtain ⟨k, rfl⟩ : ∃ q, k = q + 1 := ⟨k - 1, by omega⟩
    simp only [arrearslaw3_InterestPlans.l0]
    have e1 := H_set start x1 i (by omega)
    have e2 := H_rd start x1 i (by omega)
    have e3 : wrap64 (wrap64 (Int.tmod start 3000000 + 28) + (i : Int)) = oth start i := rfl
    rw [if_pos (by omega), if_pos (by omega), if_pos (by rw [H_len start x1 i (by omega)]; omega), Option.bind_some, e3, Int.toNat_natCast, e1, if_pos (by have := List.length_take_le i (O start x1.length); omega), e2, wi i (by omega), ← O_succ start x1.length i (by omega)]
    exact h k (by omega)
theorem InterestPlans_ev (l1 : List Int) : ∃ k, arrearslaw3_InterestPlans.f k kind pr rate cnt start rule l1 = some true := by
  by_cases hlen : (l1.length : Int) > 1000
  · refine ⟨0, ?_⟩
    simp only [arrearslaw3_InterestPlans.f]
    rw [if_pos hlen]
  · obtain ⟨r, hr, h1, h2⟩ := both kind pr rate cnt start rule l1
    obtain ⟨K1, h1⟩ := Ev_out h1
    obtain ⟨K2, h2⟩ := Ev_out h2
    obtain ⟨K3, h3⟩ := Ev_out (alike_ev r.1 (by omega))
    obtain ⟨K5, h5⟩ := Ev_out (copied_ev l1 (by omega))
    obtain ⟨K6, h6⟩ := Ev_out (same_ev (l1 ++ marks) (by rw [List.length_append]; simp [marks]; omega))
    obtain ⟨K7, h7⟩ := Ev_out (loop_ev kind pr rate cnt start rule l1 (by omega) r.1 hr l1.length 0 (by omega))
    refine ⟨K1 + K2 + K3 + K5 + K6 + K7 + 1, ?_⟩
    have hk : ∃ k, K1 + K2 + K3 + K5 + K6 + K7 + 1 = k + 1 ∧ K1 + K2 + K3 + K5 + K6 + K7 ≤ k := ⟨_, rfl, Nat.le_refl _⟩
    obtain ⟨k, e, hk⟩ := hk
    rw [e]
    simp only [arrearslaw3_InterestPlans.f]
    have et : (l1 ++ marks).take ((l1.length : Int)).toNat = l1 := by
      rw [Int.toNat_natCast]
      exact List.take_left
    rw [if_neg hlen, h5 (k + 1) (by omega), Option.bind_some, if_pos (by omega), if_pos (by rw [List.length_append]; omega), et, h1 (k + 1) (by omega), Option.bind_some, h2 (k + 1) (by omega), Option.bind_some, if_neg (by simp), h3 (k + 1) (by omega), Option.bind_some, if_pos rfl, Option.bind_some, h6 (k + 1) (by omega), Option.bind_some]
    simp only [arrearslaw3_InterestPlans.j0]
    rw [if_neg (by simp)]
    have h8 := h7 k (by omega)
    have e0 : H start l1 0 = l1 ++ marks := by simp [H]
    rw [e0] at h8
    exact h8
end
end Go.Proofs.YtogmeijmdbgmdaaDoor.PureInterestPlans
