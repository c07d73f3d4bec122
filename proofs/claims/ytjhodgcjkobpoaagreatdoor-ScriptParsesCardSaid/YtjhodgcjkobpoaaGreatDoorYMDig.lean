/- Decimal numerals as lists of bytes: the numeral of a number, the number of a numeral, one to one. Plain Lean, no program in sight. -/
import Derived.Test.YtjhodgcjkobpoaaGreatDoorYMB
import Derived.Lib.ItoaNum
namespace Go.Proofs.YtjhodgcjkobpoaaGreatDoor.MDig
open Go.RowKit Go.Proofs.YtjhodgcjkobpoaaGreatDoorW.PrintWords Go.Proofs.YtjhodgcjkobpoaaGreatDoorW.PrintLast Go.Proofs.YtjhodgcjkobpoaaGreatDoorW.PrintMore Go.Proofs.YtjhodgcjkobpoaaGreatDoor.MB
set_option linter.unusedVariables false
set_option linter.unusedSectionVars false
set_option linter.unusedSimpArgs false

def Dgt (c : Int) : Prop := 48 ≤ c ∧ c ≤ 57
instance (c : Int) : Decidable (Dgt c) := by unfold Dgt; infer_instance
/-- The numeral of n. -/
def dd (n : Nat) : List Int := (Lib.decDigits n).map fun b => (b.toNat : Int)
theorem u8_dig {u : Nat} (h : u < 208) : ((UInt8.ofNat (48 + u)).toNat : Int) = 48 + (u : Int) := by
  rw [UInt8.toNat_ofNat']
  omega
theorem dd_small {n : Nat} (h : n < 10) : dd n = [48 + (n : Int)] := by
  unfold dd
  rw [Lib.decDigits, dif_pos h, List.map_cons, u8_dig (by omega)]
  rfl
theorem dd_step {n : Nat} (h : 10 ≤ n) : dd n = dd (n / 10) ++ [48 + (n : Int) % 10] := by
  unfold dd
  rw [Lib.decDigits, dif_neg (by omega), List.map_append, List.map_cons, u8_dig (by omega)]
  rfl
theorem dd_digits (n : Nat) : ∀ c ∈ dd n, Dgt c := by
  induction n using Nat.strongRecOn with
  | _ n ih =>
    intro c hc
    by_cases h : n < 10
    · rw [dd_small h] at hc
      simp only [List.mem_cons, List.not_mem_nil, or_false] at hc
      unfold Dgt; omega
    · rw [dd_step (by omega), List.mem_append] at hc
      rcases hc with hc | hc
      · exact ih (n / 10) (by omega) c hc
      · simp only [List.mem_cons, List.not_mem_nil, or_false] at hc
        unfold Dgt; omega
theorem dd_ne (n : Nat) : dd n ≠ [] := by
  by_cases h : n < 10
  · rw [dd_small h]; simp
  · rw [dd_step (by omega)]; simp
theorem dd_len {n d : Nat} (h : n < 10 ^ d) (hd : 1 ≤ d) : (dd n).length ≤ d := by
  induction d generalizing n with
  | zero => omega
  | succ d ih =>
    by_cases h1 : n < 10
    · rw [dd_small h1]; simp
    · rw [dd_step (by omega), List.length_append]
      have : 1 ≤ d := by
        rcases Nat.eq_zero_or_pos d with rfl | h2
        · simp at h; omega
        · exact h2
      have h3 : n / 10 < 10 ^ d := by
        rw [Nat.pow_succ] at h
        generalize 10 ^ d = q at h ⊢
        omega
      have := ih h3 this
      simp only [List.length_cons, List.length_nil]
      omega
theorem dd_head (n : Nat) : (dd n).headD 0 = 48 ↔ n = 0 := by
  induction n using Nat.strongRecOn with
  | _ n ih =>
    by_cases h : n < 10
    · rw [dd_small h]
      simp only [List.headD_cons]
      omega
    · rw [dd_step (by omega)]
      have h1 : (dd (n / 10) ++ [48 + (n : Int) % 10]).headD 0 = (dd (n / 10)).headD 0 := by
        cases he : dd (n / 10) with
        | nil => exact absurd he (dd_ne _)
        | cons a l => rfl
      rw [h1, ih (n / 10) (by omega)]
      omega
theorem snoc_ind {P : List Int → Prop} (h0 : P []) (h1 : ∀ l c, P l → P (l ++ [c])) (l : List Int) : P l := by
  have : ∀ m : List Int, P m.reverse := by
    intro m
    induction m with
    | nil => exact h0
    | cons a m ih => rw [List.reverse_cons]; exact h1 _ _ ih
  have e := this l.reverse
  rw [List.reverse_reverse] at e
  exact e
/-- The number of a numeral. -/
def dval (l : List Int) : Int := l.foldl (fun a c => 10 * a + (c - 48)) 0
theorem dval_snoc (l : List Int) (c : Int) : dval (l ++ [c]) = 10 * dval l + (c - 48) := by
  unfold dval
  rw [List.foldl_append]
  rfl
theorem dval_dd (n : Nat) : dval (dd n) = n := by
  induction n using Nat.strongRecOn with
  | _ n ih =>
    by_cases h : n < 10
    · rw [dd_small h]
      show 10 * 0 + (48 + (n : Int) - 48) = n
      omega
    · rw [dd_step (by omega), dval_snoc, ih (n / 10) (by omega)]
      omega
theorem dval_nn {l : List Int} (h : ∀ c ∈ l, Dgt c) : 0 ≤ dval l := by
  revert h
  refine snoc_ind (P := fun l => (∀ c ∈ l, Dgt c) → 0 ≤ dval l) (fun _ => Int.le_refl 0) (fun l c ih h => ?_) l
  rw [dval_snoc]
  have h1 := ih (fun x hx => h x (by simp [hx]))
  have h2 := h c (by simp)
  unfold Dgt at h2
  omega
theorem dval_pos {l : List Int} (h : ∀ c ∈ l, Dgt c) (hne : l ≠ []) (h0 : l.headD 0 ≠ 48) : 1 ≤ dval l := by
  revert h hne h0
  refine snoc_ind (P := fun l => (∀ c ∈ l, Dgt c) → l ≠ [] → l.headD 0 ≠ 48 → 1 ≤ dval l) (fun _ hne _ => absurd rfl hne) (fun l c ih h hne h0 => ?_) l
  rw [dval_snoc]
  have h2 := h c (by simp)
  unfold Dgt at h2
  cases l with
  | nil =>
    have : c ≠ 48 := h0
    show 1 ≤ 10 * 0 + (c - 48)
    omega
  | cons a m =>
    have := ih (fun x hx => h x (List.mem_append_left _ hx)) (by simp) h0
    omega
theorem dd_dval {l : List Int} (h : ∀ c ∈ l, Dgt c) (hne : l ≠ []) (h0 : l.headD 0 ≠ 48 ∨ l.length = 1) : dd (dval l).toNat = l := by
  revert h hne h0
  refine snoc_ind (P := fun l => (∀ c ∈ l, Dgt c) → l ≠ [] → (l.headD 0 ≠ 48 ∨ l.length = 1) → dd (dval l).toNat = l) (fun _ hne _ => absurd rfl hne) (fun l c ih h hne h0 => ?_) l
  rw [dval_snoc]
  have h2 := h c (by simp)
  unfold Dgt at h2
  cases l with
  | nil =>
    show dd (10 * 0 + (c - 48)).toNat = [c]
    rw [dd_small (by omega)]
    congr 1
    omega
  | cons a m =>
    have hh : (a :: m).headD 0 ≠ 48 := by
      rcases h0 with h0 | h0
      · exact h0
      · simp at h0
    have hd : ∀ x ∈ a :: m, Dgt x := fun x hx => h x (List.mem_append_left _ hx)
    have hp := dval_pos hd (by simp) hh
    have e := ih hd (by simp) (.inl hh)
    rw [dd_step (by omega), show (10 * dval (a :: m) + (c - 48)).toNat / 10 = (dval (a :: m)).toNat by omega, e]
    congr 2
    omega
end Go.Proofs.YtjhodgcjkobpoaaGreatDoor.MDig
