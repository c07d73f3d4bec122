/- A string's bytes as a list of numbers. Plain Lean, no program in sight. -/
import Derived.Test.YtjhodgcjkobpoaaGreatDoorYMB
import Derived.Laws.Strings
import Derived.Laws.BytesArg
namespace Go.Proofs.YtjhodgcjkobpoaaGreatDoor.MByt
open Go.RowKit Go.Proofs.YtjhodgcjkobpoaaGreatDoorW.PrintWords Go.Proofs.YtjhodgcjkobpoaaGreatDoorW.PrintLast Go.Proofs.YtjhodgcjkobpoaaGreatDoorW.PrintMore Go.Proofs.YtjhodgcjkobpoaaGreatDoor.MB
set_option linter.unusedVariables false
set_option linter.unusedSectionVars false
set_option linter.unusedSimpArgs false

/-- A string's bytes as numbers. -/
def byts (s : ByteArray) : List Int := s.data.toList.map fun b => (b.toNat : Int)
theorem byts_len (s : ByteArray) : (byts s).length = s.size := by
  unfold byts
  rw [List.length_map, Array.length_toList]
  rfl
theorem bt_byts (s : ByteArray) (i : Nat) : bt s (i : Int) = (byts s).getD i 0 := by
  unfold bt byts
  by_cases h : i < s.size
  · rw [dif_pos (by rw [Int.toNat_natCast]; exact h)]
    have h' : i < s.data.toList.length := by rw [Array.length_toList]; exact h
    rw [List.getD_eq_getElem?_getD, List.getElem?_map, List.getElem?_eq_getElem h']
    simp [ByteArray.getElem_eq_getElem_data]
  · rw [dif_neg (by rw [Int.toNat_natCast]; exact h)]
    have h' : s.data.toList.length ≤ i := by rw [Array.length_toList]; exact Nat.le_of_not_lt h
    rw [List.getD_eq_getElem?_getD, List.getElem?_map, List.getElem?_eq_none h']
    rfl
theorem byts_inj {s t : ByteArray} (h : byts s = byts t) : s = t := by
  apply ByteArray.ext
  apply Array.toList_inj.1
  have hf : ∀ {l m : List UInt8}, l.map (fun b => (b.toNat : Int)) = m.map (fun b => (b.toNat : Int)) → l = m := by
    intro l
    induction l with
    | nil => intro m h; cases m with
      | nil => rfl
      | cons _ _ => simp at h
    | cons a l ih => intro m h; cases m with
      | nil => simp at h
      | cons b m =>
        simp only [List.map_cons, List.cons.injEq] at h
        have e : a = b := UInt8.toNat_inj.1 (Int.ofNat_inj.1 h.1)
        rw [ih h.2, e]
  exact hf h
theorem byts_of {xs : List Int} (h : ∀ x ∈ xs, 0 ≤ x ∧ x ≤ 255) : byts (strOfNums xs) = xs := by
  unfold byts
  rw [strOfNums_data, List.map_map]
  induction xs with
  | nil => rfl
  | cons x xs ih =>
    have hx := h x (by simp)
    rw [List.map_cons, ih (fun y hy => h y (by simp [hy]))]
    congr 1
    simp
    omega
theorem list_ten {l : List Int} (h : l.length = 10) : ∃ a b c d e f g i j k, l = [a, b, c, d, e, f, g, i, j, k] := by
  match l, h with
  | [a, b, c, d, e, f, g, i, j, k], _ => exact ⟨a, b, c, d, e, f, g, i, j, k, rfl⟩
theorem byts_extract (s : ByteArray) (i j : Nat) : byts (s.extract i j) = ((byts s).drop i).take (j - i) := by
  unfold byts
  rw [← List.map_drop, ← List.map_take]
  congr 1
  simp [ByteArray.data_extract]

theorem byts_app (s t : ByteArray) : byts (s ++ t) = byts s ++ byts t := by
  unfold byts
  rw [ByteArray.data_append, Array.toList_append, List.map_append]
end Go.Proofs.YtjhodgcjkobpoaaGreatDoor.MByt
