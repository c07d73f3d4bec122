/- Decimal numerals: the program's and the document's are one; which have at most 18 digits. Plain Lean over the printed functions. -/
import Derived.Test.YtjhodgcjkobpoaaGreatDoorYMB
import Derived.Lib.ItoaLen
import Derived.Test.YtjhodgcjkobpoaaGreatDoorYPAx3
import Derived.Test.YtjhodgcjkobpoaaGreatDoorYPAx2
namespace Go.Proofs.YtjhodgcjkobpoaaGreatDoor.FDec
open Go.RowKit Go.Proofs.YtjhodgcjkobpoaaGreatDoor.PA Go.Proofs.YtjhodgcjkobpoaaGreatDoorW.PrintWords Go.Proofs.YtjhodgcjkobpoaaGreatDoorW.PrintLast Go.Proofs.YtjhodgcjkobpoaaGreatDoorW.PrintMore Go.Proofs.YtjhodgcjkobpoaaGreatDoor.MB
set_option linter.unusedVariables false
set_option linter.unusedSectionVars false
set_option linter.unusedSimpArgs false
theorem ba {s : ByteArray} {l : List UInt8} (h : s.data.toList = l) : s = ⟨l.toArray⟩ := by
  subst h
  cases s
  rfl
theorem ba_size (l : List UInt8) : (⟨l.toArray⟩ : ByteArray).size = l.length := by
  show l.toArray.size = l.length
  exact List.size_toArray ..
theorem ba_len (s : ByteArray) : s.data.toList.length = s.size := by
  rw [Array.length_toList]; rfl
theorem ba_app (s t : ByteArray) : (s ++ t).data.toList = s.data.toList ++ t.data.toList := by
  rw [ByteArray.data_append, Array.toList_append]
/-- The digits of a number; none for 0. -/
def digs (n : Nat) : List UInt8 := if n = 0 then [] else Lib.decDigits n
theorem digs_step (n : Nat) (h : n ≠ 0) : digs n = digs (n / 10) ++ [UInt8.ofNat (48 + n % 10)] := by
  unfold digs
  rw [if_neg h, Lib.decDigits]
  by_cases h1 : n < 10
  · rw [dif_pos h1, if_pos (by omega), Nat.mod_eq_of_lt h1]; rfl
  · rw [dif_neg h1, if_neg (by omega)]
theorem digs_len : ∀ (d n : Nat), n < 10 ^ d → (digs n).length ≤ d
  | 0, n, h => by
    have : n = 0 := by simpa using h
    subst this
    simp [digs]
  | d + 1, n, h => by
    by_cases h0 : n = 0
    · subst h0; simp [digs]
    · rw [digs_step n h0, List.length_append]
      have h2 : n / 10 < 10 ^ d := by
        rw [Nat.pow_succ] at h
        generalize 10 ^ d = q at h ⊢
        omega
      have := digs_len d (n / 10) h2
      simp only [List.length_cons, List.length_nil]
      omega
def sgn (x : Int) : List UInt8 := if x < 0 then [45] else []
theorem itoa_digs (x : Int) (h : x ≠ 0) : Lib.itoa x = sgn x ++ digs x.natAbs := by
  have hn : ¬ x.natAbs = 0 := by omega
  unfold Lib.itoa sgn digs
  by_cases h1 : x < 0
  · rw [if_pos h1, if_pos h1, if_neg hn]; rfl
  · rw [if_neg h1, if_neg h1, if_neg hn, show x.toNat = x.natAbs by omega]; rfl
theorem digs_big : ∀ (d n : Nat), 10 ^ d ≤ n → d < (digs n).length
  | 0, n, h => by
    have h0 : n ≠ 0 := by have := h; simp at this; omega
    rw [digs_step n h0, List.length_append]
    simp
  | d + 1, n, h => by
    have h0 : n ≠ 0 := by have : 0 < 10 ^ (d + 1) := Nat.pow_pos (by omega); omega
    have h2 : 10 ^ d ≤ n / 10 := by
      rw [Nat.pow_succ] at h
      generalize 10 ^ d = q at h ⊢
      omega
    have := digs_big d (n / 10) h2
    rw [digs_step n h0, List.length_append]
    simp only [List.length_cons, List.length_nil]
    omega
/-- Has a number at most 18 digits? -/
def okN (x : Int) : Bool := decide (-1000000000000000000 < x ∧ x < 1000000000000000000)
/-- The numeral. -/
def num (x : Int) : ByteArray := ⟨(Lib.itoa x).toArray⟩
theorem num_size (x : Int) : (num x).size = (Lib.itoa x).length := ba_size _
theorem digits_eq {x : Int} (h0 : -9223372036854775808 ≤ x) (h1 : x ≤ 9223372036854775807) : script_digits.f x = some (num x, okN x) := by
  unfold script_digits.f strconv_FormatInt.f
  rw [if_pos ⟨h0, h1, rfl⟩, Option.bind_some]
  by_cases h : x > -1000000000000000000
  · rw [if_pos h]
    congr 2
    unfold okN
    by_cases h2 : x < 1000000000000000000
    · rw [decide_eq_true h2, decide_eq_true ⟨by omega, h2⟩]
    · rw [decide_eq_false h2, decide_eq_false (fun h => h2 h.2)]
  · rw [if_neg h]
    congr 2
    exact (decide_eq_false (fun h2 => h (by omega))).symm
theorem num_len {x : Int} (h : x ≠ 0) : (num x).size = (if x < 0 then 1 else 0) + (digs x.natAbs).length := by
  rw [num_size, itoa_digs x h, List.length_append]
  unfold sgn
  split <;> simp
theorem tell_num (x : Int) (h0 : -9223372036854775808 ≤ x) (h1 : x ≤ 9223372036854775807) :
    (if ((num x).size : Int) ≤ 18 then some (num x, true) else (if x < 0 then some (num x, ((num x).size : Int) == 19) else some (num x, false))) = some (num x, okN x) := by
  by_cases hz : x = 0
  · subst hz
    decide +kernel
  have hl := num_len hz
  by_cases hb : x.natAbs < 10 ^ 18
  · have h2 := digs_len 18 x.natAbs hb
    have ho : okN x = true := decide_eq_true (by omega)
    rw [ho]
    by_cases hn : x < 0
    · rw [if_pos hn] at hl
      by_cases h3 : ((num x).size : Int) ≤ 18
      · rw [if_pos h3]
      · rw [if_neg h3, if_pos hn, show (((num x).size : Int) == 19) = true from beq_iff_eq.2 (by omega)]
    · rw [if_neg hn] at hl
      rw [if_pos (by omega)]
  · have h2 := digs_big 18 x.natAbs (by omega)
    have ho : okN x = false := decide_eq_false (by omega)
    rw [ho]
    by_cases hn : x < 0
    · rw [if_pos hn] at hl
      rw [if_neg (by omega), if_pos hn, show (((num x).size : Int) == 19) = false from beq_eq_false_iff_ne.2 (by omega)]
    · rw [if_neg hn] at hl
      rw [if_neg (by omega), if_neg hn]
theorem num_short {x : Int} (h0 : -9223372036854775808 ≤ x) (h1 : x ≤ 9223372036854775807) : (num x).size ≤ 30 := by
  have := Lib.itoa_length_le x h0 h1
  rw [num_size]
  omega
end Go.Proofs.YtjhodgcjkobpoaaGreatDoor.FDec
