/- A text's gaps: a rune that is a space or a line's end stands just where a byte does. Plain Lean, no program in sight. -/
import Derived.Test.YtjhodgcjkobpoaaGreatDoorYMB
import Derived.Test.YtjhodgcjkobpoaaGreatDoorYFTell
import Derived.Lib.DecodeN
import Derived.Laws.RangeAny
namespace Go.Proofs.YtjhodgcjkobpoaaGreatDoor.FGap
open Go.RowKit Go.Proofs.YtjhodgcjkobpoaaGreatDoorW.PrintWords Go.Proofs.YtjhodgcjkobpoaaGreatDoorW.PrintLast Go.Proofs.YtjhodgcjkobpoaaGreatDoorW.PrintMore Go.Proofs.YtjhodgcjkobpoaaGreatDoor.MB Go.Proofs.YtjhodgcjkobpoaaGreatDoor.FTell
set_option linter.unusedVariables false
set_option linter.unusedSimpArgs false
theorem high (n b0 b1 b2 b3 : Nat) (h : 128 ≤ b0) : 128 ≤ (Lib.decodeN n b0 b1 b2 b3).1 ∧
    ((Lib.decodeN n b0 b1 b2 b3).2 = 1 ∨ ((Lib.decodeN n b0 b1 b2 b3).2 = 2 ∧ 128 ≤ b1) ∨ ((Lib.decodeN n b0 b1 b2 b3).2 = 3 ∧ 128 ≤ b1 ∧ 128 ≤ b2) ∨ ((Lib.decodeN n b0 b1 b2 b3).2 = 4 ∧ 128 ≤ b1 ∧ 128 ≤ b2 ∧ 128 ≤ b3)) := by
  unfold Lib.decodeN
  rw [if_neg (by omega)]
  split
  · rename_i h1
    split
    · refine ⟨by omega, .inr (.inl ⟨rfl, by omega⟩)⟩
    · exact ⟨by omega, .inl rfl⟩
  split
  · rename_i h1
    split
    · refine ⟨by omega, .inr (.inr (.inl ⟨rfl, by omega, by omega⟩))⟩
    · exact ⟨by omega, .inl rfl⟩
  split
  · rename_i h1
    split
    · refine ⟨by omega, .inr (.inr (.inr ⟨rfl, by omega, by omega, by omega⟩))⟩
    · exact ⟨by omega, .inl rfl⟩
  exact ⟨by omega, .inl rfl⟩
/-- The byte at j is a gap. -/
def Gap (s : ByteArray) (j : Nat) : Prop := bt s (j : Int) = 32 ∨ bt s (j : Int) = 10
theorem bt_get (s : ByteArray) (j : Nat) (h : j < s.size) : bt s (j : Int) = ((s.get! j).toNat : Int) := by
  have e : s.get! j = s[j]'h := get_at s j h
  unfold bt
  rw [dif_pos (by rw [Int.toNat_natCast]; exact h), e]
  simp
theorem idx_from (s : ByteArray) : ∀ (f pos : Nat), s.size ≤ pos + f → (Lib.idxFuncFrom gapB true s f pos = -1 ↔ ∀ j, pos ≤ j → j < s.size → ¬ Gap s j)
  | 0, pos, h => ⟨fun _ j h1 h2 => absurd h2 (by omega), fun _ => rfl⟩
  | f + 1, pos, h => by
    unfold Lib.idxFuncFrom
    by_cases hp : pos < s.size
    · rw [if_pos hp]
      have hb := bt_get s pos hp
      by_cases ha : (s[pos]'hp).toNat < 128
      · have hd := decode_ascii s pos hp ha
        have e : s.get! pos = s[pos]'hp := get_at s pos hp
        rw [e] at hb
        rw [hd]
        by_cases hg : gapB (s[pos]'hp).toNat = true
        · rw [if_pos hg]
          have hgap : Gap s pos := by
            unfold gapB at hg
            unfold Gap
            simp only [Bool.or_eq_true, beq_iff_eq] at hg
            omega
          exact ⟨fun h => absurd h (by omega), fun h => absurd hgap (h pos (Nat.le_refl _) hp)⟩
        · rw [if_neg hg, idx_from s f (pos + 1) (by omega)]
          have hgap : ¬ Gap s pos := by
            unfold gapB at hg
            unfold Gap
            simp only [Bool.or_eq_true, beq_iff_eq] at hg
            omega
          constructor
          · intro h j h1 h2
            rcases Nat.eq_or_lt_of_le h1 with rfl | h3
            · exact hgap
            · exact h j h3 h2
          · intro h j h1 h2
            exact h j (by omega) h2
      · have hd := Lib.decode_at s pos
        have e : s.get! pos = s[pos]'hp := get_at s pos hp
        obtain ⟨h1, h2⟩ := high (s.size - pos) (s.get! pos).toNat (s.get! (pos + 1)).toNat (s.get! (pos + 2)).toNat (s.get! (pos + 3)).toNat (by rw [e]; omega)
        rw [← hd] at h1 h2
        have hg : ¬ gapB (Utf8.decode s pos).1 = true := by
          unfold gapB
          simp only [Bool.or_eq_true, beq_iff_eq]
          omega
        have key : ∀ j, pos ≤ j → j < pos + (Utf8.decode s pos).2 → j < s.size → ¬ Gap s j := by
          intro j k1 k2 k3
          have hj := bt_get s j k3
          have : 128 ≤ (s.get! j).toNat := by
            have c : j = pos ∨ j = pos + 1 ∨ j = pos + 2 ∨ j = pos + 3 := by omega
            rcases c with rfl | rfl | rfl | rfl
            · rw [e]; omega
            all_goals omega
          unfold Gap
          omega
        have hw : 1 ≤ (Utf8.decode s pos).2 := by omega
        rw [if_neg hg, idx_from s f _ (by omega)]
        constructor
        · intro h j h3 h4
          rcases Nat.lt_or_ge j (pos + (Utf8.decode s pos).2) with h5 | h5
          · exact key j h3 h5 h4
          · exact h j h5 h4
        · intro h j h3 h4
          exact h j (by omega) h4
    · rw [if_neg hp]
      exact ⟨fun _ j h1 h2 => absurd h2 (by omega), fun _ => rfl⟩
/-- A text has a gap just if one of its bytes is one. -/
theorem no_gap (s : ByteArray) : hasGap s = false ↔ ∀ j, j < s.size → ¬ Gap s j := by
  unfold hasGap
  have h := idx_from s s.size 0 (by omega)
  have r := Lib.idxFunc_range gapB true s
  change (Lib.idxFunc gapB true s = -1 ↔ _) at h
  rw [decide_eq_false_iff_not]
  constructor
  · intro h1 j h2
    exact h.1 (by omega) j (Nat.zero_le _) h2
  · intro h1 h2
    have := h.2 (fun j _ h3 => h1 j h3)
    omega
end Go.Proofs.YtjhodgcjkobpoaaGreatDoor.FGap
