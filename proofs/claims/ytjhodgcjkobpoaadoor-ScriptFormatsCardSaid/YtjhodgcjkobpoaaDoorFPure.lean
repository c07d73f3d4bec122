/- ScriptFormats, the plain law: the program's line of an operation is the document's, and so whether there is one. Plain Lean over the printed functions. -/
import Derived.Test.YtjhodgcjkobpoaaDoorFGap
import Derived.Test.YtjhodgcjkobpoaaDoorFDec
import Derived.Test.YtjhodgcjkobpoaaDoorFAmt
import Derived.Test.YtjhodgcjkobpoaaDoorFFormat
import Derived.Test.YtjhodgcjkobpoaaDoorPAx9
import Derived.Test.YtjhodgcjkobpoaaDoorPAx8
import Derived.Test.YtjhodgcjkobpoaaDoorPAx6
import Derived.Test.YtjhodgcjkobpoaaDoorPAx6
import Derived.Test.YtjhodgcjkobpoaaDoorPAx5
import Derived.Test.YtjhodgcjkobpoaaDoorPAx9
namespace Go.Proofs.YtjhodgcjkobpoaaDoor.FPure
open Go.RowKit Go.Proofs.YtjhodgcjkobpoaaDoor.PA Go.Proofs.YtjhodgcjkobpoaaDoorW.PrintWords Go.Proofs.YtjhodgcjkobpoaaDoorW.PrintLast Go.Proofs.YtjhodgcjkobpoaaDoorW.PrintMore Go.Proofs.YtjhodgcjkobpoaaDoor.MB Go.Proofs.YtjhodgcjkobpoaaDoor.MByt Go.Proofs.YtjhodgcjkobpoaaDoor.FTell Go.Proofs.YtjhodgcjkobpoaaDoor.FFields Go.Proofs.YtjhodgcjkobpoaaDoor.FFormat Go.Proofs.YtjhodgcjkobpoaaDoor.FGap Go.Proofs.YtjhodgcjkobpoaaDoor.FDec Go.Proofs.YtjhodgcjkobpoaaDoor.FAmt
set_option linter.unusedVariables false
set_option linter.unusedSimpArgs false
variable {a0 a1 a2 a3 a4 a5 : Int} {a6 : ByteArray}
theorem fate_ok (hs : a6.size ≤ 9223372036854775800) : ∀ (d i k : Nat), i + d = a6.size → d < k → (∀ j, i ≤ j → j < a6.size → ¬ Gap a6 j) → arrearsref18_tell.l0 k (i : Int) a0 a1 a2 a3 a4 a5 a6 = some (a6, decide ((a6.size : Int) > 0)) := by
  intro d
  induction d with
  | zero =>
    intro i k hi hk hg
    obtain ⟨k, rfl⟩ : ∃ m, k = m + 1 := ⟨k - 1, by omega⟩
    unfold arrearsref18_tell.l0
    rw [if_neg (by omega)]
  | succ d ih =>
    intro i k hi hk hg
    obtain ⟨k, rfl⟩ : ∃ m, k = m + 1 := ⟨k - 1, by omega⟩
    have h := hg i (Nat.le_refl _) (by omega)
    unfold Gap at h
    unfold arrearsref18_tell.l0
    rw [if_pos (by omega), if_pos (by omega), if_neg (fun h' => h (.inl h')), if_neg (fun h' => h (.inr h')), w64 (x := (i : Int) + 1) (by omega) (by omega)]
    exact ih (i + 1) k (by omega) (by omega) (fun j h1 h2 => hg j (by omega) h2)
theorem fate_gap (hs : a6.size ≤ 9223372036854775800) : ∀ (d i k : Nat), i + d = a6.size → d < k → (∃ j, i ≤ j ∧ j < a6.size ∧ Gap a6 j) → arrearsref18_tell.l0 k (i : Int) a0 a1 a2 a3 a4 a5 a6 = some (⟨#[]⟩, false) := by
  intro d
  induction d with
  | zero =>
    rintro i k hi hk ⟨j, h1, h2, h3⟩
    omega
  | succ d ih =>
    rintro i k hi hk ⟨j, h1, h2, h3⟩
    obtain ⟨k, rfl⟩ : ∃ m, k = m + 1 := ⟨k - 1, by omega⟩
    unfold arrearsref18_tell.l0
    rw [if_pos (by omega), if_pos (by omega)]
    by_cases c1 : bt a6 (i : Int) = 32
    · rw [if_pos c1]
    rw [if_neg c1]
    by_cases c2 : bt a6 (i : Int) = 10
    · rw [if_pos c2]
    rw [if_neg c2, w64 (x := (i : Int) + 1) (by omega) (by omega)]
    refine ih (i + 1) k (by omega) (by omega) ⟨j, ?_, h2, h3⟩
    rcases Nat.eq_or_lt_of_le h1 with rfl | h
    · unfold Gap at h3
      rcases h3 with h3 | h3
      · exact absurd h3 c1
      · exact absurd h3 c2
    · exact h
def LetterIn (l : Nat) : Prop := l = 65 ∨ l = 82 ∨ l = 84 ∨ l = 70 ∨ l = 76 ∨ l = 67 ∨ l = 68
theorem empty_iff (s : ByteArray) : s.toList = [] ↔ s.size = 0 := by
  rw [ByteArray.toList_eq]
  show s.data.toList = [] ↔ s.data.size = 0
  rw [Array.toList_eq_nil_iff]
  exact Array.size_eq_zero_iff.symm
theorem amount_short {x : Int} (hx : I64 x) : (strOfNums (MPars.fl x)).size ≤ 30 := by
  have := fl_len hx
  rw [strOfNums_size]
  omega
theorem tell_both {l : Nat} (hl : LetterIn l) (h1 : I64 a1) (h2 : I64 a2) (h3 : I64 a3) (h4 : I64 a4) (h5 : I64 a5) (ht : a6.size ≤ 200000) :
    ∃ s s' may, tellAt l a1 a2 a3 a4 a5 a6 = some (s, may) ∧ (∀ k, 200100 ≤ k → arrearsref18_tell.f k a0 a1 a2 a3 a4 a5 a6 (l : Int) = some (s', may)) ∧ (may = true → s' = s) ∧ s.size ≤ 200000 := by
  rcases hl with rfl | rfl | rfl | rfl | rfl | rfl | rfl
  · refine ⟨strOfNums (MPars.fl a2), strOfNums (MPars.fl a2), true, ?_, fun k hk => ?_, fun _ => rfl, ?_⟩
    rotate_left 1
    · unfold arrearsref18_tell.f
      rw [if_pos (by rfl), refFormat_eq h2]
      rfl
    · have := amount_short h2; omega
    · unfold tellAt
      rw [if_pos rfl, format_eq h2]
      rfl
  · refine ⟨num a3, num a3, okN a3, ?_, fun k hk => ?_, fun _ => rfl, ?_⟩
    · unfold tellAt
      rw [if_neg (by decide), if_pos rfl]
      exact digits_eq h3.1 h3.2
    · unfold arrearsref18_tell.f
      rw [if_neg (by decide), if_neg (by decide), if_neg (by decide), if_neg (by decide), if_pos (by rfl), decimal_ev a3 h3.1 h3.2 k (by omega)]
      exact tell_num a3 h3.1 h3.2
    · have := num_short h3.1 h3.2; omega
  · refine ⟨(typeAt a5).1, if a5 = 0 then ⟨#[108, 101, 118, 101, 108]⟩ else if a5 = 1 then ⟨#[101, 113, 117, 97, 108]⟩ else ⟨#[98, 97, 108, 108, 111, 111, 110]⟩, (typeAt a5).2, ?_, fun k hk => ?_, ?_, ?_⟩
    · unfold tellAt
      rw [if_neg (by decide), if_neg (by decide), if_pos rfl]
    · unfold arrearsref18_tell.f typeAt
      rw [if_neg (by decide), if_pos (by rfl)]
      by_cases c0 : a5 = 0
      · subst c0; rfl
      by_cases c1 : a5 = 1
      · subst c1; rfl
      by_cases c2 : a5 = 2
      · subst c2; rfl
      rw [if_neg c0, if_neg c1, if_neg c0, if_neg c1, if_neg c0, if_neg c1, if_neg c2, beq_eq_false_iff_ne.2 c2]
    · unfold typeAt
      by_cases c0 : a5 = 0
      · subst c0; exact fun _ => rfl
      by_cases c1 : a5 = 1
      · subst c1; exact fun _ => rfl
      by_cases c2 : a5 = 2
      · subst c2; exact fun _ => rfl
      rw [if_neg c0, if_neg c1, if_neg c2]
      exact fun h => by cases h
    · unfold typeAt
      repeat' split
      all_goals decide
  · cases hg : hasGap a6 with
    | false =>
      refine ⟨a6, a6, decide ((a6.size : Int) > 0), ?_, fun k hk => ?_, fun _ => rfl, ht⟩
      · unfold tellAt fatesAt
        rw [if_neg (by decide), if_neg (by decide), if_neg (by decide), if_pos rfl, hg]
        by_cases hz : a6.size = 0
        · rw [if_pos ((empty_iff a6).2 hz), decide_eq_false (by omega)]
        · rw [if_neg (fun h => hz ((empty_iff a6).1 h)), decide_eq_true (by omega)]
          rfl
      · unfold arrearsref18_tell.f
        rw [if_neg (by decide), if_neg (by decide), if_pos (by rfl)]
        exact fate_ok (by omega) a6.size 0 k (by omega) (by omega) (fun j _ h => (no_gap a6).1 hg j h)
    | true =>
      have hx : ∃ j, 0 ≤ j ∧ j < a6.size ∧ Gap a6 j := by
        apply Classical.byContradiction
        intro hn
        have := (no_gap a6).2 (fun j hj h => hn ⟨j, Nat.zero_le _, hj, h⟩)
        rw [hg] at this
        cases this
      have hx' := hx
      obtain ⟨j, _, hj, _⟩ := hx'
      refine ⟨a6, ⟨#[]⟩, false, ?_, fun k hk => ?_, (fun h => absurd h (by decide)), ht⟩
      · unfold tellAt fatesAt
        rw [if_neg (by decide), if_neg (by decide), if_neg (by decide), if_pos rfl, hg, if_neg (fun h => by have := (empty_iff a6).1 h; omega)]
        rfl
      · unfold arrearsref18_tell.f
        rw [if_neg (by decide), if_neg (by decide), if_pos (by rfl)]
        exact fate_gap (by omega) a6.size 0 k (by omega) (by omega) hx
  · refine ⟨num a1, num a1, okN a1, ?_, fun k hk => ?_, fun _ => rfl, ?_⟩
    · unfold tellAt
      rw [if_neg (by decide), if_neg (by decide), if_neg (by decide), if_neg (by decide), if_pos rfl]
      exact digits_eq h1.1 h1.2
    · unfold arrearsref18_tell.f
      rw [if_neg (by decide), if_neg (by decide), if_neg (by decide), if_pos (by rfl), decimal_ev a1 h1.1 h1.2 k (by omega)]
      exact tell_num a1 h1.1 h1.2
    · have := num_short h1.1 h1.2; omega
  · refine ⟨num a4, num a4, okN a4, ?_, fun k hk => ?_, fun _ => rfl, ?_⟩
    · unfold tellAt
      rw [if_neg (by decide), if_neg (by decide), if_neg (by decide), if_neg (by decide), if_neg (by decide), if_pos rfl]
      exact digits_eq h4.1 h4.2
    · unfold arrearsref18_tell.f
      rw [if_neg (by decide), if_neg (by decide), if_neg (by decide), if_neg (by decide), if_neg (by decide), if_pos (by rfl), decimal_ev a4 h4.1 h4.2 k (by omega)]
      exact tell_num a4 h4.1 h4.2
    · have := num_short h4.1 h4.2; omega
  · refine ⟨num a5, num a5, okN a5, ?_, fun k hk => ?_, fun _ => rfl, ?_⟩
    · unfold tellAt
      rw [if_neg (by decide), if_neg (by decide), if_neg (by decide), if_neg (by decide), if_neg (by decide), if_neg (by decide)]
      exact digits_eq h5.1 h5.2
    · unfold arrearsref18_tell.f
      rw [if_neg (by decide), if_neg (by decide), if_neg (by decide), if_neg (by decide), if_neg (by decide), if_neg (by decide), decimal_ev a5 h5.1 h5.2 k (by omega)]
      exact tell_num a5 h5.1 h5.2
    · have := num_short h5.1 h5.2; omega
theorem fmt_both (ls : List Nat) (bs : ByteArray) (hls : ∀ l ∈ ls, LetterIn l) (hb : byts bs = ls.map (fun l : Nat => (l : Int))) (hn : ls.length ≤ 5) (h1 : I64 a1) (h2 : I64 a2) (h3 : I64 a3) (h4 : I64 a4) (h5 : I64 a5) (ht : a6.size ≤ 200000) :
    ∀ (d i k : Nat) (line : ByteArray), i + d = ls.length → line.size + d * 200001 ≤ 2000000 → 200100 + d < k →
    ∃ r, fmtL a1 a2 a3 a4 a5 a6 (ls.drop i) line = some r ∧ arrearsref18_Format.l0 k line bs (i : Int) a0 a1 a2 a3 a4 a5 a6 = some r := by
  have hbs : bs.size = ls.length := by rw [← byts_len, hb, List.length_map]
  intro d
  induction d with
  | zero =>
    intro i k line hi hs hk
    obtain ⟨k, rfl⟩ : ∃ m, k = m + 1 := ⟨k - 1, by omega⟩
    refine ⟨if 100 < line.size then (⟨#[]⟩, false) else (line, true), ?_, ?_⟩
    · rw [List.drop_eq_nil_of_le (by omega)]
      rfl
    · unfold arrearsref18_Format.l0
      rw [if_neg (by omega)]
      by_cases c : 100 < line.size
      · rw [if_pos c, if_pos (by omega)]
      · rw [if_neg c, if_neg (by omega)]
  | succ d ih =>
    intro i k line hi hs hk
    obtain ⟨k, rfl⟩ : ∃ m, k = m + 1 := ⟨k - 1, by omega⟩
    have hx : i < ls.length := by omega
    have hd : ls.drop i = ls[i] :: ls.drop (i + 1) := List.drop_eq_getElem_cons hx
    have hbt : bt bs (i : Int) = ((ls[i] : Nat) : Int) := by
      rw [bt_byts, hb, List.getD_eq_getElem?_getD, List.getElem?_map, List.getElem?_eq_getElem hx]
      rfl
    obtain ⟨s, s', may, e1, e2, e3, e4⟩ := tell_both (a0 := a0) (hls _ (List.getElem_mem hx)) h1 h2 h3 h4 h5 ht
    have h32 : (⟨#[32]⟩ : ByteArray).size = 1 := rfl
    rw [hd]
    unfold fmtL arrearsref18_Format.l0
    rw [e1, if_pos (by omega), if_pos (by omega), hbt, e2 k (by omega), Option.bind_some, Option.bind_some]
    cases may with
    | false => exact ⟨_, rfl, rfl⟩
    | true =>
      obtain rfl := e3 rfl
      simp only [if_true]
      rw [if_neg (by omega), if_pos (by omega), if_pos (by rw [ByteArray.size_append, h32]; omega), w64 (x := (i : Int) + 1) (by omega) (by omega), ByteArray.append_assoc]
      exact ih (i + 1) k _ (by omega) (by rw [ByteArray.size_append, ByteArray.size_append, h32]; omega) (by omega)
theorem letters_in (k : Int) : ∀ l ∈ shapeL k, LetterIn l := by
  have key : ∀ L : List Nat, (∀ l ∈ L, l = 65 ∨ l = 82 ∨ l = 84 ∨ l = 70 ∨ l = 76 ∨ l = 67 ∨ l = 68) → ∀ l ∈ L, LetterIn l := fun _ h => h
  unfold shapeL
  by_cases h1 : k = 1
  · rw [if_pos h1]; exact key _ (by decide)
  rw [if_neg h1]
  by_cases h2 : k = 2
  · rw [if_pos h2]; exact key _ (by decide)
  rw [if_neg h2]
  by_cases h4 : k = 4
  · rw [if_pos h4]; exact key _ (by decide)
  rw [if_neg h4]
  by_cases h5 : k = 5
  · rw [if_pos h5]; exact key _ (by decide)
  rw [if_neg h5]
  by_cases h3 : k = 3
  · rw [if_pos h3]; exact key _ (by decide)
  rw [if_neg h3]
  by_cases h15 : k = 15
  · rw [if_pos h15]; exact key _ (by decide)
  rw [if_neg h15]
  by_cases h16 : k = 16
  · rw [if_pos h16]; exact key _ (by decide)
  rw [if_neg h16]
  by_cases h6 : k = 6
  · rw [if_pos h6]; exact key _ (by decide)
  rw [if_neg h6]
  by_cases h7 : k = 7
  · rw [if_pos h7]; exact key _ (by decide)
  rw [if_neg h7]
  by_cases h8 : k = 8
  · rw [if_pos h8]; exact key _ (by decide)
  rw [if_neg h8]
  by_cases h9 : k = 9
  · rw [if_pos h9]; exact key _ (by decide)
  rw [if_neg h9]
  by_cases h10 : k = 10
  · rw [if_pos h10]; exact key _ (by decide)
  rw [if_neg h10]
  by_cases h12 : k = 12
  · rw [if_pos h12]; exact key _ (by decide)
  rw [if_neg h12]
  exact key _ (by decide)
/-- The letters as a text. -/
def shapeB (k : Int) : ByteArray := ⟨((shapeL k).map UInt8.ofNat).toArray⟩
theorem shapeB_byts (k : Int) : byts (shapeB k) = (shapeL k).map (fun l : Nat => (l : Int)) := by
  have key : ∀ L : List Nat, (∀ l ∈ L, LetterIn l) → byts ⟨(L.map UInt8.ofNat).toArray⟩ = L.map (fun l : Nat => (l : Int)) := by
    intro L h
    unfold byts
    rw [List.map_map]
    apply List.map_congr_left
    intro l hl
    have := h l hl
    unfold LetterIn at this
    show ((UInt8.ofNat l).toNat : Int) = _
    rw [UInt8.toNat_ofNat']
    omega
  exact key _ (letters_in k)
theorem shape_ev (x : Int) (k : Nat) (hk : 10 ≤ k) : arrearsref18_shape.f k x = some (shapeB x) := by
  obtain ⟨k, rfl⟩ : ∃ m, k = m + 4 := ⟨k - 4, by omega⟩
  by_cases h1 : x = 1
  · subst h1; rfl
  by_cases h2 : x = 2
  · subst h2; rfl
  by_cases h4 : x = 4
  · subst h4; rfl
  by_cases h5 : x = 5
  · subst h5; rfl
  by_cases h3 : x = 3
  · subst h3; rfl
  by_cases h15 : x = 15
  · subst h15; rfl
  by_cases h16 : x = 16
  · subst h16; rfl
  by_cases h6 : x = 6
  · subst h6; rfl
  by_cases h7 : x = 7
  · subst h7; rfl
  by_cases h8 : x = 8
  · subst h8; rfl
  by_cases h9 : x = 9
  · subst h9; rfl
  by_cases h10 : x = 10
  · subst h10; rfl
  by_cases h12 : x = 12
  · subst h12; rfl
  have hs : shapeB x = ⟨#[]⟩ := by
    unfold shapeB shapeL
    rw [if_neg h1, if_neg h2, if_neg h4, if_neg h5, if_neg h3, if_neg h15, if_neg h16, if_neg h6, if_neg h7, if_neg h8, if_neg h9, if_neg h10, if_neg h12]
    rfl
  rw [hs]
  unfold arrearsref18_shape.f
  rw [if_neg h1, if_neg h2, if_neg h4, beq_eq_false_iff_ne.2 h5]
  rw [show k + 4 = (k + 3) + 1 from rfl]
  unfold arrearsref18_shape.j0
  simp only []
  rw [if_neg (by decide), if_neg h3, if_neg h15, beq_eq_false_iff_ne.2 h16]
  rw [show k + 3 = (k + 2) + 1 from rfl]
  unfold arrearsref18_shape.j1
  simp only []
  rw [if_neg (by decide), if_neg h6, if_neg h7, if_neg h8, beq_eq_false_iff_ne.2 h9]
  rw [show k + 2 = (k + 1) + 1 from rfl]
  unfold arrearsref18_shape.j2
  simp only []
  rw [if_neg (by decide), if_neg h10, if_neg h12]
theorem word_in (x : Int) (h0 : 1 ≤ x) (h1 : x ≤ 21) : arrearsref18_word.f x = some (nameAt x) ∧ (nameAt x).toList ≠ [] ∧ (nameAt x).size ≤ 11 := by
  have h : x = 1 ∨ x = 2 ∨ x = 3 ∨ x = 4 ∨ x = 5 ∨ x = 6 ∨ x = 7 ∨ x = 8 ∨ x = 9 ∨ x = 10 ∨ x = 11 ∨ x = 12 ∨ x = 13 ∨ x = 14 ∨ x = 15 ∨ x = 16 ∨ x = 17 ∨ x = 18 ∨ x = 19 ∨ x = 20 ∨ x = 21 := by omega
  rcases h with rfl | rfl | rfl | rfl | rfl | rfl | rfl | rfl | rfl | rfl | rfl | rfl | rfl | rfl | rfl | rfl | rfl | rfl | rfl | rfl | rfl
  all_goals exact ⟨rfl, by decide +kernel, by decide +kernel⟩
theorem word_out (x : Int) (h : x < 1 ∨ 21 < x) : arrearsref18_word.f x = some ⟨#[]⟩ := by
  unfold arrearsref18_word.f
  rw [if_neg (by omega), if_neg (by omega), if_neg (by omega), if_neg (by omega), if_neg (by omega), if_neg (by omega), if_neg (by omega), if_neg (by omega), if_neg (by omega), if_neg (by omega), if_neg (by omega), if_neg (by omega), if_neg (by omega), if_neg (by omega), if_neg (by omega), if_neg (by omega), if_neg (by omega), if_neg (by omega), if_neg (by omega), if_neg (by omega), if_neg (by omega)]
theorem formats (h0 : I64 a0) (h1 : I64 a1) (h2 : I64 a2) (h3 : I64 a3) (h4 : I64 a4) (h5 : I64 a5) : ∃ k, arrearslaw18_ScriptFormats.f k a0 a1 a2 a3 a4 a5 a6 = some true := by
  refine ⟨300000, ?_⟩
  unfold arrearslaw18_ScriptFormats.f
  by_cases ht : (a6.size : Int) > 200000
  · rw [if_pos ht]
  rw [if_neg ht]
  have hf : ∃ r, script_Format.f a0 a1 a2 a3 a4 a5 a6 = some r ∧ arrearsref18_Format.f 300000 a0 a1 a2 a3 a4 a5 a6 = some r := by
    show ∃ r, fmtF a0 a1 a2 a3 a4 a5 a6 = some r ∧ _
    unfold fmtF arrearsref18_Format.f
    by_cases c0 : a0 < 1
    · rw [if_pos c0, word_out a0 (.inl c0), Option.bind_some, if_pos ((empty_iff _).2 rfl)]
      exact ⟨_, rfl, rfl⟩
    by_cases c1 : 21 < a0
    · rw [if_neg c0, if_pos c1, word_out a0 (.inr c1), Option.bind_some, if_pos ((empty_iff _).2 rfl)]
      exact ⟨_, rfl, rfl⟩
    obtain ⟨e1, e2, e3⟩ := word_in a0 (by omega) (by omega)
    rw [if_neg c0, if_neg c1, e1, Option.bind_some, if_neg e2, shape_ev a0 _ (by omega), Option.bind_some]
    have hl := shapeL_le a0
    exact fmt_both (a0 := a0) (shapeL a0) (shapeB a0) (letters_in a0) (shapeB_byts a0) hl h1 h2 h3 h4 h5 (by omega) (shapeL a0).length 0 300000 (nameAt a0) (by omega) (by omega) (by omega)
  obtain ⟨r, e1, e2⟩ := hf
  rw [e1, e2, Option.bind_some, Option.bind_some, if_pos rfl, beq_self_eq_true]
end Go.Proofs.YtjhodgcjkobpoaaDoor.FPure
