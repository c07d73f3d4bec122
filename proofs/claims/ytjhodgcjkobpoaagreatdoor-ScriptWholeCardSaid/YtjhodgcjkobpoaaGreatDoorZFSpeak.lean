/- Which operations surely have a line, plainly: the law's speakable. No program in sight. -/
import Derived.Test.YtjhodgcjkobpoaaGreatDoorZFLawK
import Derived.Test.YtjhodgcjkobpoaaGreatDoorZPAx14
namespace Go.Proofs.YtjhodgcjkobpoaaGreatDoor.FSpeak
open Go.RowKit Go.Proofs.YtjhodgcjkobpoaaGreatDoorW.PrintWords Go.Proofs.YtjhodgcjkobpoaaGreatDoorW.PrintLast Go.Proofs.YtjhodgcjkobpoaaGreatDoorW.PrintMore Go.Proofs.YtjhodgcjkobpoaaGreatDoor.PA Go.Proofs.YtjhodgcjkobpoaaGreatDoor.MB Go.Proofs.YtjhodgcjkobpoaaGreatDoor.MByt Go.Proofs.YtjhodgcjkobpoaaGreatDoor.FTell Go.Proofs.YtjhodgcjkobpoaaGreatDoor.FFields Go.Proofs.YtjhodgcjkobpoaaGreatDoor.FWhole Go.Proofs.YtjhodgcjkobpoaaGreatDoor.FRead Go.Proofs.YtjhodgcjkobpoaaGreatDoor.FReads Go.Proofs.YtjhodgcjkobpoaaGreatDoor.FKind Go.Proofs.YtjhodgcjkobpoaaGreatDoor.FFormat Go.Proofs.YtjhodgcjkobpoaaGreatDoor.FGap Go.Proofs.YtjhodgcjkobpoaaGreatDoor.FDec Go.Proofs.YtjhodgcjkobpoaaGreatDoor.FParse Go.Proofs.YtjhodgcjkobpoaaGreatDoor.FParse2 Go.Proofs.YtjhodgcjkobpoaaGreatDoor.FBare Go.Proofs.YtjhodgcjkobpoaaGreatDoor.FSp Go.Proofs.YtjhodgcjkobpoaaGreatDoor.FInv Go.Proofs.YtjhodgcjkobpoaaGreatDoor.FLawK
set_option linter.unusedVariables false
set_option linter.unusedSimpArgs false
theorem type_size (x : Int) : (typeAt x).1.size ≤ 200000 := by
  unfold typeAt
  by_cases h0 : x = 0
  · rw [if_pos h0]; decide
  rw [if_neg h0]
  by_cases h1 : x = 1
  · rw [if_pos h1]; decide
  rw [if_neg h1]
  by_cases h2 : x = 2
  · rw [if_pos h2]; decide
  rw [if_neg h2]; decide
/-- Every field can be asked for its word. -/
theorem tl_some {l : Nat} {o : O} (hI : I6 o) (hs : o.a6.size ≤ 200000) : ∃ w b, tl l o = some (w, b) ∧ w.size ≤ 200000 := by
  have hn : ∀ x, I64 x → ∃ w b, script_digits.f x = some (w, b) ∧ w.size ≤ 200000 := fun x hx => ⟨_, _, digits_eq hx.1 hx.2, by have := num_short hx.1 hx.2; omega⟩
  unfold tl tellAt
  split
  · rw [FAmt.format_eq hI.h2, Option.map_some]
    refine ⟨_, _, rfl, ?_⟩
    have := FAmt.fl_len hI.h2
    rw [← FAmt.byts_fl, byts_len] at this
    omega
  split
  · exact hn _ hI.h3
  split
  · exact ⟨_, _, rfl, type_size _⟩
  split
  · exact ⟨_, _, rfl, hs⟩
  split
  · exact hn _ hI.h1
  split
  · exact hn _ hI.h4
  · exact hn _ hI.h5
theorem fmtL_some {o : O} (hI : I6 o) (hs : o.a6.size ≤ 200000) : ∀ (ls : List Nat) (line : ByteArray), line.size + ls.length * 200001 ≤ 9223372036854775807 → ∃ r, fmtL o.a1 o.a2 o.a3 o.a4 o.a5 o.a6 ls line = some r
  | [], line, _ => ⟨_, rfl⟩
  | l :: ls, line, h => by
    obtain ⟨w, b, h1, h2⟩ := tl_some (l := l) hI hs
    have h1 : tellAt l o.a1 o.a2 o.a3 o.a4 o.a5 o.a6 = some (w, b) := h1
    rw [List.length_cons, Nat.succ_mul] at h
    unfold fmtL
    rw [h1, Option.bind_some]
    cases b with
    | false => exact ⟨_, rfl⟩
    | true =>
      rw [if_pos rfl, if_neg (show ¬ 9223372036854775807 < line.size + (1 + w.size) by omega)]
      refine fmtL_some hI hs ls _ ?_
      rw [ByteArray.size_append, ByteArray.size_append]
      have : (⟨#[32]⟩ : ByteArray).size = 1 := rfl
      show line.size + ((⟨#[32]⟩ : ByteArray).size + w.size) + _ ≤ _
      omega
theorem fmtF_some {o : O} (hI : I6 o) (hs : o.a6.size ≤ 200000) : ∃ t b, fmtF o.a0 o.a1 o.a2 o.a3 o.a4 o.a5 o.a6 = some (t, b) := by
  unfold fmtF
  split
  · exact ⟨_, _, rfl⟩
  split
  · exact ⟨_, _, rfl⟩
  rename_i h0 h1
  have h2 : (nameAt o.a0).size ≤ 11 := by
    have h : o.a0 = 1 ∨ o.a0 = 2 ∨ o.a0 = 3 ∨ o.a0 = 4 ∨ o.a0 = 5 ∨ o.a0 = 6 ∨ o.a0 = 7 ∨ o.a0 = 8 ∨ o.a0 = 9 ∨ o.a0 = 10 ∨ o.a0 = 11 ∨ o.a0 = 12 ∨ o.a0 = 13 ∨ o.a0 = 14 ∨ o.a0 = 15 ∨ o.a0 = 16 ∨ o.a0 = 17 ∨ o.a0 = 18 ∨ o.a0 = 19 ∨ o.a0 = 20 ∨ o.a0 = 21 := by omega
    rcases h with h | h | h | h | h | h | h | h | h | h | h | h | h | h | h | h | h | h | h | h | h <;> (rw [h]; decide +kernel)
  have h3 := shapeL_le o.a0
  obtain ⟨⟨t, b⟩, h⟩ := fmtL_some hI hs (shapeL o.a0) (nameAt o.a0) (by omega)
  exact ⟨t, b, h⟩
/-- An operation that surely has a line. -/
structure SP (o : O) : Prop where
  k0 : 1 ≤ o.a0
  k1 : o.a0 ≤ 21
  h1 : -1000000000 < o.a1 ∧ o.a1 < 1000000000
  h4 : -1000000000 < o.a4 ∧ o.a4 < 1000000000
  h5 : -1000000000 < o.a5 ∧ o.a5 < 1000000000
  h3 : -1000000000 < o.a3 ∧ o.a3 < 1000000000
  ht : o.a0 = 1 → 0 ≤ o.a5 ∧ o.a5 ≤ 2
  hf : o.a0 = 10 → NoGap o.a6 ∧ 0 < o.a6.size ∧ o.a6.size ≤ 60
theorem num_nine {x : Int} (h : -1000000000 < x ∧ x < 1000000000) : (num x).size ≤ 10 := by
  by_cases h0 : x = 0
  · subst h0; decide +kernel
  rw [num_len h0]
  have := digs_len 9 x.natAbs (by omega)
  split <;> omega
theorem digits_nine {x : Int} (h : -1000000000 < x ∧ x < 1000000000) : script_digits.f x = some (num x, true) := by
  rw [digits_eq (by omega) (by omega)]
  have : okN x = true := decide_eq_true (by omega)
  rw [this]
def room (l : Nat) : Nat := if l = 65 then 21 else if l = 70 then 60 else 10
theorem tl_speak {o : O} (hI : I6 o) (h : SP o) {l : Nat} (ht : l = 84 → 0 ≤ o.a5 ∧ o.a5 ≤ 2) (hf : l = 70 → NoGap o.a6 ∧ 0 < o.a6.size ∧ o.a6.size ≤ 60) : ∃ w, tl l o = some (w, true) ∧ w.size ≤ room l := by
  have hn : ∀ x, (-1000000000 < x ∧ x < 1000000000) → ∃ w, script_digits.f x = some (w, true) ∧ w.size ≤ 10 := fun x hx => ⟨_, digits_nine hx, num_nine hx⟩
  unfold tl tellAt room
  by_cases h1 : l = 65
  · rw [if_pos h1, if_pos h1, FAmt.format_eq hI.h2, Option.map_some]
    refine ⟨_, rfl, ?_⟩
    have := FAmt.fl_len hI.h2
    rw [← FAmt.byts_fl, byts_len] at this
    exact this
  rw [if_neg h1, if_neg h1]
  by_cases h2 : l = 82
  · rw [if_pos h2, if_neg (by omega)]; exact hn _ h.h3
  rw [if_neg h2]
  by_cases h3 : l = 84
  · rw [if_pos h3, if_neg (by omega)]
    obtain ⟨e1, e2⟩ := ht h3
    have : o.a5 = 0 ∨ o.a5 = 1 ∨ o.a5 = 2 := by omega
    rcases this with e | e | e <;> (rw [e]; exact ⟨_, rfl, by decide⟩)
  rw [if_neg h3]
  by_cases h4 : l = 70
  · rw [if_pos h4, if_pos h4]
    obtain ⟨e1, e2, e3⟩ := hf h4
    refine ⟨o.a6, ?_, e3⟩
    unfold fatesAt
    rw [if_neg (fun e => ?_), (noGap_iff _).2 e1]
    · rfl
    · have : o.a6.data.toList = [] := by rw [← ByteArray.toList_eq]; exact e
      have := congrArg List.length this
      rw [ba_len] at this
      have h0 : o.a6.size = 0 := this
      omega
  rw [if_neg h4, if_neg h4]
  by_cases h5 : l = 76
  · rw [if_pos h5]; exact hn _ h.h1
  rw [if_neg h5]
  by_cases h6 : l = 67
  · rw [if_pos h6]; exact hn _ h.h4
  rw [if_neg h6]; exact hn _ h.h5
theorem tw_speak {o : O} : ∀ (ls : List Nat), (∀ l ∈ ls, ∃ w, tl l o = some (w, true) ∧ w.size ≤ room l) → ∃ ws, TW o ls ws ∧ tot ws ≤ (ls.map fun l => room l + 1).sum
  | [], _ => ⟨[], trivial, Nat.le_refl _⟩
  | l :: ls, h => by
    obtain ⟨w, h1, h2⟩ := h l (List.mem_cons_self ..)
    obtain ⟨ws, h3, h4⟩ := tw_speak ls (fun m hm => h m (List.mem_cons_of_mem _ hm))
    refine ⟨w :: ws, ⟨h1, h3⟩, ?_⟩
    rw [List.map_cons, List.sum_cons]
    show w.size + 1 + tot ws ≤ _
    omega
theorem jb_len (w0 : ByteArray) (ws : List ByteArray) : (jb w0 ws).size = w0.size + tot ws := by
  have := congrArg List.length (jb_data ws w0)
  rw [jn_len, ba_len, ba_len] at this
  exact this
theorem name_small (x : Int) (h0 : 1 ≤ x) (h1 : x ≤ 21) : (nameAt x).size ≤ 11 ∧ ((shapeL x).map fun l => room l + 1).sum ≤ 66 ∧ (84 ∈ shapeL x → x = 1) ∧ (70 ∈ shapeL x → x = 10) := by
  have h : x = 1 ∨ x = 2 ∨ x = 3 ∨ x = 4 ∨ x = 5 ∨ x = 6 ∨ x = 7 ∨ x = 8 ∨ x = 9 ∨ x = 10 ∨ x = 11 ∨ x = 12 ∨ x = 13 ∨ x = 14 ∨ x = 15 ∨ x = 16 ∨ x = 17 ∨ x = 18 ∨ x = 19 ∨ x = 20 ∨ x = 21 := by omega
  rcases h with rfl | rfl | rfl | rfl | rfl | rfl | rfl | rfl | rfl | rfl | rfl | rfl | rfl | rfl | rfl | rfl | rfl | rfl | rfl | rfl | rfl
  all_goals exact ⟨by decide +kernel, by decide +kernel, by decide +kernel, by decide +kernel⟩
theorem speak_fmt {o : O} (hI : I6 o) (h : SP o) : ∃ t, fmtF o.a0 o.a1 o.a2 o.a3 o.a4 o.a5 o.a6 = some (t, true) := by
  obtain ⟨e1, e2, e3, e4⟩ := name_small o.a0 h.k0 h.k1
  obtain ⟨ws, h1, h2⟩ := tw_speak (o := o) (shapeL o.a0) (fun l hl => tl_speak hI h (fun e => h.ht (e3 (e ▸ hl))) (fun e => h.hf (e4 (e ▸ hl))))
  refine ⟨jb (nameAt o.a0) ws, ?_⟩
  have := h.k0
  have := h.k1
  unfold fmtF
  rw [if_neg (by omega), if_neg (by omega)]
  exact fmtL_tw _ ws _ o h1 (by rw [jb_len]; omega)
theorem plain_ev (s : ByteArray) (hs : s.size ≤ 9223372036854775807) : ∀ (d i k : Nat), i + d = s.size → d < k → ∃ b, arrearslaw18_plain.l0 k s (i : Int) = some b ∧ (b = true → (∀ j, i ≤ j → j < s.size → ¬ Gap s j) ∧ 0 < s.size ∧ s.size ≤ 60)
  | 0, i, k, hi, hk => by
    obtain ⟨k, rfl⟩ : ∃ m, k = m + 1 := ⟨k - 1, by omega⟩
    unfold arrearslaw18_plain.l0
    rw [if_neg (by omega)]
    split
    · exact ⟨_, rfl, fun h => ⟨fun j h1 h2 => absurd h2 (by omega), by omega, by have := of_decide_eq_true h; omega⟩⟩
    · exact ⟨_, rfl, fun h => by cases h⟩
  | d + 1, i, k, hi, hk => by
    obtain ⟨k, rfl⟩ : ∃ m, k = m + 1 := ⟨k - 1, by omega⟩
    unfold arrearslaw18_plain.l0
    rw [if_pos (by omega), if_pos (by omega)]
    by_cases h1 : bt s (i : Int) = 32
    · rw [if_pos h1]; exact ⟨_, rfl, fun h => by cases h⟩
    rw [if_neg h1]
    by_cases h2 : bt s (i : Int) = 10
    · rw [if_pos h2]; exact ⟨_, rfl, fun h => by cases h⟩
    rw [if_neg h2, show wrap64 ((i : Int) + 1) = ((i + 1 : Nat) : Int) by unfold wrap64; omega]
    obtain ⟨b, h3, h4⟩ := plain_ev s hs d (i + 1) k (by omega) (by omega)
    refine ⟨b, h3, fun hb => ?_⟩
    obtain ⟨h5, h6⟩ := h4 hb
    refine ⟨fun j hj1 hj2 => ?_, h6⟩
    rcases Nat.eq_or_lt_of_le hj1 with rfl | hj3
    · unfold Gap; omega
    · exact h5 j hj3 hj2
theorem few_eq (x : Int) : arrearslaw18_few.f x = some (decide (-1000000000 < x ∧ x < 1000000000)) := by
  unfold arrearslaw18_few.f
  split
  · congr 1
    by_cases h : x < 1000000000
    · rw [decide_eq_true h, decide_eq_true ⟨by omega, h⟩]
    · rw [decide_eq_false h, decide_eq_false (fun e => h e.2)]
  · rw [decide_eq_false (fun e => by omega)]
theorem speakable_ev (o : O) (hs : o.a6.size ≤ 9223372036854775807) : ∃ b, arrearslaw18_speakable.f (o.a6.size + 3) o.a0 o.a1 o.a2 o.a3 o.a4 o.a5 o.a6 = some b ∧ (b = true → SP o) := by
  have hj : ∀ c, ∃ b, arrearslaw18_speakable.j0 (o.a6.size + 3) c o.a0 o.a1 o.a2 o.a3 o.a4 o.a5 o.a6 = some b ∧ (b = true → c = false ∧ (o.a0 = 1 → 0 ≤ o.a5 ∧ o.a5 ≤ 2) ∧ (o.a0 = 10 → NoGap o.a6 ∧ 0 < o.a6.size ∧ o.a6.size ≤ 60)) := by
    intro c
    rw [show o.a6.size + 3 = (o.a6.size + 2) + 1 from rfl]
    simp only [arrearslaw18_speakable.j0]
    cases c with
    | true => rw [if_pos rfl]; exact ⟨_, rfl, fun h => by cases h⟩
    | false =>
      rw [if_neg (by decide)]
      by_cases h1 : o.a0 = 1
      · rw [if_pos h1]
        split
        · exact ⟨_, rfl, fun h => ⟨rfl, fun _ => ⟨by omega, of_decide_eq_true h⟩, fun h2 => absurd h2 (by omega)⟩⟩
        · exact ⟨_, rfl, fun h => by cases h⟩
      rw [if_neg h1]
      by_cases h2 : o.a0 = 10
      · rw [if_pos h2]
        obtain ⟨b, h3, h4⟩ := plain_ev o.a6 hs o.a6.size 0 (o.a6.size + 2) (by omega) (by omega)
        unfold arrearslaw18_plain.f
        rw [show (0 : Int) = ((0 : Nat) : Int) from rfl, h3, Option.bind_some]
        refine ⟨b, rfl, fun hb => ⟨rfl, fun h => absurd h h1, fun _ => ?_⟩⟩
        obtain ⟨h5, h6, h7⟩ := h4 hb
        exact ⟨(noGap_iff _).1 ((no_gap _).2 (fun j hj => h5 j (Nat.zero_le _) hj)), h6, h7⟩
      rw [if_neg h2]
      exact ⟨_, rfl, fun _ => ⟨rfl, fun h => absurd h h1, fun h => absurd h h2⟩⟩
  obtain ⟨bt, ht1, ht2⟩ := hj true
  have hbt : bt = false := by
    cases bt with
    | false => rfl
    | true => exact absurd (ht2 rfl).1 (by decide)
  subst hbt
  unfold arrearslaw18_speakable.f
  by_cases h0 : o.a0 < 1
  · rw [if_pos h0]; exact ⟨_, ht1, fun h => by cases h⟩
  rw [if_neg h0]
  by_cases h1 : o.a0 > 21
  · rw [if_pos h1]; exact ⟨_, ht1, fun h => by cases h⟩
  rw [if_neg h1, few_eq, few_eq, few_eq, few_eq, Option.bind_some]
  by_cases c1 : -1000000000 < o.a1 ∧ o.a1 < 1000000000
  · rw [decide_eq_true c1, if_pos rfl, Option.bind_some]
    by_cases c4 : -1000000000 < o.a4 ∧ o.a4 < 1000000000
    · rw [decide_eq_true c4, if_pos rfl, Option.bind_some]
      by_cases c5 : -1000000000 < o.a5 ∧ o.a5 < 1000000000
      · rw [decide_eq_true c5, if_pos rfl, Option.bind_some]
        by_cases c3 : -1000000000 < o.a3 ∧ o.a3 < 1000000000
        · rw [decide_eq_true c3]
          obtain ⟨b, h2, h3⟩ := hj false
          exact ⟨b, h2, fun hb => ⟨by omega, by omega, c1, c4, c5, c3, (h3 hb).2.1, (h3 hb).2.2⟩⟩
        · rw [decide_eq_false c3]; exact ⟨_, ht1, fun h => by cases h⟩
      · rw [decide_eq_false c5, if_neg (by decide)]; exact ⟨_, ht1, fun h => by cases h⟩
    · rw [decide_eq_false c4, if_neg (by decide)]; exact ⟨_, ht1, fun h => by cases h⟩
  · rw [decide_eq_false c1, if_neg (by decide)]; exact ⟨_, ht1, fun h => by cases h⟩
end Go.Proofs.YtjhodgcjkobpoaaGreatDoor.FSpeak
