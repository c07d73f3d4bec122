/- The document's Parse, piece by piece, plainly: its words, its fields. No program in sight. -/
import Derived.Test.YtjhodgcjkobpoaaGreatDoorYFInv
import Derived.Test.YtjhodgcjkobpoaaGreatDoorYRText
import Derived.Test.YtjhodgcjkobpoaaGreatDoorYPAx8
import Derived.Test.YtjhodgcjkobpoaaGreatDoorYPAx12
import Derived.Test.YtjhodgcjkobpoaaGreatDoorYPAx11
namespace Go.Proofs.YtjhodgcjkobpoaaGreatDoor.RefQ
open Go.RowKit Go.Proofs.YtjhodgcjkobpoaaGreatDoor.PA Go.Proofs.YtjhodgcjkobpoaaGreatDoorW.PrintWords Go.Proofs.YtjhodgcjkobpoaaGreatDoorW.PrintLast Go.Proofs.YtjhodgcjkobpoaaGreatDoorW.PrintMore Go.Proofs.YtjhodgcjkobpoaaGreatDoor.MB Go.Proofs.YtjhodgcjkobpoaaGreatDoor.MByt Go.Proofs.YtjhodgcjkobpoaaGreatDoor.MDig Go.Proofs.YtjhodgcjkobpoaaGreatDoor.FTell Go.Proofs.YtjhodgcjkobpoaaGreatDoor.FFields Go.Proofs.YtjhodgcjkobpoaaGreatDoor.FWhole Go.Proofs.YtjhodgcjkobpoaaGreatDoor.FReads Go.Proofs.YtjhodgcjkobpoaaGreatDoor.FKind Go.Proofs.YtjhodgcjkobpoaaGreatDoor.FFormat Go.Proofs.YtjhodgcjkobpoaaGreatDoor.FDec Go.Proofs.YtjhodgcjkobpoaaGreatDoor.FParse Go.Proofs.YtjhodgcjkobpoaaGreatDoor.FParse2 Go.Proofs.YtjhodgcjkobpoaaGreatDoor.FSp Go.Proofs.YtjhodgcjkobpoaaGreatDoor.FInv
set_option linter.unusedVariables false
set_option linter.unusedSimpArgs false
def LetterIn (l : Nat) : Prop := l = 65 ∨ l = 82 ∨ l = 84 ∨ l = 70 ∨ l = 76 ∨ l = 67 ∨ l = 68
theorem letters_in (k : Int) : ∀ l ∈ shapeL k, LetterIn l := by
  have key : ∀ L : List Nat, (∀ l ∈ L, l = 65 ∨ l = 82 ∨ l = 84 ∨ l = 70 ∨ l = 76 ∨ l = 67 ∨ l = 68) → ∀ l ∈ L, LetterIn l := fun _ h => h
  unfold shapeL
  by_cases h1 : k = 1
  · rw [if_pos h1]; exact key _ (by decide)
  rw [if_neg h1]
  by_cases h2 : k = 2
  · rw [if_pos h2]; exact key _ (by decide)
  rw [if_neg h2]
  by_cases h4 : k = 4
  · rw [if_pos h4]; exact key _ (by decide)
  rw [if_neg h4]
  by_cases h5 : k = 5
  · rw [if_pos h5]; exact key _ (by decide)
  rw [if_neg h5]
  by_cases h3 : k = 3
  · rw [if_pos h3]; exact key _ (by decide)
  rw [if_neg h3]
  by_cases h15 : k = 15
  · rw [if_pos h15]; exact key _ (by decide)
  rw [if_neg h15]
  by_cases h16 : k = 16
  · rw [if_pos h16]; exact key _ (by decide)
  rw [if_neg h16]
  by_cases h6 : k = 6
  · rw [if_pos h6]; exact key _ (by decide)
  rw [if_neg h6]
  by_cases h7 : k = 7
  · rw [if_pos h7]; exact key _ (by decide)
  rw [if_neg h7]
  by_cases h8 : k = 8
  · rw [if_pos h8]; exact key _ (by decide)
  rw [if_neg h8]
  by_cases h9 : k = 9
  · rw [if_pos h9]; exact key _ (by decide)
  rw [if_neg h9]
  by_cases h10 : k = 10
  · rw [if_pos h10]; exact key _ (by decide)
  rw [if_neg h10]
  by_cases h12 : k = 12
  · rw [if_pos h12]; exact key _ (by decide)
  rw [if_neg h12]
  exact key _ (by decide)
/-- The letters as a text. -/
def shapeB (k : Int) : ByteArray := ⟨((shapeL k).map UInt8.ofNat).toArray⟩
theorem shapeB_byts (k : Int) : byts (shapeB k) = (shapeL k).map (fun l : Nat => (l : Int)) := by
  have key : ∀ L : List Nat, (∀ l ∈ L, LetterIn l) → byts ⟨(L.map UInt8.ofNat).toArray⟩ = L.map (fun l : Nat => (l : Int)) := by
    intro L h
    unfold byts
    rw [List.map_map]
    apply List.map_congr_left
    intro l hl
    have := h l hl
    unfold LetterIn at this
    show ((UInt8.ofNat l).toNat : Int) = _
    rw [UInt8.toNat_ofNat']
    omega
  exact key _ (letters_in k)
theorem shape_ev (x : Int) (k : Nat) (hk : 10 ≤ k) : arrearsref18_shape.f k x = some (shapeB x) := by
  obtain ⟨k, rfl⟩ : ∃ m, k = m + 4 := ⟨k - 4, by omega⟩
  by_cases h1 : x = 1
  · subst h1; rfl
  by_cases h2 : x = 2
  · subst h2; rfl
  by_cases h4 : x = 4
  · subst h4; rfl
  by_cases h5 : x = 5
  · subst h5; rfl
  by_cases h3 : x = 3
  · subst h3; rfl
  by_cases h15 : x = 15
  · subst h15; rfl
  by_cases h16 : x = 16
  · subst h16; rfl
  by_cases h6 : x = 6
  · subst h6; rfl
  by_cases h7 : x = 7
  · subst h7; rfl
  by_cases h8 : x = 8
  · subst h8; rfl
  by_cases h9 : x = 9
  · subst h9; rfl
  by_cases h10 : x = 10
  · subst h10; rfl
  by_cases h12 : x = 12
  · subst h12; rfl
  have hs : shapeB x = ⟨#[]⟩ := by
    unfold shapeB shapeL
    rw [if_neg h1, if_neg h2, if_neg h4, if_neg h5, if_neg h3, if_neg h15, if_neg h16, if_neg h6, if_neg h7, if_neg h8, if_neg h9, if_neg h10, if_neg h12]
    rfl
  rw [hs]
  unfold arrearsref18_shape.f
  rw [if_neg h1, if_neg h2, if_neg h4, beq_eq_false_iff_ne.2 h5]
  rw [show k + 4 = (k + 3) + 1 from rfl]
  unfold arrearsref18_shape.j0
  simp only []
  rw [if_neg (by decide), if_neg h3, if_neg h15, beq_eq_false_iff_ne.2 h16]
  rw [show k + 3 = (k + 2) + 1 from rfl]
  unfold arrearsref18_shape.j1
  simp only []
  rw [if_neg (by decide), if_neg h6, if_neg h7, if_neg h8, beq_eq_false_iff_ne.2 h9]
  rw [show k + 2 = (k + 1) + 1 from rfl]
  unfold arrearsref18_shape.j2
  simp only []
  rw [if_neg (by decide), if_neg h10, if_neg h12]
theorem word_in (x : Int) (h0 : 1 ≤ x) (h1 : x ≤ 21) : arrearsref18_word.f x = some (nameAt x) ∧ (nameAt x).toList ≠ [] ∧ (nameAt x).size ≤ 11 := by
  have h : x = 1 ∨ x = 2 ∨ x = 3 ∨ x = 4 ∨ x = 5 ∨ x = 6 ∨ x = 7 ∨ x = 8 ∨ x = 9 ∨ x = 10 ∨ x = 11 ∨ x = 12 ∨ x = 13 ∨ x = 14 ∨ x = 15 ∨ x = 16 ∨ x = 17 ∨ x = 18 ∨ x = 19 ∨ x = 20 ∨ x = 21 := by omega
  rcases h with rfl | rfl | rfl | rfl | rfl | rfl | rfl | rfl | rfl | rfl | rfl | rfl | rfl | rfl | rfl | rfl | rfl | rfl | rfl | rfl | rfl
  all_goals exact ⟨rfl, by decide +kernel, by decide +kernel⟩
theorem word_out (x : Int) (h : x < 1 ∨ 21 < x) : arrearsref18_word.f x = some ⟨#[]⟩ := by
  unfold arrearsref18_word.f
  rw [if_neg (by omega), if_neg (by omega), if_neg (by omega), if_neg (by omega), if_neg (by omega), if_neg (by omega), if_neg (by omega), if_neg (by omega), if_neg (by omega), if_neg (by omega), if_neg (by omega), if_neg (by omega), if_neg (by omega), if_neg (by omega), if_neg (by omega), if_neg (by omega), if_neg (by omega), if_neg (by omega), if_neg (by omega), if_neg (by omega), if_neg (by omega)]

/-! ### the first blank -/
theorem rd_nat (l : List Int) (i : Nat) : rd l (i : Int) = l.getD i 0 := by
  show l.getD ((i : Int)).toNat 0 = _
  rw [Int.toNat_natCast]
/-- From the place i on the bytes b come, no blank among them, and then a blank or the end. -/
def Upto (L : List Int) (i : Nat) (b : List Int) : Prop := (L.drop i).take b.length = b ∧ i + b.length ≤ L.length ∧ (∀ c ∈ b, c ≠ 32) ∧ (i + b.length = L.length ∨ L.getD (i + b.length) 0 = 32)
theorem fieldEnd_at (L : List Int) (hL : L.length ≤ 1000000) : ∀ (b : List Int) (i k : Nat), Upto L i b → b.length < k → arrearsref18_fieldEnd.l0 k L (i : Int) = some ((i + b.length : Nat) : Int)
  | [], i, k, h, hk => by
    obtain ⟨k, rfl⟩ : ∃ m, k = m + 1 := ⟨k - 1, by simp at hk; omega⟩
    obtain ⟨_, h2, _, h4⟩ := h
    rw [List.length_nil, Nat.add_zero] at h2 h4
    unfold arrearsref18_fieldEnd.l0
    rw [List.length_nil, Nat.add_zero]
    rcases h4 with h4 | h4
    · rw [if_neg (by omega)]
    · by_cases hi : (i : Int) < (L.length : Int)
      · rw [if_pos hi, if_pos (by omega), rd_nat, if_pos h4]
      · rw [if_neg hi]
  | c :: b, i, k, h, hk => by
    obtain ⟨k, rfl⟩ : ∃ m, k = m + 1 := ⟨k - 1, by simp at hk; omega⟩
    obtain ⟨h1, h2, h3, h4⟩ := h
    rw [List.length_cons] at h1 h2 h4 hk
    have hi : i < L.length := by omega
    rw [List.drop_eq_getElem_cons hi, List.take_succ_cons] at h1
    injection h1 with e1 e2
    have hrd : L.getD i 0 = c := by rw [List.getD_eq_getElem?_getD, List.getElem?_eq_getElem hi]; exact e1
    unfold arrearsref18_fieldEnd.l0
    rw [if_pos (by omega), if_pos (by omega), rd_nat, hrd, if_neg (h3 c (List.mem_cons_self ..)), show wrap64 ((i : Int) + 1) = ((i + 1 : Nat) : Int) by unfold wrap64; omega, List.length_cons,
      fieldEnd_at L hL b (i + 1) k ⟨e2, by omega, fun x hx => h3 x (List.mem_cons_of_mem _ hx), by rw [show i + 1 + b.length = i + (b.length + 1) by omega]; exact h4⟩ (by omega)]
    congr 2
    omega
theorem blanks_at (L : List Int) (hL : L.length ≤ 1000000) : ∀ (d i n k : Nat), i + d = L.length → d < k → n ≤ i → arrearsref18_blanks.l0 k L (n : Int) (i : Int) = some ((n + (L.drop i).count 32 : Nat) : Int)
  | 0, i, n, k, hi, hk, hn => by
    obtain ⟨k, rfl⟩ : ∃ m, k = m + 1 := ⟨k - 1, by omega⟩
    unfold arrearsref18_blanks.l0
    rw [if_neg (by omega), List.drop_eq_nil_of_le (by omega)]
    rfl
  | d + 1, i, n, k, hi, hk, hn => by
    obtain ⟨k, rfl⟩ : ∃ m, k = m + 1 := ⟨k - 1, by omega⟩
    have hlt : i < L.length := by omega
    have hrd : L.getD i 0 = L[i] := by rw [List.getD_eq_getElem?_getD, List.getElem?_eq_getElem hlt]; rfl
    unfold arrearsref18_blanks.l0
    rw [if_pos (by omega), if_pos (by omega), rd_nat, hrd, List.drop_eq_getElem_cons hlt, show wrap64 ((i : Int) + 1) = ((i + 1 : Nat) : Int) by unfold wrap64; omega]
    by_cases h : L[i] = 32
    · rw [if_pos h, show wrap64 ((n : Int) + 1) = ((n + 1 : Nat) : Int) by unfold wrap64; omega, blanks_at L hL d (i + 1) (n + 1) k (by omega) (by omega) (by omega), h, List.count_cons_self]
      congr 2
      omega
    · rw [if_neg h, blanks_at L hL d (i + 1) n k (by omega) (by omega) (by omega), List.count_cons_of_ne h]
/-! ### a field put -/
theorem wbt (s : ByteArray) (i : Nat) (h : i < s.data.toList.length) : bt s (i : Int) = ((s.data.toList[i]).toNat : Int) := by
  rw [bt_byts]
  unfold byts
  rw [List.getD_eq_getElem?_getD, List.getElem?_map, List.getElem?_eq_getElem h]
  rfl
def fin (m : Bool) (v : Option Int) : Option Int := v.map fun n => if m = true then -n else n
def ans (v : Option Int) : Int × Bool := (v.getD 0, v.isSome)
theorem whole_loop (s : ByteArray) (m : Bool) (hs : s.size ≤ 18) : ∀ (d i k : Nat) (x : Int), i + d = s.size → d < k → 0 ≤ x → x < 10 ^ i → arrearsref18_whole.l0 k s m x (i : Int) = some (ans (fin m (wrun (s.data.toList.drop i) x)))
  | 0, i, k, x, hi, hk, h0, h1 => by
    obtain ⟨k, rfl⟩ : ∃ m, k = m + 1 := ⟨k - 1, by omega⟩
    have hp : (10 : Int) ^ i ≤ 10 ^ 18 := pow_le (by omega)
    unfold arrearsref18_whole.l0
    rw [if_neg (by omega), List.drop_eq_nil_of_le (by rw [ba_len]; omega)]
    show _ = some (ans (fin m (some x)))
    cases m with
    | true => rw [if_pos rfl, show wrap64 (-x) = -x by unfold wrap64; omega]; rfl
    | false => rw [if_neg (by decide)]; rfl
  | d + 1, i, k, x, hi, hk, h0, h1 => by
    obtain ⟨k, rfl⟩ : ∃ m, k = m + 1 := ⟨k - 1, by omega⟩
    have hlt : i < s.data.toList.length := by rw [ba_len]; omega
    have hp : (10 : Int) ^ i ≤ 10 ^ 17 := pow_le (by omega)
    have hb := (s.data.toList[i]).toNat_lt
    unfold arrearsref18_whole.l0
    rw [if_pos (by omega), if_pos (by omega), wbt s i hlt, List.drop_eq_getElem_cons hlt]
    unfold wrun
    by_cases c1 : ((s.data.toList[i]).toNat : Int) < 48
    · rw [if_pos c1, if_neg (by omega)]; rfl
    rw [if_neg c1]
    by_cases c2 : ((s.data.toList[i]).toNat : Int) > 57
    · rw [if_pos c2, if_neg (by omega)]; rfl
    rw [if_neg c2, if_pos (by omega)]
    have e1 : wrap64 ((wrap64 (10 * x)) + ((((s.data.toList[i]).toNat : Int) - 48) % 256)) = x * 10 + (((s.data.toList[i]).toNat : Int) - 48) := by
      rw [show wrap64 (10 * x) = 10 * x by unfold wrap64; omega]
      unfold wrap64
      omega
    rw [e1, show wrap64 ((i : Int) + 1) = ((i + 1 : Nat) : Int) by unfold wrap64; omega]
    refine whole_loop s m hs d (i + 1) k _ (by omega) (by omega) (by omega) ?_
    rw [Int.pow_succ]
    omega
theorem head_get {l : List UInt8} (h : 0 < l.length) : l.headD 0 = l[0] := by
  cases l with
  | nil => cases h
  | cons a l => rfl
theorem whole_j1 (s : ByteArray) (m : Bool) (k : Nat) (hk : 30 ≤ k) : arrearsref18_whole.j1 k s m = some (ans (if wBad s.data.toList m then none else fin m (wrun s.data.toList 0))) := by
  obtain ⟨k, rfl⟩ : ∃ q, k = q + 2 := ⟨k - 2, by omega⟩
  have hl := ba_len s
  have hj : ∀ b, arrearsref18_whole.j2 (k + 1) s m b = if b = true then some (0, false) else arrearsref18_whole.l0 k s m 0 0 := fun b => rfl
  have h0 : ∀ (h : s.size ≤ 18), arrearsref18_whole.l0 k s m 0 0 = some (ans (fin m (wrun s.data.toList 0))) := fun h => by
    have := whole_loop s m h s.size 0 k 0 (by omega) (by omega) (Int.le_refl _) (by decide)
    rwa [List.drop_zero] at this
  show arrearsref18_whole.j1 (k + 1 + 1) s m = _
  simp only [arrearsref18_whole.j1]
  by_cases c1 : (s.size : Int) < 1
  · rw [if_pos c1, hj, if_pos rfl, if_pos (.inl (List.eq_nil_of_length_eq_zero (by omega)))]; rfl
  rw [if_neg c1]
  by_cases c2 : (s.size : Int) > 18
  · rw [if_pos c2, hj, if_pos rfl, if_pos (.inr (.inl (by omega)))]; rfl
  rw [if_neg c2, if_pos (by omega)]
  have hne : s.data.toList ≠ [] := fun e => by rw [e] at hl; simp at hl; omega
  have hlt : 0 < s.data.toList.length := by omega
  have hh : s.data.toList.headD 0 = s.data.toList[0] := head_get hlt
  have hb : bt s 0 = ((s.data.toList[0]).toNat : Int) := wbt s 0 hlt
  rw [hb]
  by_cases c3 : ((s.data.toList[0]).toNat : Int) = 48
  · have h48 : s.data.toList.headD 0 = 48 := by rw [hh]; exact u8_inj c3
    rw [if_pos c3]
    cases m with
    | true => rw [if_pos rfl, hj, if_pos rfl, if_pos (.inr (.inr ⟨h48, .inl rfl⟩))]; rfl
    | false =>
      rw [if_neg (by decide), hj]
      by_cases c4 : (s.size : Int) > 1
      · rw [decide_eq_true c4, if_pos rfl, if_pos (.inr (.inr ⟨h48, .inr (by omega)⟩))]; rfl
      · rw [decide_eq_false c4, if_neg (by decide), h0 (by omega), if_neg]
        rintro (h | h | ⟨_, h | h⟩)
        · exact hne h
        · omega
        · cases h
        · omega
  · rw [if_neg c3, hj, if_neg (by decide), h0 (by omega), if_neg]
    rintro (h | h | ⟨h, _⟩)
    · exact hne h
    · omega
    · rw [hh] at h
      exact c3 (by rw [h]; rfl)
theorem whole_ev (s : ByteArray) (k : Nat) (hk : 31 ≤ k) : arrearsref18_whole.f k s = some (ans (wv s)) := by
  obtain ⟨k, rfl⟩ : ∃ q, k = q + 1 := ⟨k - 1, by omega⟩
  have hl := ba_len s
  have hv : wv s = if wBad (wD s) (wM s) then none else fin (wM s) (wrun (wD s) 0) := rfl
  have hx : ∀ (t : ByteArray) (m : Bool), t.data.toList = wD s → wM s = m → arrearsref18_whole.j1 k t m = some (ans (wv s)) := fun t m h1 h2 => by
    rw [whole_j1 t m k (by omega), hv, h1, h2]
  unfold arrearsref18_whole.f
  by_cases c1 : (s.size : Int) > 0
  · rw [if_pos c1, if_pos (by omega)]
    have hlt : 0 < s.data.toList.length := by omega
    have hb : bt s 0 = ((s.data.toList[0]).toNat : Int) := wbt s 0 hlt
    simp only [arrearsref18_whole.j0]
    by_cases c2 : bt s 0 = 45
    · have h45 : s.data.toList[0] = 45 := u8_inj (by rw [← hb, c2]; rfl)
      have hs : s.data.toList = 45 :: s.data.toList.drop 1 := by
        have := List.drop_eq_getElem_cons hlt
        rw [List.drop_zero, h45] at this
        exact this
      have hm : wM s = true := by unfold wM Lib.hasPrefix; rw [hs]; simp [List.isPrefixOf]
      rw [beq_iff_eq.2 c2, if_pos rfl, if_pos (by omega)]
      refine hx _ true ?_ hm
      unfold wD Lib.trimPrefix
      rw [show Lib.hasPrefix s.data.toList [45] = true from hm, if_pos rfl, Lib.extract_to_end]
      rfl
    · have hm : wM s = false := by
        unfold wM Lib.hasPrefix
        cases hs : s.data.toList with
        | nil => rfl
        | cons a l =>
          have : a ≠ 45 := fun e => c2 (by rw [hb]; simp only [hs]; subst e; rfl)
          simp [List.isPrefixOf, Ne.symm this]
      rw [beq_eq_false_iff_ne.2 c2, if_neg (by decide)]
      refine hx _ false ?_ hm
      unfold wD Lib.trimPrefix
      rw [show Lib.hasPrefix s.data.toList [45] = false from hm]
      rfl
  · rw [if_neg c1]
    have hnil : s.data.toList = [] := List.eq_nil_of_length_eq_zero (by omega)
    simp only [arrearsref18_whole.j0]
    rw [if_neg (by decide)]
    refine hx _ false ?_ ?_
    · unfold wD Lib.trimPrefix Lib.hasPrefix
      rw [hnil]
      rfl
    · unfold wM Lib.hasPrefix
      rw [hnil]
      rfl
theorem text_at (s : ByteArray) (l : List UInt8) : s.toList = l ↔ s = ⟨l.toArray⟩ := by
  rw [ByteArray.toList_eq]
  constructor
  · intro h
    exact data_inj h
  · rintro rfl
    rfl
/-- The document's put is a read. -/
theorem put_ev (l : Nat) (o : O) (s : ByteArray) : ∃ k o2 b, arrearsref18_put.f k o.a0 o.a1 o.a2 o.a3 o.a4 o.a5 o.a6 (l : Int) s = some (o2.a0, o2.a1, o2.a2, o2.a3, o2.a4, o2.a5, o2.a6, b) ∧ b = !(readP l s o).1 ∧ (b = true → (readP l s o).2 = o2) := by
  obtain ⟨K, hK⟩ := Ev_out (RText.refParse_ev s)
  have hw := whole_ev s (K + 31) (by omega)
  have hp := hK (K + 31) (by omega)
  refine ⟨K + 31, ?_⟩
  unfold arrearsref18_put.f readP
  by_cases h1 : l = 65
  · rw [if_pos (by omega), if_pos h1, hp, Option.bind_some]
    refine ⟨{ o with a2 := (am s).1 }, (am s).2, rfl, ?_, fun h => ?_⟩
    · cases (am s).2 <;> rfl
    · rw [if_pos h]
  rw [if_neg (by omega), if_neg h1]
  by_cases h3 : l = 84
  · rw [if_pos (by omega), if_neg (by omega), if_pos h3]
    unfold arrearsref18_plan.f
    have t0 := text_at s [108, 101, 118, 101, 108]
    have t1 := text_at s [101, 113, 117, 97, 108]
    have t2 := text_at s [98, 97, 108, 108, 111, 111, 110]
    by_cases c0 : s = ⟨#[108, 101, 118, 101, 108]⟩
    · rw [if_pos (t0.2 c0), if_pos c0]; exact ⟨{ o with a5 := 0 }, true, rfl, rfl, fun _ => rfl⟩
    rw [if_neg (fun h => c0 (t0.1 h)), if_neg c0]
    by_cases c1 : s = ⟨#[101, 113, 117, 97, 108]⟩
    · rw [if_pos (t1.2 c1), if_pos c1]; exact ⟨{ o with a5 := 1 }, true, rfl, rfl, fun _ => rfl⟩
    rw [if_neg (fun h => c1 (t1.1 h)), if_neg c1]
    by_cases c2 : s = ⟨#[98, 97, 108, 108, 111, 111, 110]⟩
    · rw [if_pos (t2.2 c2), if_pos c2]; exact ⟨{ o with a5 := 2 }, true, rfl, rfl, fun _ => rfl⟩
    rw [if_neg (fun h => c2 (t2.1 h)), if_neg c2]
    exact ⟨{ o with a5 := 0 }, false, rfl, rfl, fun h => by cases h⟩
  rw [if_neg (by omega)]
  by_cases h4 : l = 70
  · rw [if_pos (by omega), if_neg (by omega), if_neg h3, if_pos h4]
    have hl := ba_len s
    by_cases c0 : s.toList = []
    · rw [if_pos c0]
      have h0 : s.size = 0 := by rw [← hl, ← ByteArray.toList_eq, c0]; rfl
      exact ⟨{ o with a6 := s }, false, by rw [show decide ((s.size : Int) > 0) = false from decide_eq_false (by omega)], rfl, fun h => by cases h⟩
    · rw [if_neg c0]
      have h0 : s.size ≠ 0 := fun h => c0 (by rw [ByteArray.toList_eq]; exact List.eq_nil_of_length_eq_zero (by omega))
      exact ⟨{ o with a6 := s }, true, by rw [show decide ((s.size : Int) > 0) = true from decide_eq_true (by omega)], rfl, fun _ => rfl⟩
  rw [if_neg (by omega), hw, Option.bind_some]
  have hb : (ans (wv s)).2 = !(wv s).isNone := by unfold ans; cases wv s <;> rfl
  by_cases h5 : l = 76
  · rw [if_pos (by omega), if_neg (by omega), if_neg h3, if_neg h4, if_pos h5]
    exact ⟨{ o with a1 := (wv s).getD 0 }, _, rfl, hb, fun _ => rfl⟩
  rw [if_neg (by omega)]
  by_cases h2 : l = 82
  · rw [if_pos (by omega), if_pos h2]
    exact ⟨{ o with a3 := (wv s).getD 0 }, _, rfl, hb, fun _ => rfl⟩
  rw [if_neg (by omega), if_neg h2, if_neg h3, if_neg h4, if_neg h5]
  by_cases h6 : l = 67
  · rw [if_pos (by omega), if_pos h6]
    exact ⟨{ o with a4 := (wv s).getD 0 }, _, rfl, hb, fun _ => rfl⟩
  rw [if_neg (by omega), if_neg h6]
  exact ⟨{ o with a5 := (wv s).getD 0 }, _, rfl, hb, fun _ => rfl⟩
end Go.Proofs.YtjhodgcjkobpoaaGreatDoor.RefQ
