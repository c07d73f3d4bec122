/- Plain: a binary heap as a list: swap, up, down, push and take keep the items and the heap's order. No condition but that the order is a weak one. -/
import Derived.Test.YtkbbngkfncbgkaaDoorProg
namespace Go.Proofs.YtkbbngkfncbgkaaDoor.IQHeap
set_option linter.unusedVariables false
/-! A heap as a list: what swap, up, down, push and take make of it. -/
variable {I : Type}
structure WO (lt : I → I → Bool) : Prop where
  irr : ∀ a, lt a a = false
  asy : ∀ a b, lt a b = true → lt b a = false
  ntr : ∀ a b c, lt a b = false → lt b c = false → lt a c = false
theorem WO.tn {lt : I → I → Bool} (h : WO lt) {a b c : I} (h1 : lt a b = true) (h2 : lt c b = false) : lt a c = true := by
  cases e : lt a c
  · have := h.ntr _ _ _ e h2
    rw [this] at h1
    cases h1
  · rfl
theorem WO.nt {lt : I → I → Bool} (h : WO lt) {a b c : I} (h1 : lt b a = false) (h2 : lt b c = true) : lt a c = true := by
  cases e : lt a c
  · have := h.ntr _ _ _ h1 e
    rw [this] at h2
    cases h2
  · rfl
def at_ (d : I) (L : List I) (i : Nat) : I := L.getD i d
def sw (d : I) (L : List I) (i j : Nat) : List I := (L.set i (at_ d L j)).set j (at_ d L i)
theorem at_eq (d : I) (L : List I) {i : Nat} (h : i < L.length) : at_ d L i = L[i] := by simp [at_, List.getD_eq_getElem?_getD, h]
theorem sw_length (d : I) (L : List I) (i j : Nat) : (sw d L i j).length = L.length := by simp [sw]
theorem sw_perm (d : I) {L : List I} {i j : Nat} (hi : i < L.length) (hj : j < L.length) : (sw d L i j).Perm L := by
  unfold sw
  rw [at_eq d L hi, at_eq d L hj]
  exact List.set_set_perm hi hj
theorem at_set (d x : I) (L : List I) (i k : Nat) (hi : i < L.length) : at_ d (L.set i x) k = if k = i then x else at_ d L k := by
  unfold at_
  rw [List.getD_eq_getElem?_getD, List.getD_eq_getElem?_getD, List.getElem?_set]
  by_cases h : k = i
  · subst h; simp [hi]
  · simp [h, Ne.symm h]
theorem at_sw (d : I) (L : List I) {i j : Nat} (k : Nat) (hi : i < L.length) (hj : j < L.length) : at_ d (sw d L i j) k = if k = j then at_ d L i else if k = i then at_ d L j else at_ d L k := by
  unfold sw
  rw [at_set _ _ _ _ _ (by simpa using hj)]
  by_cases h : k = j
  · simp [h]
  · simp only [h, if_false]
    rw [at_set _ _ _ _ _ hi]
def par (i : Nat) : Nat := (i - 1) / 2
theorem par_lt {i : Nat} (h : 0 < i) : par i < i := by unfold par; omega
variable (lt : I → I → Bool) (d : I)
def upF (L : List I) (i : Nat) : List I :=
  if h : 0 < i ∧ lt (at_ d L i) (at_ d L (par i)) = true then upF (sw d L i (par i)) (par i) else L
termination_by i
decreasing_by exact par_lt h.1
def pick (L : List I) (c m : Nat) : Nat := if c < L.length ∧ lt (at_ d L c) (at_ d L m) = true then c else m
def least (L : List I) (i : Nat) : Nat := pick lt d L (2 * i + 2) (pick lt d L (2 * i + 1) i)
theorem pick_or (L : List I) (c m : Nat) : (pick lt d L c m = c ∧ c < L.length ∧ lt (at_ d L c) (at_ d L m) = true) ∨ (pick lt d L c m = m ∧ ¬ (c < L.length ∧ lt (at_ d L c) (at_ d L m) = true)) := by
  unfold pick
  by_cases h : c < L.length ∧ lt (at_ d L c) (at_ d L m) = true
  · exact .inl ⟨if_pos h, h⟩
  · exact .inr ⟨if_neg h, h⟩
theorem least_or (L : List I) (i : Nat) : least lt d L i = i ∨ (i < least lt d L i ∧ least lt d L i < L.length ∧ par (least lt d L i) = i) := by
  unfold least
  rcases pick_or lt d L (2 * i + 2) (pick lt d L (2 * i + 1) i) with ⟨h, h1, _⟩ | ⟨h, _⟩
  · rw [h]; exact .inr ⟨by omega, h1, by unfold par; omega⟩
  · rw [h]
    rcases pick_or lt d L (2 * i + 1) i with ⟨h, h1, _⟩ | ⟨h, _⟩
    · rw [h]; exact .inr ⟨by omega, h1, by unfold par; omega⟩
    · exact .inl h
def downF (L : List I) (i : Nat) : List I :=
  if h : least lt d L i = i then L else downF (sw d L i (least lt d L i)) (least lt d L i)
termination_by L.length - i
decreasing_by
  rcases least_or lt d L i with h1 | ⟨h1, h2, _⟩
  · exact absurd h1 h
  · rw [sw_length]; omega
variable {lt} {d}
theorem upF_go {L : List I} {i : Nat} (h : 0 < i) (h1 : lt (at_ d L i) (at_ d L (par i)) = true) : upF lt d L i = upF lt d (sw d L i (par i)) (par i) := by
  rw [upF, dif_pos ⟨h, h1⟩]
theorem upF_stop {L : List I} {i : Nat} (h : ¬ (0 < i ∧ lt (at_ d L i) (at_ d L (par i)) = true)) : upF lt d L i = L := by rw [upF, dif_neg h]
theorem downF_go {L : List I} {i : Nat} (h : least lt d L i ≠ i) : downF lt d L i = downF lt d (sw d L i (least lt d L i)) (least lt d L i) := by rw [downF, dif_neg h]
theorem downF_stop {L : List I} {i : Nat} (h : least lt d L i = i) : downF lt d L i = L := by rw [downF, dif_pos h]
theorem upF_perm : ∀ (n i : Nat) (L : List I), i ≤ n → i < L.length → (upF lt d L i).Perm L
  | 0, i, L, _, hi => by
    rw [upF_stop (by omega)]
  | n + 1, i, L, h, hi => by
    by_cases hc : 0 < i ∧ lt (at_ d L i) (at_ d L (par i)) = true
    · have hp := par_lt hc.1
      rw [upF_go hc.1 hc.2]
      exact (upF_perm n (par i) _ (by omega) (by rw [sw_length]; omega)).trans (sw_perm d hi (by omega))
    · rw [upF_stop hc]
theorem upF_length {L : List I} {i : Nat} (h : i < L.length) : (upF lt d L i).length = L.length := (upF_perm i i L (Nat.le_refl _) h).length_eq
theorem downF_perm : ∀ (n i : Nat) (L : List I), L.length ≤ i + n → i < L.length → (downF lt d L i).Perm L
  | 0, i, L, h, hi => by omega
  | n + 1, i, L, h, hi => by
    by_cases hc : least lt d L i = i
    · rw [downF_stop hc]
    · rw [downF_go hc]
      rcases least_or lt d L i with h1 | ⟨h1, h2, _⟩
      · exact absurd h1 hc
      · exact (downF_perm n _ _ (by rw [sw_length]; omega) (by rw [sw_length]; omega)).trans (sw_perm d hi h2)
theorem downF_length {L : List I} {i : Nat} (h : i < L.length) : (downF lt d L i).length = L.length := (downF_perm L.length i L (by omega) h).length_eq
/-- No item is less than its parent. -/
def HP (lt : I → I → Bool) (d : I) (L : List I) : Prop := ∀ j, 0 < j → j < L.length → lt (at_ d L j) (at_ d L (par j)) = false
/-- .. but for the item at i, which may be less than its parent. -/
def HU (lt : I → I → Bool) (d : I) (L : List I) (i : Nat) : Prop := (∀ j, 0 < j → j < L.length → j ≠ i → lt (at_ d L j) (at_ d L (par j)) = false) ∧ ∀ j, 0 < j → j < L.length → par j = i → 0 < i → lt (at_ d L j) (at_ d L (par i)) = false
/-- .. but for the items below i, which may be less than it. -/
def HD (lt : I → I → Bool) (d : I) (L : List I) (i : Nat) : Prop := (∀ j, 0 < j → j < L.length → par j ≠ i → lt (at_ d L j) (at_ d L (par j)) = false) ∧ ∀ j, 0 < j → j < L.length → par j = i → 0 < i → lt (at_ d L j) (at_ d L (par i)) = false
theorem HU.up (W : WO lt) : ∀ (n i : Nat) (L : List I), i ≤ n → i < L.length → HU lt d L i → HP lt d (upF lt d L i)
  | 0, i, L, _, hi, hu => by
    rw [upF_stop (by omega)]
    exact fun j h0 h1 => hu.1 j h0 h1 (by omega)
  | n + 1, i, L, h, hi, hu => by
    by_cases hc : 0 < i ∧ lt (at_ d L i) (at_ d L (par i)) = true
    · have hp := par_lt hc.1
      have hpl : par i < L.length := by omega
      rw [upF_go hc.1 hc.2]
      refine HU.up W n (par i) _ (by omega) (by rw [sw_length]; omega) ⟨?_, ?_⟩
      · intro j h0 h1 hj
        rw [sw_length] at h1
        rw [at_sw d L _ hi hpl, at_sw d L _ hi hpl, if_neg hj]
        by_cases e : j = i
        · subst e
          rw [if_pos rfl, if_pos rfl]
          exact W.asy _ _ hc.2
        · rw [if_neg e]
          by_cases e1 : par j = par i
          · rw [if_pos e1]
            have h2 := hu.1 j h0 h1 e
            rw [e1] at h2
            exact W.ntr _ _ _ h2 (W.asy _ _ hc.2)
          · rw [if_neg e1]
            by_cases e2 : par j = i
            · rw [if_pos e2]
              exact hu.2 j h0 h1 e2 hc.1
            · rw [if_neg e2]
              exact hu.1 j h0 h1 e
      · intro j h0 h1 hj hpp
        rw [sw_length] at h1
        have hp2 := par_lt hpp
        have hj2 : j ≠ par i := by have := par_lt h0; omega
        have hpi : par (par i) ≠ i := by omega
        have hpi2 : par (par i) ≠ par i := by omega
        rw [at_sw d L _ hi hpl, at_sw d L _ hi hpl, if_neg hj2, if_neg hpi2, if_neg hpi]
        have h5 := hu.1 (par i) hpp hpl (by omega)
        by_cases e : j = i
        · rw [if_pos e]
          exact h5
        · rw [if_neg e]
          have h6 := hu.1 j h0 h1 e
          rw [hj] at h6
          exact W.ntr _ _ _ h6 h5
    · rw [upF_stop hc]
      intro j h0 h1
      by_cases e : j = i
      · subst e
        cases h2 : lt (at_ d L j) (at_ d L (par j))
        · rfl
        · exact absurd ⟨h0, h2⟩ hc
      · exact hu.1 j h0 h1 e
theorem pick_le (W : WO lt) (L : List I) (c m : Nat) : lt (at_ d L m) (at_ d L (pick lt d L c m)) = false ∧ (c < L.length → lt (at_ d L c) (at_ d L (pick lt d L c m)) = false) := by
  rcases pick_or lt d L c m with ⟨h, h1, h2⟩ | ⟨h, h1⟩
  · rw [h]; exact ⟨W.asy _ _ h2, fun _ => W.irr _⟩
  · rw [h]
    refine ⟨W.irr _, fun hc => ?_⟩
    cases h2 : lt (at_ d L c) (at_ d L m)
    · rfl
    · exact absurd ⟨hc, h2⟩ h1
theorem least_le (W : WO lt) (L : List I) (i : Nat) : lt (at_ d L i) (at_ d L (least lt d L i)) = false ∧ ∀ j, 0 < j → j < L.length → par j = i → lt (at_ d L j) (at_ d L (least lt d L i)) = false := by
  have h1 := pick_le (lt := lt) (d := d) W L (2 * i + 1) i
  have h2 := pick_le (lt := lt) (d := d) W L (2 * i + 2) (pick lt d L (2 * i + 1) i)
  refine ⟨W.ntr _ _ _ h1.1 h2.1, fun j h0 hl hp => ?_⟩
  have hj : j = 2 * i + 1 ∨ j = 2 * i + 2 := by unfold par at hp; omega
  rcases hj with rfl | rfl
  · exact W.ntr _ _ _ (h1.2 hl) h2.1
  · exact h2.2 hl
theorem HD.down (W : WO lt) : ∀ (n i : Nat) (L : List I), L.length ≤ i + n → i < L.length → HD lt d L i → HP lt d (downF lt d L i)
  | 0, i, L, h, hi, _ => by omega
  | n + 1, i, L, h, hi, hd => by
    have hle := least_le (lt := lt) (d := d) W L i
    by_cases hc : least lt d L i = i
    · rw [downF_stop hc]
      rw [hc] at hle
      intro j h0 h1
      by_cases e : par j = i
      · rw [e]; exact hle.2 j h0 h1 e
      · exact hd.1 j h0 h1 e
    · rw [downF_go hc]
      rcases least_or lt d L i with h1 | ⟨h1, h2, h3⟩
      · exact absurd h1 hc
      · generalize hm : least lt d L i = m at *
        refine HD.down W n m _ (by rw [sw_length]; omega) (by rw [sw_length]; omega) ⟨?_, ?_⟩
        · intro j h0 hl hp
          rw [sw_length] at hl
          have hpj := par_lt h0
          rw [at_sw d L _ hi h2, at_sw d L _ hi h2, if_neg hp]
          by_cases e : j = m
          · subst e
            rw [if_pos rfl, h3, if_pos rfl]
            exact hle.1
          · rw [if_neg e]
            by_cases e1 : j = i
            · subst e1
              rw [if_pos rfl, if_neg (by omega)]
              exact hd.2 m (by omega) h2 h3 h0
            · rw [if_neg e1]
              by_cases e2 : par j = i
              · rw [if_pos e2]; exact hle.2 j h0 hl e2
              · rw [if_neg e2]; exact hd.1 j h0 hl e2
        · intro j h0 hl hp hm0
          rw [sw_length] at hl
          have hpj := par_lt h0
          rw [at_sw d L _ hi h2, at_sw d L _ hi h2, if_neg (by omega), if_neg (by omega), h3, if_neg (by omega), if_pos rfl, ← hp]
          exact hd.1 j h0 hl (by omega)
theorem HP.down {L : List I} (W : WO lt) (i : Nat) (h : HP lt d L) : downF lt d L i = L := by
  refine downF_stop ?_
  unfold least
  have h1 : pick lt d L (2 * i + 1) i = i := by
    rcases pick_or lt d L (2 * i + 1) i with ⟨e, h1, h2⟩ | ⟨e, _⟩
    · have h3 := h (2 * i + 1) (by omega) h1
      rw [show par (2 * i + 1) = i by unfold par; omega, h2] at h3
      cases h3
    · exact e
  rw [h1]
  rcases pick_or lt d L (2 * i + 2) i with ⟨e, h1, h2⟩ | ⟨e, _⟩
  · have h3 := h (2 * i + 2) (by omega) h1
    rw [show par (2 * i + 2) = i by unfold par; omega, h2] at h3
    cases h3
  · exact e
theorem HP.min (W : WO lt) {L : List I} (h : HP lt d L) : ∀ (n j : Nat), j ≤ n → j < L.length → lt (at_ d L j) (at_ d L 0) = false
  | 0, j, hj, _ => by
    rw [show j = 0 by omega]
    exact W.irr _
  | n + 1, j, hj, hl => by
    by_cases h0 : j = 0
    · subst h0; exact W.irr _
    · have hp := par_lt (i := j) (by omega)
      exact W.ntr _ _ _ (h j (by omega) hl) (HP.min W h n (par j) (by omega) (by omega))
/-- push: the item behind, lifted. -/
def pushF (lt : I → I → Bool) (d : I) (L : List I) (x : I) : List I := upF lt d (L ++ [x]) L.length
theorem at_append (L : List I) (x : I) (k : Nat) : at_ d (L ++ [x]) k = if k = L.length then x else at_ d L k := by
  unfold at_
  rw [List.getD_eq_getElem?_getD, List.getD_eq_getElem?_getD]
  by_cases h : k < L.length
  · rw [List.getElem?_append_left h, if_neg (by omega)]
  · rw [List.getElem?_append_right (by omega)]
    by_cases e : k = L.length
    · subst e; simp
    · rw [if_neg e, List.getElem?_eq_none (by simp; omega), List.getElem?_eq_none (by omega)]
theorem pushF_perm (L : List I) (x : I) : (pushF lt d L x).Perm (x :: L) :=
  (upF_perm L.length L.length _ (Nat.le_refl _) (by simp)).trans (List.perm_append_singleton x L)
theorem pushF_HP (W : WO lt) {L : List I} (h : HP lt d L) (x : I) : HP lt d (pushF lt d L x) := by
  refine HU.up W L.length L.length _ (Nat.le_refl _) (by simp) ⟨?_, ?_⟩
  · intro j h0 hl hj
    simp at hl
    have := par_lt h0
    rw [at_append, at_append, if_neg hj, if_neg (by omega)]
    exact h j h0 (by omega)
  · intro j h0 hl hp
    simp at hl
    have := par_lt h0
    omega
/-- take: the last item in the place of the one at i, lifted and sunk. -/
def cutF (d : I) (L : List I) (i : Nat) : List I := (sw d L i (L.length - 1)).dropLast
def takeF (lt : I → I → Bool) (d : I) (L : List I) (i : Nat) : List I := if i < L.length - 1 then downF lt d (upF lt d (cutF d L i) i) i else cutF d L i
theorem cutF_length (L : List I) (i : Nat) : (cutF d L i).length = L.length - 1 := by simp [cutF, sw_length]
theorem at_dropLast (L : List I) (k : Nat) (h : k < L.length - 1) : at_ d L.dropLast k = at_ d L k := by
  rw [at_eq d _ (by simpa using h), at_eq d _ (by omega)]
  simp
theorem at_cut (L : List I) {i : Nat} (hi : i < L.length) (k : Nat) (h : k < L.length - 1) : at_ d (cutF d L i) k = if k = i then at_ d L (L.length - 1) else at_ d L k := by
  unfold cutF
  rw [at_dropLast _ _ (by rw [sw_length]; exact h), at_sw d L _ hi (by omega), if_neg (by omega)]
theorem cutF_perm {L : List I} {i : Nat} (hi : i < L.length) : (at_ d L i :: cutF d L i).Perm L := by
  have h1 : (sw d L i (L.length - 1)).Perm L := sw_perm d hi (by omega)
  have hne : sw d L i (L.length - 1) ≠ [] := by
    intro e
    have := congrArg List.length e
    rw [sw_length, List.length_nil] at this
    omega
  have h2 : (sw d L i (L.length - 1)).getLast hne = at_ d L i := by
    rw [List.getLast_eq_getElem, ← at_eq d, at_sw d L _ hi (by omega), sw_length, if_pos rfl]
  have h3 := List.dropLast_concat_getLast hne
  rw [h2] at h3
  exact ((List.perm_append_singleton (at_ d L i) (cutF d L i)).symm.trans (List.Perm.of_eq h3)).trans h1
theorem takeF_perm {L : List I} {i : Nat} (hi : i < L.length) : (at_ d L i :: takeF lt d L i).Perm L := by
  unfold takeF
  split
  · rename_i h
    have hl : i < (cutF d L i).length := by rw [cutF_length]; exact h
    have h1 := upF_perm (lt := lt) (d := d) i i (cutF d L i) (Nat.le_refl _) hl
    have h2 := downF_perm (lt := lt) (d := d) _ i (upF lt d (cutF d L i) i) (Nat.le_add_left _ _) (by rw [h1.length_eq]; exact hl)
    exact ((h2.trans h1).cons _).trans (cutF_perm hi)
  · exact cutF_perm hi
theorem takeF_HP (W : WO lt) {L : List I} (h : HP lt d L) {i : Nat} (hi : i < L.length) : HP lt d (takeF lt d L i) := by
  unfold takeF
  split
  · rename_i hl
    have hcl := cutF_length (d := d) L i
    by_cases hc : 0 < i ∧ lt (at_ d (cutF d L i) i) (at_ d (cutF d L i) (par i)) = true
    · have hu : HU lt d (cutF d L i) i := by
        have hp := par_lt hc.1
        have hc2 := hc.2
        rw [at_cut L hi _ hl, if_pos rfl, at_cut L hi (par i) (by omega), if_neg (by omega)] at hc2
        refine ⟨fun j h0 h1 hj => ?_, fun j h0 h1 hj _ => ?_⟩
        · rw [hcl] at h1
          have := par_lt h0
          rw [at_cut L hi _ h1, if_neg hj, at_cut L hi (par j) (by omega)]
          by_cases e : par j = i
          · rw [if_pos e]
            have h3 := h j h0 (by omega)
            rw [e] at h3
            have h4 := h i hc.1 hi
            exact W.ntr _ _ _ h3 (W.ntr _ _ _ h4 (W.asy _ _ hc2))
          · rw [if_neg e]
            exact h j h0 (by omega)
        · rw [hcl] at h1
          have := par_lt h0
          rw [at_cut L hi _ h1, if_neg (by omega), at_cut L hi (par i) (by omega), if_neg (by omega)]
          have h3 := h j h0 (by omega)
          rw [hj] at h3
          exact W.ntr _ _ _ h3 (h i hc.1 hi)
      have h5 := HU.up W i i _ (Nat.le_refl _) (by rw [hcl]; exact hl) hu
      rw [HP.down W i h5]
      exact h5
    · rw [upF_stop hc]
      refine HD.down W (cutF d L i).length i _ (Nat.le_add_left _ _) (by rw [hcl]; exact hl) ⟨fun j h0 h1 hj => ?_, fun j h0 h1 hj h00 => ?_⟩
      · rw [hcl] at h1
        have hpj := par_lt h0
        by_cases e : j = i
        · subst e
          cases h2 : lt (at_ d (cutF d L j) j) (at_ d (cutF d L j) (par j))
          · rfl
          · exact absurd ⟨h0, h2⟩ hc
        · rw [at_cut L hi _ h1, if_neg e, at_cut L hi (par j) (by omega), if_neg hj]
          exact h j h0 (by omega)
      · rw [hcl] at h1
        have := par_lt h0
        have := par_lt h00
        rw [at_cut L hi _ h1, if_neg (by omega), at_cut L hi (par i) (by omega), if_neg (by omega)]
        have h3 := h j h0 (by omega)
        rw [hj] at h3
        exact W.ntr _ _ _ h3 (h i h00 hi)
  · rename_i hl
    intro j h0 h1
    rw [cutF_length] at h1
    have := par_lt h0
    rw [at_cut L hi _ h1, if_neg (by omega), at_cut L hi (par j) (by omega), if_neg (by omega)]
    exact h j h0 (by omega)
end Go.Proofs.YtkbbngkfncbgkaaDoor.IQHeap
