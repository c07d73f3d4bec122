/- What Format tells is read as the operation, and what is read as an operation is what Format tells, plainly. No program in sight. -/
import Derived.Test.YtjhodgcjkobpoaaGreatDoorYFSp
import Derived.Test.YtjhodgcjkobpoaaGreatDoorYFBare
import Derived.Test.YtjhodgcjkobpoaaGreatDoorYFParse2
import Derived.Test.YtjhodgcjkobpoaaGreatDoorYFGap
import Derived.Test.YtjhodgcjkobpoaaGreatDoorYFAmt
namespace Go.Proofs.YtjhodgcjkobpoaaGreatDoor.FInv
open Go.RowKit Go.Proofs.YtjhodgcjkobpoaaGreatDoor.PA Go.Proofs.YtjhodgcjkobpoaaGreatDoorW.PrintWords Go.Proofs.YtjhodgcjkobpoaaGreatDoorW.PrintLast Go.Proofs.YtjhodgcjkobpoaaGreatDoorW.PrintMore Go.Proofs.YtjhodgcjkobpoaaGreatDoor.MB Go.Proofs.YtjhodgcjkobpoaaGreatDoor.MByt Go.Proofs.YtjhodgcjkobpoaaGreatDoor.MPars Go.Proofs.YtjhodgcjkobpoaaGreatDoor.MDig Go.Proofs.YtjhodgcjkobpoaaGreatDoor.FTell Go.Proofs.YtjhodgcjkobpoaaGreatDoor.FFields Go.Proofs.YtjhodgcjkobpoaaGreatDoor.FWhole Go.Proofs.YtjhodgcjkobpoaaGreatDoor.FReads Go.Proofs.YtjhodgcjkobpoaaGreatDoor.FKind Go.Proofs.YtjhodgcjkobpoaaGreatDoor.FFormat Go.Proofs.YtjhodgcjkobpoaaGreatDoor.FGap Go.Proofs.YtjhodgcjkobpoaaGreatDoor.FDec Go.Proofs.YtjhodgcjkobpoaaGreatDoor.FParse Go.Proofs.YtjhodgcjkobpoaaGreatDoor.FParse2 Go.Proofs.YtjhodgcjkobpoaaGreatDoor.FBare Go.Proofs.YtjhodgcjkobpoaaGreatDoor.FSp
set_option linter.unusedVariables false
set_option linter.unusedSimpArgs false
/-- The field of a letter told. -/
def tl (l : Nat) (o : O) : Option (ByteArray × Bool) := tellAt l o.a1 o.a2 o.a3 o.a4 o.a5 o.a6
def getF (l : Nat) (o : O) : Int × ByteArray := if l = 65 then (o.a2, ⟨#[]⟩) else if l = 82 then (o.a3, ⟨#[]⟩) else if l = 84 then (o.a5, ⟨#[]⟩) else if l = 70 then (0, o.a6) else if l = 76 then (o.a1, ⟨#[]⟩) else if l = 67 then (o.a4, ⟨#[]⟩) else (o.a5, ⟨#[]⟩)
/-- Which field. -/
def ix (l : Nat) : Nat := if l = 65 then 2 else if l = 82 then 3 else if l = 84 then 5 else if l = 70 then 6 else if l = 76 then 1 else if l = 67 then 4 else 5
def NoGap (w : ByteArray) : Prop := ∀ c ∈ w.data.toList, c ≠ 32 ∧ c ≠ 10
theorem tl_get {l : Nat} {o o2 : O} (h : getF l o = getF l o2) : tl l o = tl l o2 := by
  unfold getF at h
  unfold tl tellAt
  by_cases h1 : l = 65
  · rw [if_pos h1, if_pos h1] at h; rw [if_pos h1, if_pos h1, (Prod.mk.inj h).1]
  rw [if_neg h1, if_neg h1] at h; rw [if_neg h1, if_neg h1]
  by_cases h2 : l = 82
  · rw [if_pos h2, if_pos h2] at h; rw [if_pos h2, if_pos h2, (Prod.mk.inj h).1]
  rw [if_neg h2, if_neg h2] at h; rw [if_neg h2, if_neg h2]
  by_cases h3 : l = 84
  · rw [if_pos h3, if_pos h3] at h; rw [if_pos h3, if_pos h3, (Prod.mk.inj h).1]
  rw [if_neg h3, if_neg h3] at h; rw [if_neg h3, if_neg h3]
  by_cases h4 : l = 70
  · rw [if_pos h4, if_pos h4] at h; rw [if_pos h4, if_pos h4, (Prod.mk.inj h).2]
  rw [if_neg h4, if_neg h4] at h; rw [if_neg h4, if_neg h4]
  by_cases h5 : l = 76
  · rw [if_pos h5, if_pos h5] at h; rw [if_pos h5, if_pos h5, (Prod.mk.inj h).1]
  rw [if_neg h5, if_neg h5] at h; rw [if_neg h5, if_neg h5]
  by_cases h6 : l = 67
  · rw [if_pos h6, if_pos h6] at h; rw [if_pos h6, if_pos h6, (Prod.mk.inj h).1]
  rw [if_neg h6, if_neg h6] at h; rw [if_neg h6, if_neg h6, (Prod.mk.inj h).1]
theorem gap_byte {s : ByteArray} {j : Nat} (h : j < s.size) : ∃ c ∈ s.data.toList, bt s (j : Int) = (c.toNat : Int) := by
  have hj : j < s.data.toList.length := by rw [Array.length_toList]; exact h
  refine ⟨s.data.toList[j], List.getElem_mem hj, ?_⟩
  rw [bt_byts]
  unfold byts
  rw [List.getD_eq_getElem?_getD, List.getElem?_map, List.getElem?_eq_getElem hj]
  rfl
theorem noGap_iff (s : ByteArray) : hasGap s = false ↔ NoGap s := by
  rw [no_gap]
  constructor
  · intro h c hc
    obtain ⟨j, hj, e⟩ := List.getElem_of_mem hc
    have hjs : j < s.size := by rw [Array.length_toList] at hj; exact hj
    have hg := h j hjs
    unfold Gap at hg
    rw [bt_byts] at hg
    unfold byts at hg
    rw [List.getD_eq_getElem?_getD, List.getElem?_map, List.getElem?_eq_getElem hj, e] at hg
    refine ⟨fun e => hg (.inl ?_), fun e => hg (.inr ?_)⟩ <;> (subst e; rfl)
  · intro h j hj hg
    obtain ⟨c, hc, e⟩ := gap_byte hj
    unfold Gap at hg
    rw [e] at hg
    obtain ⟨h1, h2⟩ := h c hc
    rcases hg with hg | hg
    · exact h1 (u8_inj hg)
    · exact h2 (u8_inj hg)
theorem fl_no (x : Int) : NoGap (strOfNums (fl x)) := by
  have hd : ∀ n c, c ∈ dd n → c ≠ 32 ∧ c ≠ 10 := fun n c hc => by
    have := dd_digits n c hc
    unfold Dgt at this
    omega
  have key : ∀ c ∈ fl x, c ≠ 32 ∧ c ≠ 10 := by
    intro c hc
    unfold fl ul at hc
    rcases List.mem_append.1 hc with hc | hc
    · split at hc
      · rw [List.mem_singleton.1 hc]; decide
      · cases hc
    rcases List.mem_append.1 hc with hc | hc
    · exact hd _ _ hc
    · simp only [List.mem_cons, List.not_mem_nil, or_false] at hc
      omega
  intro c hc
  have hm : (c.toNat : Int) ∈ byts (strOfNums (fl x)) := List.mem_map.2 ⟨c, hc, rfl⟩
  rw [FAmt.byts_fl] at hm
  obtain ⟨h1, h2⟩ := key _ hm
  exact ⟨fun e => h1 (by subst e; rfl), fun e => h2 (by subst e; rfl)⟩
theorem okN_I64 {x : Int} (h : okN x = true) : -9223372036854775808 ≤ x ∧ x ≤ 9223372036854775807 := by
  have := of_decide_eq_true h
  omega
theorem num_tl {w : ByteArray} {v : Option Int} (hw : wv w = v) (h : v.isNone = false) : script_digits.f (v.getD 0) = some (w, true) := by
  cases v with
  | none => cases h
  | some x =>
    obtain ⟨h1, h2⟩ := wv_num hw
    have hb := okN_I64 h2
    show script_digits.f x = _
    rw [digits_eq hb.1 hb.2, h1, h2]
/-- What a field was read as is told as it was written. -/
theorem read_tl {l : Nat} {w : ByteArray} {o0 : O} (hg : NoGap w) (h : (readP l w o0).1 = false) : tl l (readP l w o0).2 = some (w, true) := by
  unfold readP at h ⊢
  unfold tl tellAt
  by_cases h1 : l = 65
  · rw [if_pos h1] at h ⊢
    rw [if_pos h1]
    cases ha : (am w).2 with
    | false => rw [ha, if_neg (by decide)] at h; cases h
    | true =>
      rw [if_pos rfl]
      have hp : MText.pv (byts w) = ((am w).1, true) := by rw [← ha]; rfl
      obtain ⟨hI, hf⟩ := MText.pv_back hp
      show (money_Format.f (am w).1).map _ = _
      rw [FAmt.format_eq hI, Option.map_some, hf]
      congr 2
      exact byts_inj (by rw [← hf, FAmt.byts_fl])
  rw [if_neg h1] at h ⊢
  rw [if_neg h1]
  by_cases h2 : l = 82
  · rw [if_pos h2] at h ⊢
    rw [if_pos h2]
    exact num_tl rfl h
  rw [if_neg h2] at h ⊢
  rw [if_neg h2]
  by_cases h3 : l = 84
  · rw [if_pos h3] at h ⊢
    rw [if_pos h3]
    by_cases c0 : w = ⟨#[108, 101, 118, 101, 108]⟩
    · rw [if_pos c0]; subst c0; rfl
    rw [if_neg c0] at h ⊢
    by_cases c1 : w = ⟨#[101, 113, 117, 97, 108]⟩
    · rw [if_pos c1]; subst c1; rfl
    rw [if_neg c1] at h ⊢
    by_cases c2 : w = ⟨#[98, 97, 108, 108, 111, 111, 110]⟩
    · rw [if_pos c2]; subst c2; rfl
    rw [if_neg c2] at h
    cases h
  rw [if_neg h3] at h ⊢
  rw [if_neg h3]
  by_cases h4 : l = 70
  · rw [if_pos h4] at h ⊢
    rw [if_pos h4]
    by_cases c0 : w.toList = []
    · rw [if_pos c0] at h; cases h
    rw [if_neg c0]
    show some (fatesAt w) = _
    unfold fatesAt
    rw [if_neg c0, (noGap_iff w).2 hg]
    rfl
  rw [if_neg h4] at h ⊢
  rw [if_neg h4]
  by_cases h5 : l = 76
  · rw [if_pos h5] at h ⊢
    rw [if_pos h5]
    exact num_tl rfl h
  rw [if_neg h5] at h ⊢
  rw [if_neg h5]
  by_cases h6 : l = 67
  · rw [if_pos h6] at h ⊢
    rw [if_pos h6]
    exact num_tl rfl h
  rw [if_neg h6] at h ⊢
  rw [if_neg h6]
  exact num_tl rfl h
structure I6 (o : O) : Prop where
  h1 : I64 o.a1
  h2 : I64 o.a2
  h3 : I64 o.a3
  h4 : I64 o.a4
  h5 : I64 o.a5
theorem num_read {x : Int} {w : ByteArray} (hx : I64 x) (h : script_digits.f x = some (w, true)) : wv w = some x ∧ NoGap w := by
  rw [digits_eq hx.1 hx.2] at h
  obtain ⟨h1, h2⟩ := Prod.mk.inj (Option.some.inj h)
  subst h1
  exact ⟨num_wv h2, num_no x⟩
theorem type_no {x : Int} {w : ByteArray} (h : typeAt x = (w, true)) : (x = 0 ∧ w = ⟨#[108, 101, 118, 101, 108]⟩) ∨ (x = 1 ∧ w = ⟨#[101, 113, 117, 97, 108]⟩) ∨ (x = 2 ∧ w = ⟨#[98, 97, 108, 108, 111, 111, 110]⟩) := by
  unfold typeAt at h
  split at h
  · exact .inl ⟨by assumption, (Prod.mk.inj h).1.symm⟩
  split at h
  · exact .inr (.inl ⟨by assumption, (Prod.mk.inj h).1.symm⟩)
  split at h
  · exact .inr (.inr ⟨by assumption, (Prod.mk.inj h).1.symm⟩)
  · cases (Prod.mk.inj h).2
/-- What is told of a field is read as the field. -/
theorem tl_read {l : Nat} {w : ByteArray} {o : O} (hI : I6 o) (h : tl l o = some (w, true)) : (∀ o0, readP l w o0 = (false, setF o l o0)) ∧ NoGap w := by
  unfold tl tellAt at h
  unfold readP setF
  by_cases h1 : l = 65
  · rw [if_pos h1] at h
    rw [FAmt.format_eq hI.h2, Option.map_some] at h
    obtain rfl := (Prod.mk.inj (Option.some.inj h)).1
    have hp : am (strOfNums (fl o.a2)) = (o.a2, true) := by
      unfold am
      rw [FAmt.byts_fl]
      exact MText.pv_fl hI.h2
    refine ⟨fun o0 => ?_, fl_no _⟩
    rw [if_pos h1, if_pos h1, hp, if_pos rfl]
  rw [if_neg h1] at h
  by_cases h2 : l = 82
  · rw [if_pos h2] at h
    obtain ⟨e, hn⟩ := num_read hI.h3 h
    refine ⟨fun o0 => ?_, hn⟩
    rw [if_neg h1, if_pos h2, if_neg h1, if_pos h2, e]; rfl
  rw [if_neg h2] at h
  by_cases h3 : l = 84
  · rw [if_pos h3] at h
    rcases type_no (Option.some.inj h) with ⟨e, rfl⟩ | ⟨e, rfl⟩ | ⟨e, rfl⟩
    · refine ⟨fun o0 => ?_, by unfold NoGap; decide⟩
      rw [if_neg h1, if_neg h2, if_pos h3, if_neg h1, if_neg h2, if_pos h3, if_pos rfl, e]
    · refine ⟨fun o0 => ?_, by unfold NoGap; decide⟩
      rw [if_neg h1, if_neg h2, if_pos h3, if_neg h1, if_neg h2, if_pos h3, if_neg (by decide), if_pos rfl, e]
    · refine ⟨fun o0 => ?_, by unfold NoGap; decide⟩
      rw [if_neg h1, if_neg h2, if_pos h3, if_neg h1, if_neg h2, if_pos h3, if_neg (by decide), if_neg (by decide), if_pos rfl, e]
  rw [if_neg h3] at h
  by_cases h4 : l = 70
  · rw [if_pos h4] at h
    have h := Option.some.inj h
    unfold fatesAt at h
    obtain ⟨e, hb⟩ := Prod.mk.inj h
    split at hb
    · cases hb
    rename_i hne
    subst e
    refine ⟨fun o0 => ?_, (noGap_iff _).1 (by simpa using hb)⟩
    rw [if_neg h1, if_neg h2, if_neg h3, if_pos h4, if_neg h1, if_neg h2, if_neg h3, if_pos h4, if_neg hne]
  rw [if_neg h4] at h
  by_cases h5 : l = 76
  · rw [if_pos h5] at h
    obtain ⟨e, hn⟩ := num_read hI.h1 h
    refine ⟨fun o0 => ?_, hn⟩
    rw [if_neg h1, if_neg h2, if_neg h3, if_neg h4, if_pos h5, if_neg h1, if_neg h2, if_neg h3, if_neg h4, if_pos h5, e]; rfl
  rw [if_neg h5] at h
  by_cases h6 : l = 67
  · rw [if_pos h6] at h
    obtain ⟨e, hn⟩ := num_read hI.h4 h
    refine ⟨fun o0 => ?_, hn⟩
    rw [if_neg h1, if_neg h2, if_neg h3, if_neg h4, if_neg h5, if_pos h6, if_neg h1, if_neg h2, if_neg h3, if_neg h4, if_neg h5, if_pos h6, e]; rfl
  rw [if_neg h6] at h
  obtain ⟨e, hn⟩ := num_read hI.h5 h
  refine ⟨fun o0 => ?_, hn⟩
  rw [if_neg h1, if_neg h2, if_neg h3, if_neg h4, if_neg h5, if_neg h6, if_neg h1, if_neg h2, if_neg h3, if_neg h4, if_neg h5, if_neg h6, e]; rfl
def fieldI (i : Nat) (o : O) : Int × ByteArray := match i with
  | 1 => (o.a1, ⟨#[]⟩)
  | 2 => (o.a2, ⟨#[]⟩)
  | 3 => (o.a3, ⟨#[]⟩)
  | 4 => (o.a4, ⟨#[]⟩)
  | 5 => (o.a5, ⟨#[]⟩)
  | 6 => (0, o.a6)
  | _ => (0, ⟨#[]⟩)
theorem getF_ix (l : Nat) (o : O) : getF l o = fieldI (ix l) o := by
  unfold getF ix
  by_cases h1 : l = 65
  · rw [if_pos h1, if_pos h1]; rfl
  rw [if_neg h1, if_neg h1]
  by_cases h2 : l = 82
  · rw [if_pos h2, if_pos h2]; rfl
  rw [if_neg h2, if_neg h2]
  by_cases h3 : l = 84
  · rw [if_pos h3, if_pos h3]; rfl
  rw [if_neg h3, if_neg h3]
  by_cases h4 : l = 70
  · rw [if_pos h4, if_pos h4]; rfl
  rw [if_neg h4, if_neg h4]
  by_cases h5 : l = 76
  · rw [if_pos h5, if_pos h5]; rfl
  rw [if_neg h5, if_neg h5]
  by_cases h6 : l = 67
  · rw [if_pos h6, if_pos h6]; rfl
  rw [if_neg h6, if_neg h6]; rfl
theorem set1 {i : Nat} (h : i ≠ 1) (o : O) (v : Int) : fieldI i { o with a1 := v } = fieldI i o := by
  unfold fieldI
  split <;> first | rfl | exact absurd rfl h
theorem set2 {i : Nat} (h : i ≠ 2) (o : O) (v : Int) : fieldI i { o with a2 := v } = fieldI i o := by
  unfold fieldI
  split <;> first | rfl | exact absurd rfl h
theorem set3 {i : Nat} (h : i ≠ 3) (o : O) (v : Int) : fieldI i { o with a3 := v } = fieldI i o := by
  unfold fieldI
  split <;> first | rfl | exact absurd rfl h
theorem set4 {i : Nat} (h : i ≠ 4) (o : O) (v : Int) : fieldI i { o with a4 := v } = fieldI i o := by
  unfold fieldI
  split <;> first | rfl | exact absurd rfl h
theorem set5 {i : Nat} (h : i ≠ 5) (o : O) (v : Int) : fieldI i { o with a5 := v } = fieldI i o := by
  unfold fieldI
  split <;> first | rfl | exact absurd rfl h
theorem set6 {i : Nat} (h : i ≠ 6) (o : O) (v : ByteArray) : fieldI i { o with a6 := v } = fieldI i o := by
  unfold fieldI
  split <;> first | rfl | exact absurd rfl h
theorem read_field {l i : Nat} {w : ByteArray} {o0 : O} (h : i ≠ ix l) : fieldI i (readP l w o0).2 = fieldI i o0 := by
  unfold readP
  unfold ix at h
  by_cases h1 : l = 65
  · rw [if_pos h1] at h ⊢
    split
    · exact set2 h _ _
    · rfl
  rw [if_neg h1] at h ⊢
  by_cases h2 : l = 82
  · rw [if_pos h2] at h ⊢
    exact set3 h _ _
  rw [if_neg h2] at h ⊢
  by_cases h3 : l = 84
  · rw [if_pos h3] at h ⊢
    split
    · exact set5 h _ _
    split
    · exact set5 h _ _
    split
    · exact set5 h _ _
    · rfl
  rw [if_neg h3] at h ⊢
  by_cases h4 : l = 70
  · rw [if_pos h4] at h ⊢
    split
    · rfl
    · exact set6 h _ _
  rw [if_neg h4] at h ⊢
  by_cases h5 : l = 76
  · rw [if_pos h5] at h ⊢
    exact set1 h _ _
  rw [if_neg h5] at h ⊢
  by_cases h6 : l = 67
  · rw [if_pos h6] at h ⊢
    exact set4 h _ _
  rw [if_neg h6] at h ⊢
  exact set5 h _ _
/-- A read turns no other field. -/
theorem read_keep {l l2 : Nat} {w : ByteArray} {o0 : O} (h : ix l2 ≠ ix l) : getF l2 (readP l w o0).2 = getF l2 o0 := by
  rw [getF_ix, getF_ix]
  exact read_field h
theorem read_kind (l : Nat) (w : ByteArray) (o0 : O) : (readP l w o0).2.a0 = o0.a0 := by
  unfold readP
  repeat' split
  all_goals rfl
/-- The words are what is told of the fields. -/
def TW (o : O) : List Nat → List ByteArray → Prop
  | [], [] => True
  | l :: ls, w :: ws => tl l o = some (w, true) ∧ TW o ls ws
  | _, _ => False
theorem prun_op : ∀ (ls : List Nat) (ws : List ByteArray) (o0 : O) (p : Int) (o : O), prun ls ws o0 p = .op o → ws.length = ls.length → (ls.map ix).Nodup → (∀ w ∈ ws, NoGap w) →
    o.a0 = o0.a0 ∧ (∀ l2, ix l2 ∉ ls.map ix → getF l2 o = getF l2 o0) ∧ TW o ls ws
  | [], [], o0, p, o, h, _, _, _ => by
    unfold prun at h
    injection h with h
    subst h
    exact ⟨rfl, fun _ _ => rfl, trivial⟩
  | [], _ :: _, _, _, _, _, hl, _, _ => by cases hl
  | _ :: _, [], _, _, _, _, hl, _, _ => by cases hl
  | l :: ls, w :: ws, o0, p, o, h, hl, hn, hg => by
    unfold prun at h
    cases hb : (readP l w o0).1 with
    | true => rw [if_pos hb] at h; cases h
    | false =>
      rw [if_neg (by rw [hb]; decide)] at h
      rw [List.map_cons, List.nodup_cons] at hn
      obtain ⟨h1, h2, h3⟩ := prun_op ls ws _ _ o h (Nat.succ.inj hl) hn.2 (fun w hw => hg w (List.mem_cons_of_mem _ hw))
      refine ⟨h1.trans (read_kind l w o0), fun l2 h4 => ?_, ?_, h3⟩
      · rw [List.map_cons, List.mem_cons] at h4
        rw [h2 l2 (fun m => h4 (.inr m))]
        exact read_keep (fun e => h4 (.inl e))
      · rw [tl_get (h2 l hn.1)]
        exact read_tl (hg w (List.mem_cons_self ..)) hb
theorem prun_tw : ∀ (ls : List Nat) (ws : List ByteArray) (o o0 : O) (p : Int), I6 o → TW o ls ws → prun ls ws o0 p = .op (ls.foldl (fun b l => setF o l b) o0) ∧ ws.length = ls.length ∧ ∀ w ∈ ws, NoGap w
  | [], [], o, o0, p, _, _ => ⟨rfl, rfl, fun w h => absurd h List.not_mem_nil⟩
  | [], _ :: _, _, _, _, _, h => h.elim
  | _ :: _, [], _, _, _, _, h => h.elim
  | l :: ls, w :: ws, o, o0, p, hI, h => by
    obtain ⟨h1, h2⟩ := tl_read hI h.1
    obtain ⟨h3, h4, h5⟩ := prun_tw ls ws o (setF o l o0) (p + ((w.size : Int) + 1)) hI h.2
    refine ⟨?_, by rw [List.length_cons, List.length_cons, h4], fun v hv => ?_⟩
    · unfold prun
      rw [h1 o0, if_neg (show ¬ ((false, setF o l o0).1 = true) from Bool.false_ne_true), h3]
      rfl
    · rcases List.mem_cons.1 hv with rfl | hv
      · exact h2
      · exact h5 v hv
/-- A line out of its words. -/
def jb (line : ByteArray) (ws : List ByteArray) : ByteArray := ws.foldl (fun a w => a ++ (⟨#[32]⟩ ++ w)) line
theorem jb_data : ∀ (ws : List ByteArray) (line : ByteArray), (jb line ws).data.toList = jn line.data.toList (ws.map (·.data.toList))
  | [], line => by unfold jb jn; simp
  | w :: ws, line => by
    show (jb (line ++ (⟨#[32]⟩ ++ w)) ws).data.toList = _
    rw [jb_data ws, ba_app, ba_app]
    unfold jn
    rw [List.map_cons, List.flatMap_cons]
    simp
theorem jb_size : ∀ (ws : List ByteArray) (line : ByteArray), line.size ≤ (jb line ws).size
  | [], line => Nat.le_refl _
  | w :: ws, line => by
    have := jb_size ws (line ++ (⟨#[32]⟩ ++ w))
    rw [ByteArray.size_append] at this
    exact Nat.le_trans (Nat.le_add_right ..) this
theorem fmtL_tw : ∀ (ls : List Nat) (ws : List ByteArray) (line : ByteArray) (o : O), TW o ls ws → (jb line ws).size ≤ 100 → fmtL o.a1 o.a2 o.a3 o.a4 o.a5 o.a6 ls line = some (jb line ws, true)
  | [], [], line, o, _, hs => by
    unfold fmtL
    rw [if_neg (by have h : line.size ≤ 100 := hs; omega)]
    rfl
  | [], _ :: _, _, _, h, _ => h.elim
  | _ :: _, [], _, _, h, _ => h.elim
  | l :: ls, w :: ws, line, o, h, hs => by
    have h1 : tellAt l o.a1 o.a2 o.a3 o.a4 o.a5 o.a6 = some (w, true) := h.1
    have h2 := jb_size ws (line ++ (⟨#[32]⟩ ++ w))
    have h3 : (jb (line ++ (⟨#[32]⟩ ++ w)) ws).size ≤ 100 := hs
    rw [ByteArray.size_append, ByteArray.size_append] at h2
    unfold fmtL
    rw [h1, Option.bind_some, if_pos rfl, if_neg (by have : (⟨#[32]⟩ : ByteArray).size = 1 := rfl; show ¬ 9223372036854775807 < line.size + (1 + w.size); omega)]
    exact fmtL_tw ls ws _ o h.2 h3
theorem fmtL_inv : ∀ (ls : List Nat) (line t : ByteArray) (b : Bool) (o : O), fmtL o.a1 o.a2 o.a3 o.a4 o.a5 o.a6 ls line = some (t, b) → (b = false ∧ t = ⟨#[]⟩) ∨ (b = true ∧ t.size ≤ 100 ∧ ∃ ws, TW o ls ws ∧ t = jb line ws)
  | [], line, t, b, o, h => by
    unfold fmtL at h
    split at h
    · obtain ⟨rfl, rfl⟩ := Prod.mk.inj (Option.some.inj h)
      exact .inl ⟨rfl, rfl⟩
    · obtain ⟨rfl, rfl⟩ := Prod.mk.inj (Option.some.inj h)
      exact .inr ⟨rfl, by omega, [], trivial, rfl⟩
  | l :: ls, line, t, b, o, h => by
    unfold fmtL at h
    obtain ⟨⟨w, c⟩, h1, h2⟩ := Option.bind_eq_some_iff.1 h
    cases c with
    | false =>
      rw [if_neg (show ¬ ((w, false).2 = true) from Bool.false_ne_true)] at h2
      obtain ⟨rfl, rfl⟩ := Prod.mk.inj (Option.some.inj h2)
      exact .inl ⟨rfl, rfl⟩
    | true =>
      rw [if_pos rfl] at h2
      split at h2
      · cases h2
      · rcases fmtL_inv ls _ t b o h2 with h3 | ⟨h3, h4, ws, h5, h6⟩
        · exact .inl h3
        · exact .inr ⟨h3, h4, w :: ws, ⟨h1, h5⟩, h6⟩
theorem kf_some : ∀ (l : List ByteArray) (s : ByteArray) (i : Nat), kf s l i ≠ 0 → ∃ j n, l[j]? = some n ∧ kf s l i = ((i + j : Nat) : Int) ∧ 0 < i + j ∧ n = s
  | [], s, i, h => absurd rfl h
  | n :: l, s, i, h => by
    unfold kf at h ⊢
    split
    · rename_i hc
      exact ⟨0, n, rfl, rfl, hc.1, FAmt.text_inj hc.2⟩
    · rename_i hc
      rw [if_neg hc] at h
      obtain ⟨j, m, h1, h2, h3, h4⟩ := kf_some l s (i + 1) h
      exact ⟨j + 1, m, h1, by rw [h2]; congr 1; omega, by omega, h4⟩
theorem kind_back {s : ByteArray} (h : kindP s ≠ 0) : 1 ≤ kindP s ∧ kindP s ≤ 21 ∧ nameAt (kindP s) = s := by
  obtain ⟨j, n, h1, h2, h3, h4⟩ := kf_some namesL s 0 h
  have hj : j < 22 := (List.getElem?_eq_some_iff.1 h1).1
  have hk : kindP s = (j : Int) := by unfold kindP; rw [h2]; congr 1; omega
  refine ⟨by omega, by omega, ?_⟩
  rw [hk]
  unfold nameAt
  rw [Int.toNat_natCast, List.getD_eq_getElem?_getD, h1]
  exact h4
theorem kind_name (x : Int) (h0 : 1 ≤ x) (h1 : x ≤ 21) : kindP (nameAt x) = x ∧ NoGap (nameAt x) := by
  have h : x = 1 ∨ x = 2 ∨ x = 3 ∨ x = 4 ∨ x = 5 ∨ x = 6 ∨ x = 7 ∨ x = 8 ∨ x = 9 ∨ x = 10 ∨ x = 11 ∨ x = 12 ∨ x = 13 ∨ x = 14 ∨ x = 15 ∨ x = 16 ∨ x = 17 ∨ x = 18 ∨ x = 19 ∨ x = 20 ∨ x = 21 := by omega
  rcases h with rfl | rfl | rfl | rfl | rfl | rfl | rfl | rfl | rfl | rfl | rfl | rfl | rfl | rfl | rfl | rfl | rfl | rfl | rfl | rfl | rfl
  all_goals exact ⟨by decide +kernel, by unfold NoGap; decide +kernel⟩
theorem shape_nodup (k : Int) : ((shapeL k).map ix).Nodup := by
  unfold shapeL
  by_cases h1 : k = 1
  · rw [if_pos h1]; decide
  rw [if_neg h1]
  by_cases h2 : k = 2
  · rw [if_pos h2]; decide
  rw [if_neg h2]
  by_cases h4 : k = 4
  · rw [if_pos h4]; decide
  rw [if_neg h4]
  by_cases h5 : k = 5
  · rw [if_pos h5]; decide
  rw [if_neg h5]
  by_cases h3 : k = 3
  · rw [if_pos h3]; decide
  rw [if_neg h3]
  by_cases h15 : k = 15
  · rw [if_pos h15]; decide
  rw [if_neg h15]
  by_cases h16 : k = 16
  · rw [if_pos h16]; decide
  rw [if_neg h16]
  by_cases h6 : k = 6
  · rw [if_pos h6]; decide
  rw [if_neg h6]
  by_cases h7 : k = 7
  · rw [if_pos h7]; decide
  rw [if_neg h7]
  by_cases h8 : k = 8
  · rw [if_pos h8]; decide
  rw [if_neg h8]
  by_cases h9 : k = 9
  · rw [if_pos h9]; decide
  rw [if_neg h9]
  by_cases h10 : k = 10
  · rw [if_pos h10]; decide
  rw [if_neg h10]
  by_cases h12 : k = 12
  · rw [if_pos h12]; decide
  rw [if_neg h12]
  decide
theorem noGap_32 {w : ByteArray} (h : NoGap w) : (32 : UInt8) ∉ w.data.toList := fun m => (h 32 m).1 rfl
/-- What Format tells is read as the operation. -/
theorem fmt_parse {o : O} (hI : I6 o) {t : ByteArray} (h : fmtF o.a0 o.a1 o.a2 o.a3 o.a4 o.a5 o.a6 = some (t, true)) : parseP t = .op (bareO o) ∧ (1 ≤ o.a0 ∧ o.a0 ≤ 21) ∧ t.size ≤ 100 ∧ NoGap (nameAt o.a0) ∧ ∃ ws, TW o (shapeL o.a0) ws ∧ t = jb (nameAt o.a0) ws ∧ ∀ w ∈ ws, NoGap w := by
  unfold fmtF at h
  split at h
  · cases (Prod.mk.inj (Option.some.inj h)).2
  split at h
  · cases (Prod.mk.inj (Option.some.inj h)).2
  rename_i h0 h1
  obtain ⟨hk, hn⟩ := kind_name o.a0 (by omega) (by omega)
  rcases fmtL_inv _ _ _ _ o h with ⟨h2, _⟩ | ⟨_, h2, ws, h3, h4⟩
  · cases h2
  obtain ⟨h5, h6, h7⟩ := prun_tw (shapeL o.a0) ws o { Zo with a0 := o.a0 } (((nameAt o.a0).size : Int) + 1) hI h3
  refine ⟨?_, ⟨by omega, by omega⟩, h2, hn, ws, h3, h4, h7⟩
  have hw : wordsOf t = nameAt o.a0 :: ws := words_jn (by rw [h4, jb_data]) (noGap_32 hn) (fun w hm => noGap_32 (h7 w hm))
  unfold parseP
  rw [if_neg (by omega), hw, parseW_cons, hk, if_neg (by omega), if_pos h6, h5]
  rfl
theorem fmt_bad {o : O} {t : ByteArray} (h : fmtF o.a0 o.a1 o.a2 o.a3 o.a4 o.a5 o.a6 = some (t, false)) : t = ⟨#[]⟩ := by
  unfold fmtF at h
  split at h
  · exact (Prod.mk.inj (Option.some.inj h)).1.symm
  split at h
  · exact (Prod.mk.inj (Option.some.inj h)).1.symm
  rcases fmtL_inv _ _ _ _ o h with ⟨_, h2⟩ | ⟨h2, _⟩
  · exact h2
  · cases h2
/-- What is read as an operation is what Format tells for it. -/
theorem parse_fmt {s : ByteArray} {o : O} (hs : ∀ c ∈ s.data.toList, c ≠ 10) (h : parseP s = .op o) : fmtF o.a0 o.a1 o.a2 o.a3 o.a4 o.a5 o.a6 = some (s, true) := by
  unfold parseP at h
  split at h
  · cases h
  rename_i hz
  cases hw : wordsOf s with
  | nil => rw [hw] at h; cases h
  | cons w0 ws =>
    rw [hw, parseW_cons] at h
    split at h
    · cases h
    rename_i hk
    split at h
    · rename_i hl
      obtain ⟨h1, h2⟩ := words_back hw
      obtain ⟨k1, k2, k3⟩ := kind_back hk
      have hg : ∀ w ∈ ws, NoGap w := fun w hm c hc => by
        obtain ⟨e1, e2⟩ := h2 w (List.mem_cons_of_mem _ hm)
        exact ⟨fun e => e1 (e ▸ hc), hs c (e2 c hc)⟩
      obtain ⟨e0, _, e2⟩ := prun_op _ _ _ _ _ h hl (shape_nodup _) hg
      have e0 : o.a0 = kindP w0 := e0
      have hj : jb w0 ws = s := data_inj (by rw [jb_data, h1])
      unfold fmtF
      rw [e0, if_neg (by omega), if_neg (by omega), k3, fmtL_tw _ ws w0 o e2 (by rw [hj]; omega), hj]
    · cases h
def tot : List ByteArray → Nat
  | [] => 0
  | w :: ws => w.size + 1 + tot ws
theorem jn_len : ∀ (ws : List ByteArray) (w0 : List UInt8), (jn w0 (ws.map (·.data.toList))).length = w0.length + tot ws
  | [], w0 => by unfold jn tot; simp
  | w :: ws, w0 => by
    rw [List.map_cons, jn_cons, List.length_append, List.length_cons, jn_len ws]
    show _ = w0.length + (w.size + 1 + tot ws)
    rw [ba_len]
    omega
theorem prun_plc : ∀ (ls : List Nat) (ws : List ByteArray) (o0 : O) (p q n : Int), prun ls ws o0 p = .plc q n → n = 182 ∧ p ≤ q ∧ q + 1 ≤ p + tot ws
  | [], _, _, _, _, _, h => by unfold prun at h; cases h
  | _ :: _, [], _, _, _, _, h => by unfold prun at h; cases h
  | l :: ls, w :: ws, o0, p, q, n, h => by
    unfold prun at h
    have ht : tot (w :: ws) = w.size + 1 + tot ws := rfl
    split at h
    · injection h with h1 h2
      exact ⟨h2.symm, by omega, by omega⟩
    · obtain ⟨h1, h2, h3⟩ := prun_plc ls ws _ _ q n h
      exact ⟨h1, by omega, by omega⟩
theorem prun_flt : ∀ (ls : List Nat) (ws : List ByteArray) (o0 : O) (p n : Int), prun ls ws o0 p ≠ .flt n
  | [], _, _, _, _ => by unfold prun; exact fun h => by cases h
  | _ :: _, [], _, _, _ => by unfold prun; exact fun h => by cases h
  | l :: ls, w :: ws, o0, p, n => by
    unfold prun
    split
    · exact fun h => by cases h
    · exact prun_flt ls ws _ _ n
/-- Where no operation is read there is an error, and its place lies in the line. -/
theorem parse_place (s : ByteArray) : (∃ o, parseP s = .op o) ∨ ((parseP s).o = Zo ∧ PR.errno (parseP s) ≠ 0 ∧ 0 ≤ PR.place (parseP s) ∧ PR.place (parseP s) ≤ s.size) := by
  unfold parseP
  split
  · exact .inr ⟨rfl, by decide, Int.le_refl _, Int.natCast_nonneg _⟩
  cases hw : wordsOf s with
  | nil => exact .inr ⟨rfl, by show (180 : Int) ≠ 0; decide, Int.le_refl _, Int.natCast_nonneg _⟩
  | cons w0 ws =>
    rw [parseW_cons]
    split
    · exact .inr ⟨rfl, by decide, Int.le_refl _, Int.natCast_nonneg _⟩
    split
    · obtain ⟨h1, _⟩ := words_back hw
      have h2 := congrArg List.length h1
      rw [jn_len, ba_len, ba_len] at h2
      cases hr : prun (shapeL (kindP w0)) ws { Zo with a0 := kindP w0 } ((w0.size : Int) + 1) with
      | op o => exact .inl ⟨o, rfl⟩
      | flt n => exact absurd hr (prun_flt _ _ _ _ _)
      | plc p n =>
        obtain ⟨rfl, h3, h4⟩ := prun_plc _ _ _ _ _ _ hr
        refine .inr ⟨rfl, by show (182 : Int) ≠ 0; decide, ?_, ?_⟩
        · show 0 ≤ p; omega
        · show p ≤ s.size; omega
    · exact .inr ⟨rfl, by show (181 : Int) ≠ 0; decide, Int.natCast_nonneg _, Int.le_refl _⟩
end Go.Proofs.YtjhodgcjkobpoaaGreatDoor.FInv
