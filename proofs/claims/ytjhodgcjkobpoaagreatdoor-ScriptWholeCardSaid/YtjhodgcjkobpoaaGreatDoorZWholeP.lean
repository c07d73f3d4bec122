/- ScriptWhole, plainly: lines joined, with empty lines and remarks between, are read back. No program in sight. (Under way.) -/
import Derived.Test.YtjhodgcjkobpoaaGreatDoorZFSpeak
import Derived.Test.YtjhodgcjkobpoaaGreatDoorZPAx17
import Derived.Test.YtjhodgcjkobpoaaGreatDoorZPAx16
namespace Go.Proofs.YtjhodgcjkobpoaaGreatDoor.WholeP
open Go.RowKit Go.Proofs.YtjhodgcjkobpoaaGreatDoorW.PrintWords Go.Proofs.YtjhodgcjkobpoaaGreatDoorW.PrintLast Go.Proofs.YtjhodgcjkobpoaaGreatDoorW.PrintMore Go.Proofs.YtjhodgcjkobpoaaGreatDoor.PA Go.Proofs.YtjhodgcjkobpoaaGreatDoor.MB Go.Proofs.YtjhodgcjkobpoaaGreatDoor.MByt Go.Proofs.YtjhodgcjkobpoaaGreatDoor.FFormat Go.Proofs.YtjhodgcjkobpoaaGreatDoor.FReads Go.Proofs.YtjhodgcjkobpoaaGreatDoor.FParse Go.Proofs.YtjhodgcjkobpoaaGreatDoor.FParse2 Go.Proofs.YtjhodgcjkobpoaaGreatDoor.FBare Go.Proofs.YtjhodgcjkobpoaaGreatDoor.FInv Go.Proofs.YtjhodgcjkobpoaaGreatDoor.FSpeak
set_option linter.unusedVariables false
set_option linter.unusedSimpArgs false
theorem scan_cut (A B : List Int) : ∀ cur, scan (A ++ 10 :: B) cur = scan (A ++ [10]) cur ++ scan B [] := by
  induction A with
  | nil =>
    intro cur
    rw [List.nil_append, List.nil_append, scan_cons, scan_cons, if_pos rfl, if_pos rfl, show scan [] [] = [] from rfl, List.append_nil]
  | cons c A ih =>
    intro cur
    rw [List.cons_append, List.cons_append, scan_cons, scan_cons]
    split
    · rw [ih, List.append_assoc]
    · exact ih _
theorem scan_line : ∀ (l cur : List Int), (∀ c ∈ l, c ≠ 10) → scan (l ++ [10]) cur = keepL (cur ++ l)
  | [], cur, _ => by
    rw [List.nil_append, scan_cons, if_pos rfl, show scan [] [] = [] from rfl, List.append_nil, List.append_nil]
  | c :: l, cur, h => by
    rw [List.cons_append, scan_cons, if_neg (h c (List.mem_cons_self ..)), scan_line l (cur ++ [c]) (fun x hx => h x (List.mem_cons_of_mem _ hx)), List.append_assoc]
    rfl
/-- A text that ends with a line's end, or an empty one. -/
def Closed (X : List Int) : Prop := X = [] ∨ ∃ A, X = A ++ [10]
theorem closed_app {X : List Int} (h : Closed X) (Y : List Int) : scan (X ++ Y) [] = scan X [] ++ scan Y [] := by
  rcases h with rfl | ⟨A, rfl⟩
  · rfl
  · rw [List.append_assoc]
    exact scan_cut A Y []
def toO (x : S25) : O := ⟨x.f0, x.f1, x.f2, x.f3, x.f4, x.f5, x.f6⟩
def JUNK : List Int := bytesOf (⟨#[10, 35, 32, 100, 97, 121, 32, 55, 10, 35, 10]⟩ : ByteArray)
/-- Each line read is the operation wanted. -/
def Rel (Ls : List (List Int)) (want : List S25) : Prop := Ls.length = want.length ∧ ∀ j : Nat, j < want.length → parseP (strOfNums (Ls.getD j [])) = .op (toO (want.getD j z25))
structure Inv (text : List Int) (want : List S25) : Prop where
  cl : Closed text
  rel : Rel (scan text []) want
  by_ : ∀ x ∈ text, 0 ≤ x ∧ x < 256
theorem inv_nil : Inv [] [] := ⟨.inl rfl, ⟨rfl, fun j h => absurd h (Nat.not_lt_zero j)⟩, fun x h => absurd h List.not_mem_nil⟩
theorem junk_bytes : ∀ x ∈ JUNK, 0 ≤ x ∧ x < 256 := by decide
theorem inv_junk {text : List Int} {want : List S25} (h : Inv text want) : Inv (text ++ JUNK) want := by
  refine ⟨.inr ⟨text ++ [10, 35, 32, 100, 97, 121, 32, 55, 10, 35], by rw [List.append_assoc]; rfl⟩, ?_, fun x hx => ?_⟩
  · rw [closed_app h.cl, show scan JUNK [] = [] by decide, List.append_nil]
    exact h.rel
  · rcases List.mem_append.1 hx with hx | hx
    · exact h.by_ x hx
    · exact junk_bytes x hx
theorem inv_line {text : List Int} {want : List S25} (h : Inv text want) {t : ByteArray} {x : S25} (hp : parseP t = .op (toO x)) (h10 : ∀ c ∈ bytesOf t, c ≠ 10) (hne : bytesOf t ≠ []) (h35 : rd (bytesOf t) 0 ≠ 35) : Inv (text ++ bytesOf t ++ [10]) (want ++ [x]) := by
  refine ⟨.inr ⟨text ++ bytesOf t, rfl⟩, ?_, fun c hc => ?_⟩
  · have hs : scan (text ++ bytesOf t ++ [10]) [] = scan text [] ++ [bytesOf t] := by
      rw [List.append_assoc, closed_app h.cl, scan_line _ _ h10, List.nil_append]
      unfold keepL
      rw [if_pos ⟨hne, h35⟩]
    rw [hs]
    obtain ⟨h1, h2⟩ := h.rel
    refine ⟨by rw [List.length_append, List.length_append, h1]; rfl, fun j hj => ?_⟩
    rw [List.length_append] at hj
    rcases Nat.lt_or_ge j want.length with c | c
    · rw [List.getD_eq_getElem?_getD, List.getD_eq_getElem?_getD, List.getElem?_append_left (by omega), List.getElem?_append_left c, ← List.getD_eq_getElem?_getD, ← List.getD_eq_getElem?_getD]
      exact h2 j c
    · have e : j = want.length := by simp at hj; omega
      subst e
      rw [List.getD_eq_getElem?_getD, List.getD_eq_getElem?_getD, List.getElem?_append_right (by omega), List.getElem?_append_right (by omega), h1, Nat.sub_self]
      show parseP (strOfNums (bytesOf t)) = _
      rw [show strOfNums (bytesOf t) = t from FLawK.str_byts t]
      exact hp
  · rcases List.mem_append.1 hc with hc | hc
    · rcases List.mem_append.1 hc with hc | hc
      · exact h.by_ c hc
      · obtain ⟨b, _, rfl⟩ := List.mem_map.1 hc
        have := b.toNat_lt
        exact ⟨Int.natCast_nonneg _, by omega⟩
    · rw [List.mem_singleton.1 hc]; decide
theorem equal_same (x : S25) : arrearslaw18_equal.f x.f0 x.f1 x.f2 x.f3 x.f4 x.f5 x.f6 x.f0 x.f1 x.f2 x.f3 x.f4 x.f5 x.f6 = some true := by
  unfold arrearslaw18_equal.f
  rw [if_pos rfl, if_pos rfl, if_pos rfl, if_pos rfl, if_pos rfl, if_pos rfl, beq_self_eq_true]
theorem l2_ev {Ls : List (List Int)} {want : List S25} (h : Rel Ls want) (hl : want.length ≤ 1000) : ∀ (d j : Nat), j + d = want.length → Ev (fun k => arrearslaw18_ScriptWhole.l2 k want Ls (j : Int)) true
  | 0, j, hj => by
    refine Ev_one fun k => ?_
    unfold arrearslaw18_ScriptWhole.l2
    rw [if_neg (by omega)]
  | d + 1, j, hj => by
    refine Ev.step (fun k => ?_) (l2_ev h hl d (j + 1) (by omega))
    have hp := h.2 j (by omega)
    have e1 : rd_L4 Ls (j : Int) = Ls.getD j [] := by show Ls.getD ((j : Int)).toNat [] = _; rw [Int.toNat_natCast]
    have e2 : rd_T25 want (j : Int) = want.getD j z25 := by show want.getD ((j : Int)).toNat z25 = _; rw [Int.toNat_natCast]
    have hf : script_Parse.f (Ls.getD j []) = some ((want.getD j z25).f0, (want.getD j z25).f1, (want.getD j z25).f2, (want.getD j z25).f3, (want.getD j z25).f4, (want.getD j z25).f5, (want.getD j z25).f6, 0, 0) := by
      unfold script_Parse.f
      rw [hp]
      rfl
    simp only [arrearslaw18_ScriptWhole.l2]
    rw [if_pos (by omega), if_pos (by omega), if_pos (by have := h.1; omega), e1, e2, hf, Option.bind_some, if_pos rfl, if_pos rfl, equal_same, Option.bind_some, if_pos rfl, show wrap64 ((j : Int) + 1) = ((j + 1 : Nat) : Int) by unfold wrap64; omega]
theorem junk_len : JUNK.length = 11 := rfl
theorem l1_ev {ops : List S25} {strewn : List Int} {want : List S25} {i : Nat} (hi : i ≤ 1000) (hs : strewn.length ≤ 1000) (B : Nat) (hB : B ≤ 100000000)
    (hnext : ∀ text, Inv text want → text.length ≤ B → Ev (fun k => arrearslaw18_ScriptWhole.l0 k ops strewn want text ((i + 1 : Nat) : Int)) true) :
    ∀ (d j : Nat) (text : List Int), j + d = strewn.length → Inv text want → text.length + 11 * d ≤ B → Ev (fun k => arrearslaw18_ScriptWhole.l1 k ops strewn want text (i : Int) (j : Int)) true
  | 0, j, text, hj, hv, hl => by
    refine Ev.step (fun k => ?_) (hnext text hv (by omega))
    simp only [arrearslaw18_ScriptWhole.l1]
    rw [if_neg (by omega), show wrap64 ((i : Int) + 1) = ((i + 1 : Nat) : Int) by unfold wrap64; omega]
  | d + 1, j, text, hj, hv, hl => by
    by_cases he : rd strewn (j : Int) = (i : Int)
    · refine Ev.step (fun k => ?_) (l1_ev hi hs B hB hnext d (j + 1) (text ++ JUNK) (by omega) (inv_junk hv) (by rw [List.length_append, junk_len]; omega))
      simp only [arrearslaw18_ScriptWhole.l1]
      rw [if_pos (by omega), if_pos (by omega), if_pos he, if_pos (by omega), show wrap64 ((j : Int) + 1) = ((j + 1 : Nat) : Int) by unfold wrap64; omega]
      rfl
    · refine Ev.step (fun k => ?_) (l1_ev hi hs B hB hnext d (j + 1) text (by omega) hv (by omega))
      simp only [arrearslaw18_ScriptWhole.l1]
      rw [if_pos (by omega), if_pos (by omega), if_neg he, show wrap64 ((j : Int) + 1) = ((j + 1 : Nat) : Int) by unfold wrap64; omega]
theorem speak_up (o : O) (hs : o.a6.size ≤ 9223372036854775807) : ∃ b, (∀ k, o.a6.size + 3 ≤ k → arrearslaw18_speakable.f k o.a0 o.a1 o.a2 o.a3 o.a4 o.a5 o.a6 = some b) ∧ (b = true → SP o) := by
  obtain ⟨b, h1, h2⟩ := speakable_ev o hs
  refine ⟨b, fun k hk => ?_, h2⟩
  obtain ⟨d, rfl⟩ : ∃ d, k = o.a6.size + 3 + d := ⟨k - (o.a6.size + 3), by omega⟩
  clear hk
  induction d with
  | zero => exact h1
  | succ d ih => exact arrearslaw18_speakable.mono _ _ _ _ _ _ _ _ _ ih
/-- A line told: no line's end in it, not empty, no remark. -/
theorem line_good {o : O} (hI : I6 o) {t : ByteArray} (h : fmtF o.a0 o.a1 o.a2 o.a3 o.a4 o.a5 o.a6 = some (t, true)) : parseP t = .op (bareO o) ∧ (∀ c ∈ bytesOf t, c ≠ 10) ∧ bytesOf t ≠ [] ∧ rd (bytesOf t) 0 ≠ 35 ∧ t.size ≤ 100 := by
  obtain ⟨h1, ⟨k0, k1⟩, h2, h3, ws, h4, h5, h6⟩ := fmt_parse hI h
  have hd : t.data.toList = FSp.jn (nameAt o.a0).data.toList (ws.map (·.data.toList)) := by rw [h5, jb_data]
  have hn : ∃ c l, (nameAt o.a0).data.toList = c :: l ∧ c ≠ 35 := by
    have h : o.a0 = 1 ∨ o.a0 = 2 ∨ o.a0 = 3 ∨ o.a0 = 4 ∨ o.a0 = 5 ∨ o.a0 = 6 ∨ o.a0 = 7 ∨ o.a0 = 8 ∨ o.a0 = 9 ∨ o.a0 = 10 ∨ o.a0 = 11 ∨ o.a0 = 12 ∨ o.a0 = 13 ∨ o.a0 = 14 ∨ o.a0 = 15 ∨ o.a0 = 16 ∨ o.a0 = 17 ∨ o.a0 = 18 ∨ o.a0 = 19 ∨ o.a0 = 20 ∨ o.a0 = 21 := by omega
    rcases h with h | h | h | h | h | h | h | h | h | h | h | h | h | h | h | h | h | h | h | h | h <;> (rw [h]; exact ⟨_, _, rfl, by decide⟩)
  obtain ⟨c, l, hc, hc35⟩ := hn
  refine ⟨h1, fun x hx => ?_, ?_, ?_, h2⟩
  · obtain ⟨b, hb, rfl⟩ := List.mem_map.1 hx
    rw [hd] at hb
    unfold FSp.jn at hb
    have hb10 : b ≠ 10 := by
      rcases List.mem_append.1 hb with hb | hb
      · exact (h3 b hb).2
      · obtain ⟨w, hw, hb⟩ := List.mem_flatMap.1 hb
        obtain ⟨v, hv, rfl⟩ := List.mem_map.1 hw
        rcases List.mem_cons.1 hb with rfl | hb
        · decide
        · exact (h6 v hv b hb).2
    exact fun e => hb10 (FSp.u8_inj e)
  · unfold bytesOf FSp.jn at *
    rw [hd, hc]
    simp
  · unfold bytesOf FSp.jn at *
    rw [hd, hc]
    exact fun e => hc35 (FSp.u8_inj e)
set_option maxRecDepth 100000 in
theorem l0_ev {ops : List S25} {strewn : List Int} (ho : ops.length ≤ 400) (hs : strewn.length ≤ 400) (hI : ∀ x ∈ ops, I6 (toO x) ∧ x.f6.size ≤ 9223372036854775807) :
    ∀ (d i : Nat) (want : List S25) (text : List Int), i + d = ops.length → Inv text want → text.length ≤ i * 5000 → want.length ≤ i → Ev (fun k => arrearslaw18_ScriptWhole.l0 k ops strewn want text (i : Int)) true
  | 0, i, want, text, hi, hv, hl, hw => by
    refine Ev.step (fun k => ?_) (l2_ev hv.rel (by omega) want.length 0 (by omega))
    simp only [arrearslaw18_ScriptWhole.l0]
    have hf : script_Lines.f text = some (scan text []) := by unfold script_Lines.f; rw [if_pos ⟨hv.by_, by omega⟩]
    rw [if_neg (by omega), hf, Option.bind_some, if_pos (by have := hv.rel.1; omega)]
    rfl
  | d + 1, i, want, text, hi, hv, hl, hw => by
    have hlt : i < ops.length := by omega
    obtain ⟨x, hx⟩ : ∃ x, ops[i]? = some x := ⟨_, List.getElem?_eq_getElem hlt⟩
    have hr : rd_T25 ops (i : Int) = x := by show ops.getD ((i : Int)).toNat z25 = _; rw [Int.toNat_natCast, List.getD_eq_getElem?_getD, hx]; rfl
    obtain ⟨hIx, hsx⟩ := hI x (List.mem_of_getElem? hx)
    obtain ⟨b, hb1, hb2⟩ := speak_up (toO x) hsx
    have hnext : ∀ want2 text0, Inv text0 want2 → want2.length ≤ i + 1 → text0.length ≤ i * 5000 + 101 → Ev (fun k => arrearslaw18_ScriptWhole.j2 k ops strewn want2 text0 (i : Int)) true := fun want2 text0 h1 h2 h3 => by
      refine Ev.step (fun k => ?_) (l1_ev (ops := ops) (i := i) (by omega) (by omega) (i * 5000 + 5000) (by omega) (fun text2 h4 h5 => l0_ev ho hs hI d (i + 1) want2 text2 (by omega) h4 (by omega) h2) strewn.length 0 text0 (by omega) h1 (by omega))
      simp only [arrearslaw18_ScriptWhole.j2]
      rfl
    cases b with
    | false =>
      obtain ⟨K, hK⟩ := Ev_out (hnext want text hv (by omega) (by omega))
      refine ⟨max K ((toO x).a6.size + 3) + 1, fun k hk => ?_⟩
      obtain ⟨k, rfl⟩ : ∃ m, k = m + 1 := ⟨k - 1, by omega⟩
      have h1 := hb1 k (by omega)
      have h2 := hK k (by omega)
      simp only [arrearslaw18_ScriptWhole.l0]
      rw [if_pos (by omega), if_pos (by omega), hr, show arrearslaw18_speakable.f k x.f0 x.f1 x.f2 x.f3 x.f4 x.f5 x.f6 = some false from h1, Option.bind_some, if_neg (by decide)]
      exact h2
    | true =>
      obtain ⟨t, hf⟩ := speak_fmt hIx (hb2 rfl)
      obtain ⟨g1, g2, g3, g4, g5⟩ := line_good hIx hf
      have hbl := bytesOf_length t
      have hv2 := inv_line hv (t := t) (x := ⟨(bareO (toO x)).a0, (bareO (toO x)).a1, (bareO (toO x)).a2, (bareO (toO x)).a3, (bareO (toO x)).a4, (bareO (toO x)).a5, (bareO (toO x)).a6⟩) g1 g2 g3 g4
      obtain ⟨K, hK⟩ := Ev_out (hnext _ _ hv2 (by rw [List.length_append]; simp; omega) (by rw [List.length_append, List.length_append, hbl]; simp; omega))
      refine ⟨max K ((toO x).a6.size + 3) + 1, fun k hk => ?_⟩
      obtain ⟨k, rfl⟩ : ∃ m, k = m + 1 := ⟨k - 1, by omega⟩
      have h1 := hb1 k (by omega)
      have h2 := hK k (by omega)
      have hF : script_Format.f x.f0 x.f1 x.f2 x.f3 x.f4 x.f5 x.f6 = some (t, true) := hf
      simp only [arrearslaw18_ScriptWhole.l0]
      rw [if_pos (by omega), if_pos (by omega), hr, show arrearslaw18_speakable.f k x.f0 x.f1 x.f2 x.f3 x.f4 x.f5 x.f6 = some true from h1, Option.bind_some, if_pos rfl, hF, Option.bind_some, if_pos rfl]
      unfold arrearslaw18_bare.f
      rw [Option.bind_some, if_pos (show want.length < 2199023255552 by omega), if_pos (show text.length + t.size < 140737488355328 by omega), Option.bind_some, if_pos (show (text ++ bytesOf t).length < 140737488355328 by rw [List.length_append, hbl]; omega)]
      exact h2
theorem whole_ev {ops : List S25} {strewn : List Int} (hI : ∀ x ∈ ops, I6 (toO x) ∧ x.f6.size ≤ 9223372036854775807) : ∃ k, arrearslaw18_ScriptWhole.f k ops strewn = some true := by
  have hj : ∀ k, arrearslaw18_ScriptWhole.j0 (k + 1) ops strewn true = some true := fun k => by simp only [arrearslaw18_ScriptWhole.j0]; rw [if_pos True.intro]
  unfold arrearslaw18_ScriptWhole.f
  by_cases h1 : (ops.length : Int) > 400
  · exact ⟨1, by rw [if_pos h1]; exact hj 0⟩
  by_cases h2 : (strewn.length : Int) > 400
  · exact ⟨1, by rw [if_neg h1, decide_eq_true h2]; exact hj 0⟩
  obtain ⟨K, hK⟩ := Ev_out (l0_ev (ops := ops) (strewn := strewn) (by omega) (by omega) hI ops.length 0 [] [] (by omega) inv_nil (by simp) (by simp))
  refine ⟨K + 1, ?_⟩
  rw [if_neg h1, decide_eq_false h2]
  simp only [arrearslaw18_ScriptWhole.j0]
  rw [if_neg (by decide)]
  exact hK K (Nat.le_refl _)
end Go.Proofs.YtjhodgcjkobpoaaGreatDoor.WholeP
