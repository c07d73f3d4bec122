/- ScriptLines: the lines of any text are the document's; of another text in the same place the lines are its own, and the first ones stand. This text is the part over numbers and lists alone. -/
import Derived.Test.YtpglakfafanhoaaPAx4
import Derived.Test.YtpglakfafanhoaaPAx1
import Derived.Test.YtpglakfafanhoaaPAx2
import Derived.Test.YtpglakfafanhoaaPAx3
import Derived.OpenShut
namespace Go.Proofs.Ytpglakfafanhoaa.Pure
open Go.RowKit Go.Proofs.Ytpglakfafanhoaa.PA Go.Proofs.YtpglakfafanhoaaW.PrintWords Go.Proofs.YtpglakfafanhoaaW.PrintLast Go.Proofs.YtpglakfafanhoaaW.PrintMore
set_option linter.unusedVariables false
set_option linter.unusedSectionVars false
set_option linter.unusedSimpArgs false

theorem w64 {x : Int} (h0 : -9223372036854775808 ≤ x) (h1 : x ≤ 9223372036854775807) : wrap64 x = x := by unfold wrap64; omega
theorem rd_nat (l : List Int) (i : Nat) : rd l (i : Int) = l.getD i 0 := rfl
theorem take_next {l : List Int} {i : Nat} (h : i < l.length) : l.take (i + 1) = l.take i ++ [l.getD i 0] := by
  rw [List.take_succ_eq_append_getElem h, List.getD_eq_getElem?_getD, List.getElem?_eq_getElem h]
  rfl
theorem drop_next {l : List Int} {i : Nat} (h : i < l.length) : l.drop i = l.getD i 0 :: l.drop (i + 1) := by
  rw [List.drop_eq_getElem_cons h, List.getD_eq_getElem?_getD, List.getElem?_eq_getElem h]
  rfl
theorem Ev_one {α : Type} {g : Nat → Option α} {r : α} (h : ∀ k, g (k + 1) = some r) : Ev g r := Ev.step h (Ev.now r)
theorem Ev_out {α : Type} {g : Nat → Option α} {r : α} (h : Ev g r) : ∃ K, ∀ k, K ≤ k → g k = some r := h
theorem copied_loop (l : List Int) (hl : l.length ≤ 1048576) : ∀ (d i : Nat), i + d = l.length → Ev (fun k => arrearslaw18_copied.l0 k l (l.take i) (i : Int)) l := by
  intro d
  induction d with
  | zero =>
    intro i hi
    refine Ev_one (fun k => ?_)
    simp only [arrearslaw18_copied.l0]
    rw [if_neg (by omega), List.take_of_length_le (by omega)]
  | succ d ih =>
    intro i hi
    have hlt : i < l.length := by omega
    refine Ev.step (fun k => ?_) (ih (i + 1) (by omega))
    simp only [arrearslaw18_copied.l0]
    rw [if_pos (by omega), if_pos (by omega), if_pos (by rw [List.length_take]; omega), rd_nat, w64 (by omega) (by omega), take_next hlt]
    rfl
theorem copied_ev (l : List Int) (hl : l.length ≤ 1048576) : Ev (fun k => arrearslaw18_copied.f k l) l := copied_loop l hl l.length 0 (by omega)
theorem roomy_ev (l : List Int) (hl : l.length ≤ 1048576) : Ev (fun k => arrearslaw18_roomy.f k l) (l ++ [201, 202, 203]) := by
  obtain ⟨K, e⟩ := Ev_out (copied_ev l hl)
  refine ⟨K, fun k hk => ?_⟩
  simp only [arrearslaw18_roomy.f]
  rw [e k hk, Option.bind_some, Option.bind_some, if_pos (by show l.length + 3 < _; omega)]
theorem same_loop (l : List Int) (hl : l.length ≤ 1048576) : ∀ (d i : Nat), i + d = l.length → Ev (fun k => arrearslaw18_same.l0 k l l (i : Int)) true := by
  intro d
  induction d with
  | zero =>
    intro i hi
    refine Ev_one (fun k => ?_)
    simp only [arrearslaw18_same.l0]
    rw [if_neg (by omega)]
  | succ d ih =>
    intro i hi
    refine Ev.step (fun k => ?_) (ih (i + 1) (by omega))
    simp only [arrearslaw18_same.l0]
    rw [if_pos (by omega), if_pos (by omega), if_pos (by omega), if_pos True.intro, w64 (by omega) (by omega)]
    rfl
theorem same_ev (l : List Int) (hl : l.length ≤ 1048576) : Ev (fun k => arrearslaw18_same.f k l l) true := by
  refine Ev.congr (fun k => ?_) (same_loop l hl l.length 0 (by omega))
  simp only [arrearslaw18_same.f]
  rw [if_pos True.intro]
  rfl
theorem alike_loop (L : List (List Int)) (hL : L.length ≤ 1048576) (hl : ∀ l ∈ L, l.length ≤ 1048576) : ∀ (d i : Nat), i + d = L.length → Ev (fun k => arrearslaw18_alike.l0 k L L (i : Int)) true := by
  intro d
  induction d with
  | zero =>
    intro i hi
    refine Ev_one (fun k => ?_)
    simp only [arrearslaw18_alike.l0]
    rw [if_neg (by omega)]
  | succ d ih =>
    intro i hi
    have hm : rd_L1 L (i : Int) ∈ L := by
      unfold rd_L1
      rw [Int.toNat_natCast, List.getD_eq_getElem?_getD, List.getElem?_eq_getElem (show i < L.length by omega)]
      exact List.getElem_mem _
    obtain ⟨K1, e1⟩ := Ev_out (same_ev _ (hl _ hm))
    obtain ⟨K2, e2⟩ := Ev_out (ih (i + 1) (by omega))
    refine ⟨K1 + K2 + 1, fun k hk => ?_⟩
    obtain ⟨k, rfl⟩ : ∃ j, k = j + 1 := ⟨k - 1, by omega⟩
    simp only [arrearslaw18_alike.l0]
    rw [if_pos (by omega), if_pos (by omega), if_pos (by omega), e1 k (by omega), Option.bind_some, if_pos rfl, w64 (by omega) (by omega)]
    exact e2 k (by omega)
theorem alike_ev (L : List (List Int)) (hL : L.length ≤ 1048576) (hl : ∀ l ∈ L, l.length ≤ 1048576) : Ev (fun k => arrearslaw18_alike.f k L L) true := by
  refine Ev.congr (fun k => ?_) (alike_loop L hL hl L.length 0 (by omega))
  simp only [arrearslaw18_alike.f]
  rw [if_pos True.intro]
  rfl
theorem scan_mem (t : List Int) : ∀ cur l, l ∈ scan t cur → l.length ≤ cur.length + t.length := by
  induction t with
  | nil =>
    intro cur l h
    unfold scan keepL at h
    split at h
    · simp only [List.mem_cons, List.not_mem_nil, or_false] at h
      rw [h]; omega
    · cases h
  | cons c t ih =>
    intro cur l h
    rw [scan_cons] at h
    split at h
    · rcases List.mem_append.1 h with h | h
      · unfold keepL at h
        split at h
        · simp only [List.mem_cons, List.not_mem_nil, or_false] at h
          rw [h]; omega
        · cases h
      · have := ih [] l h
        simp only [List.length_nil, List.length_cons] at this ⊢
        omega
    · have := ih (cur ++ [c]) l h
      rw [List.length_append] at this
      simp only [List.length_cons, List.length_nil] at this ⊢
      omega
theorem refLines_loop (l : List Int) (hl : l.length ≤ 200000) : ∀ (d i : Nat) (out : List (List Int)) (cur : List Int), i + d = l.length → out.length ≤ i → cur.length ≤ i → Ev (fun k => arrearsref18_Lines.l0 k l out cur (i : Int)) (out ++ scan (l.drop i) cur) := by
  have keep : ∀ (i : Nat) (out : List (List Int)) (cur : List Int) (R : List (List Int)), i ≤ l.length → out.length ≤ i → cur.length ≤ i → Ev (fun k => arrearsref18_Lines.l0 k l (out ++ keepL cur) [] ((i + 1 : Nat) : Int)) R → Ev (fun k => arrearsref18_Lines.j1 k l out cur (i : Int) false) R := by
    intro i out cur R hi ho hc h
    refine Ev.step (fun k => ?_) h
    have ew : wrap64 ((i : Int) + 1) = ((i + 1 : Nat) : Int) := w64 (by omega) (by omega)
    simp only [arrearsref18_Lines.j1]
    rw [if_neg Bool.false_ne_true, ew]
    unfold keepL
    by_cases hz : (cur.length : Int) > 0
    · have hne : cur ≠ [] := fun e => by rw [e] at hz; simp at hz
      rw [if_pos hz, if_pos (by omega)]
      by_cases h35 : rd cur 0 = 35
      · rw [if_pos h35, if_neg (fun g => g.2 h35), List.append_nil]
      · rw [if_neg h35, if_pos (by omega), if_pos ⟨hne, h35⟩]
    · have he : cur = [] := List.eq_nil_of_length_eq_zero (by omega)
      rw [if_neg hz, if_neg (fun g => g.1 he), List.append_nil]
  have klen : ∀ cur : List Int, (keepL cur).length ≤ 1 := keepL_len
  intro d
  induction d with
  | zero =>
    intro i out cur hi ho hc
    have hend : Ev (fun k => arrearsref18_Lines.l0 k l (out ++ keepL cur) [] ((i + 1 : Nat) : Int)) (out ++ keepL cur) := by
      refine Ev_one fun k => ?_
      simp only [arrearsref18_Lines.l0]
      rw [if_neg (by omega)]
    rw [List.drop_eq_nil_of_le (by omega)]
    refine Ev.step (fun k => ?_) (keep i out cur _ (by omega) ho hc hend)
    simp only [arrearsref18_Lines.l0]
    rw [if_pos (by omega), if_neg (by omega)]
  | succ d ih =>
    intro i out cur hi ho hc
    have hlt : i < l.length := by omega
    rw [drop_next hlt, scan_cons]
    by_cases h10 : l.getD i 0 = 10
    · rw [if_pos h10, ← List.append_assoc]
      have h := ih (i + 1) (out ++ keepL cur) [] (by omega) (by rw [List.length_append]; have := klen cur; omega) (by simp)
      refine Ev.step (fun k => ?_) (keep i out cur _ (by omega) ho hc h)
      simp only [arrearsref18_Lines.l0]
      rw [if_pos (by omega), if_pos (by omega), if_pos (by omega), rd_nat, bne_eq_false_iff_eq.2 h10]
    · rw [if_neg h10]
      obtain ⟨K, e⟩ := Ev_out (ih (i + 1) out (cur ++ [l.getD i 0]) (by omega) (by omega) (by rw [List.length_append]; simp only [List.length_cons, List.length_nil]; omega))
      refine ⟨K + 2, fun k hk => ?_⟩
      obtain ⟨k, rfl⟩ : ∃ j, k = j + 2 := ⟨k - 2, by omega⟩
      have ew : wrap64 ((i : Int) + 1) = ((i + 1 : Nat) : Int) := w64 (by omega) (by omega)
      simp only [arrearsref18_Lines.l0]
      rw [if_pos (by omega), if_pos (by omega), if_pos (by omega), rd_nat, bne_iff_ne.2 h10]
      simp only [arrearsref18_Lines.j1]
      rw [if_pos True.intro, if_pos (by omega), if_pos (by omega), if_pos (by omega), rd_nat, ew]
      exact e k (by omega)
theorem refLines_ev (l : List Int) (hl : l.length ≤ 200000) : Ev (fun k => arrearsref18_Lines.f k l) (scan l []) := by
  have h := refLines_loop l hl l.length 0 [] [] (by omega) (by simp) (by simp)
  rw [List.drop_zero, List.nil_append] at h
  exact h
theorem lines_eq {l : List Int} (hl : l.length ≤ 200000) (hb : ∀ x ∈ l, 0 ≤ x ∧ x < 256) : script_Lines.f l = some (scan l []) := by
  unfold script_Lines.f
  rw [if_pos ⟨hb, by omega⟩]
theorem alike_scan (l : List Int) (hl : l.length ≤ 200000) : Ev (fun k => arrearslaw18_alike.f k (scan l []) (scan l [])) true :=
  alike_ev _ (by have := scan_len l []; omega) (fun x hx => by have := scan_mem l [] x hx; simp only [List.length_nil] at this; omega)
theorem ScriptLines : arrearslaw18_ScriptLines.Pure := by
  intro l _ _ hw
  have hb : ∀ x ∈ l, 0 ≤ x ∧ x < 256 := fun x hx => by have := bounds_u8 (hw x hx); omega
  by_cases c : (l.length : Int) > 200000
  · exact ⟨0, by simp only [arrearslaw18_ScriptLines.f]; rw [if_pos c]⟩
  · have hl : l.length ≤ 200000 := by omega
    obtain ⟨K1, e1⟩ := Ev_out (roomy_ev l (by omega))
    obtain ⟨K2, e2⟩ := Ev_out (refLines_ev l hl)
    obtain ⟨K3, e3⟩ := Ev_out (alike_scan l hl)
    obtain ⟨K4, e4⟩ := Ev_out (same_ev (l ++ [201, 202, 203]) (by rw [List.length_append]; simp only [List.length_cons, List.length_nil]; omega))
    have len : (l ++ [201, 202, 203]).length = l.length + 3 := by rw [List.length_append]; rfl
    have tk : (l ++ [201, 202, 203]).take l.length = l := by rw [List.take_append_of_le_length (Nat.le_refl _), List.take_length]
    obtain ⟨m, hm⟩ : ∃ m, m = (l.set 0 35) := ⟨_, rfl⟩
    have ml : m.length = l.length := by rw [hm, List.length_set]
    have mb : ∀ x ∈ m, 0 ≤ x ∧ x < 256 := fun x hx => by
      rw [hm] at hx
      rcases List.mem_or_eq_of_mem_set hx with h | h
      · exact hb x h
      · omega
    obtain ⟨K5, e5⟩ := Ev_out (refLines_ev m (by omega))
    obtain ⟨K6, e6⟩ := Ev_out (alike_scan m (by omega))
    refine ⟨K1 + K2 + K3 + K4 + K5 + K6 + 1, ?_⟩
    obtain ⟨k, hk⟩ : ∃ k, k = K1 + K2 + K3 + K4 + K5 + K6 := ⟨_, rfl⟩
    rw [← hk]
    simp only [arrearslaw18_ScriptLines.f]
    rw [if_neg c, e1 _ (by omega)]
    simp only [Option.bind_some]
    rw [if_pos (by omega), len, if_pos (by omega), Int.toNat_natCast, tk, lines_eq hl hb, e2 _ (by omega)]
    simp only [Option.bind_some]
    rw [e3 _ (by omega)]
    simp only [Option.bind_some]
    rw [if_pos True.intro, e4 _ (by omega)]
    simp only [Option.bind_some, Bool.not_true, arrearslaw18_ScriptLines.j0]
    rw [if_neg Bool.false_ne_true]
    by_cases hz : (l.length : Int) = 0
    · rw [if_pos hz]
    · have ts : ((l ++ [201, 202, 203]).set (0 : Int).toNat 35).take l.length = m := by
        rw [hm, show (0 : Int).toNat = 0 from rfl, List.set_append_left _ _ (by omega), List.take_append_of_le_length (by rw [List.length_set]; exact Nat.le_refl _), List.take_of_length_le (by rw [List.length_set]; exact Nat.le_refl _)]
      rw [if_neg hz, len, if_pos (by omega), if_pos (by omega), if_pos (by omega), Int.toNat_natCast, ts, lines_eq (by omega) mb]
      simp only [Option.bind_some]
      rw [if_pos (by simp only [List.length_nil]; omega), List.nil_append, e5 _ (by omega)]
      simp only [Option.bind_some]
      rw [e6 _ (by omega)]
      simp only [Option.bind_some]
      rw [if_pos True.intro, e2 _ (by omega)]
      simp only [Option.bind_some]
      rw [e3 _ (by omega)]
      rfl

end Go.Proofs.Ytpglakfafanhoaa.Pure
