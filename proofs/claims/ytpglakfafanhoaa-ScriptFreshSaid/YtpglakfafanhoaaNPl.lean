/- ScriptFresh's plain part: copies, rows alike, the lines of a text. No program in sight. -/
import Derived.Test.YtpglakfafanhoaaPAx1
import Derived.Test.YtpglakfafanhoaaPAx2
import Derived.Test.YtpglakfafanhoaaPAx3
import Derived.OpenShut
namespace Go.Proofs.Ytpglakfafanhoaa.NPl
open Go.RowKit Go.Proofs.Ytpglakfafanhoaa.PA Go.Proofs.YtpglakfafanhoaaW.PrintWords Go.Proofs.YtpglakfafanhoaaW.PrintLast Go.Proofs.YtpglakfafanhoaaW.PrintMore
set_option linter.unusedVariables false
set_option linter.unusedSectionVars false
set_option linter.unusedSimpArgs false
theorem w64 {x : Int} (h0 : -9223372036854775808 ≤ x) (h1 : x ≤ 9223372036854775807) : wrap64 x = x := by unfold wrap64; omega
theorem rd_nat (l : List Int) (i : Nat) : rd l (i : Int) = l.getD i 0 := rfl
theorem take_next {l : List Int} {i : Nat} (h : i < l.length) : l.take (i + 1) = l.take i ++ [l.getD i 0] := by
  rw [List.take_succ_eq_append_getElem h, List.getD_eq_getElem?_getD, List.getElem?_eq_getElem h]
  rfl
theorem drop_next {l : List Int} {i : Nat} (h : i < l.length) : l.drop i = l.getD i 0 :: l.drop (i + 1) := by
  rw [List.drop_eq_getElem_cons h, List.getD_eq_getElem?_getD, List.getElem?_eq_getElem h]
  rfl
theorem Ev_one {α : Type} {g : Nat → Option α} {r : α} (h : ∀ k, g (k + 1) = some r) : Ev g r := Ev.step h (Ev.now r)
theorem Ev_out {α : Type} {g : Nat → Option α} {r : α} (h : Ev g r) : ∃ K, ∀ k, K ≤ k → g k = some r := h
theorem copied_loop (l : List Int) (hl : l.length ≤ 1048576) : ∀ (d i : Nat), i + d = l.length → Ev (fun k => arrearslaw18_copied.l0 k l (l.take i) (i : Int)) l := by
  intro d
  induction d with
  | zero =>
    intro i hi
    refine Ev_one (fun k => ?_)
    simp only [arrearslaw18_copied.l0]
    rw [if_neg (by omega), List.take_of_length_le (by omega)]
  | succ d ih =>
    intro i hi
    have hlt : i < l.length := by omega
    refine Ev.step (fun k => ?_) (ih (i + 1) (by omega))
    simp only [arrearslaw18_copied.l0]
    rw [if_pos (by omega), if_pos (by omega), if_pos (by rw [List.length_take]; omega), rd_nat, w64 (by omega) (by omega), take_next hlt]
    rfl
theorem copied_ev (l : List Int) (hl : l.length ≤ 1048576) : Ev (fun k => arrearslaw18_copied.f k l) l := copied_loop l hl l.length 0 (by omega)
theorem same_loop (l : List Int) (hl : l.length ≤ 1048576) : ∀ (d i : Nat), i + d = l.length → Ev (fun k => arrearslaw18_same.l0 k l l (i : Int)) true := by
  intro d
  induction d with
  | zero =>
    intro i hi
    refine Ev_one (fun k => ?_)
    simp only [arrearslaw18_same.l0]
    rw [if_neg (by omega)]
  | succ d ih =>
    intro i hi
    refine Ev.step (fun k => ?_) (ih (i + 1) (by omega))
    simp only [arrearslaw18_same.l0]
    rw [if_pos (by omega), if_pos (by omega), if_pos (by omega), if_pos True.intro, w64 (by omega) (by omega)]
    rfl
theorem same_ev (l : List Int) (hl : l.length ≤ 1048576) : Ev (fun k => arrearslaw18_same.f k l l) true := by
  refine Ev.congr (fun k => ?_) (same_loop l hl l.length 0 (by omega))
  simp only [arrearslaw18_same.f]
  rw [if_pos True.intro]
  rfl
theorem alike_loop (L : List (List Int)) (hL : L.length ≤ 1048576) (hl : ∀ l ∈ L, l.length ≤ 1048576) : ∀ (d i : Nat), i + d = L.length → Ev (fun k => arrearslaw18_alike.l0 k L L (i : Int)) true := by
  intro d
  induction d with
  | zero =>
    intro i hi
    refine Ev_one (fun k => ?_)
    simp only [arrearslaw18_alike.l0]
    rw [if_neg (by omega)]
  | succ d ih =>
    intro i hi
    have hm : rd_L1 L (i : Int) ∈ L := by
      unfold rd_L1
      rw [Int.toNat_natCast, List.getD_eq_getElem?_getD, List.getElem?_eq_getElem (show i < L.length by omega)]
      exact List.getElem_mem _
    obtain ⟨K1, e1⟩ := Ev_out (same_ev _ (hl _ hm))
    obtain ⟨K2, e2⟩ := Ev_out (ih (i + 1) (by omega))
    refine ⟨K1 + K2 + 1, fun k hk => ?_⟩
    obtain ⟨k, rfl⟩ : ∃ j, k = j + 1 := ⟨k - 1, by omega⟩
    simp only [arrearslaw18_alike.l0]
    rw [if_pos (by omega), if_pos (by omega), if_pos (by omega), e1 k (by omega), Option.bind_some, if_pos rfl, w64 (by omega) (by omega)]
    exact e2 k (by omega)
theorem alike_ev (L : List (List Int)) (hL : L.length ≤ 1048576) (hl : ∀ l ∈ L, l.length ≤ 1048576) : Ev (fun k => arrearslaw18_alike.f k L L) true := by
  refine Ev.congr (fun k => ?_) (alike_loop L hL hl L.length 0 (by omega))
  simp only [arrearslaw18_alike.f]
  rw [if_pos True.intro]
  rfl
theorem scan_mem (t : List Int) : ∀ cur l, l ∈ scan t cur → l.length ≤ cur.length + t.length := by
  induction t with
  | nil =>
    intro cur l h
    unfold scan keepL at h
    split at h
    · simp only [List.mem_cons, List.not_mem_nil, or_false] at h
      rw [h]; omega
    · cases h
  | cons c t ih =>
    intro cur l h
    rw [scan_cons] at h
    split at h
    · rcases List.mem_append.1 h with h | h
      · unfold keepL at h
        split at h
        · simp only [List.mem_cons, List.not_mem_nil, or_false] at h
          rw [h]; omega
        · cases h
      · have := ih [] l h
        simp only [List.length_nil, List.length_cons] at this ⊢
        omega
    · have := ih (cur ++ [c]) l h
      rw [List.length_append] at this
      simp only [List.length_cons, List.length_nil] at this ⊢
      omega
theorem lines_f {l : List Int} (hl : l.length < 4294967281) (hb : ∀ x ∈ l, 0 ≤ x ∧ x < 256) : script_Lines.f l = some (scan l []) := by
  unfold script_Lines.f
  rw [if_pos ⟨hb, hl⟩]
theorem scan_full (t : List Int) : ∀ cur l, l ∈ scan t cur → l ≠ [] := by
  have hk : ∀ cur l : List Int, l ∈ keepL cur → l ≠ [] := fun cur l h => by
    unfold keepL at h
    split at h
    · rename_i hc
      rw [List.mem_singleton.1 h]
      exact hc.1
    · cases h
  induction t with
  | nil => exact fun cur l h => hk cur l h
  | cons c t ih =>
    intro cur l h
    unfold scan at h
    split at h
    · rcases List.mem_append.1 h with h | h
      · exact hk _ _ h
      · exact ih _ _ h
    · exact ih _ _ h
def CALM : List Int := [99, 97, 108, 109]
def HEAD5 : List Int := [99, 97, 108, 109, 10]
theorem scan_calm (t : List Int) : scan (HEAD5 ++ t) [] = CALM :: scan t [] := by
  show scan (99 :: 97 :: 108 :: 109 :: 10 :: t) [] = _
  simp [scan, keepL, CALM, rd]
end Go.Proofs.Ytpglakfafanhoaa.NPl
