/- The document's Parse of an amount: the same as the program's. Plain Lean over the printed functions. -/
import Derived.Test.YtjhodgcjkobpoaaGreatDoorYMText
import Derived.Test.YtjhodgcjkobpoaaGreatDoorYFAmt
import Derived.Test.YtjhodgcjkobpoaaGreatDoorYPAx11
namespace Go.Proofs.YtjhodgcjkobpoaaGreatDoor.RText
open Go.RowKit Go.Proofs.YtjhodgcjkobpoaaGreatDoor.PA Go.Proofs.YtjhodgcjkobpoaaGreatDoorW.PrintWords Go.Proofs.YtjhodgcjkobpoaaGreatDoorW.PrintLast Go.Proofs.YtjhodgcjkobpoaaGreatDoor.MB Go.Proofs.YtjhodgcjkobpoaaGreatDoor.MDig Go.Proofs.YtjhodgcjkobpoaaGreatDoor.MPars Go.Proofs.YtjhodgcjkobpoaaGreatDoor.MByt Go.Proofs.YtjhodgcjkobpoaaGreatDoor.MText
open Go.Proofs.YtjhodgcjkobpoaaGreatDoor.FAmt (refFormat_eq fl_len)
set_option linter.unusedVariables false
set_option linter.unusedSectionVars false
set_option linter.unusedSimpArgs false
def dstep (a c : Int) : Int := if Dgt c then (10 * a + (c - 48)) % 18446744073709551616 else a
theorem dfold (l : List Int) : l.foldl dstep 0 = dval (l.filter fun c => decide (Dgt c)) % 18446744073709551616 := by
  refine snoc_ind (P := fun l => l.foldl dstep 0 = dval (l.filter fun c => decide (Dgt c)) % 18446744073709551616) rfl ?_ l
  intro l c ih
  rw [List.foldl_append, ih, List.filter_append]
  show dstep _ c = _
  unfold dstep
  by_cases h : Dgt c
  · rw [if_pos h, List.filter_cons, if_pos (decide_eq_true h), List.filter_nil, dval_snoc]
    omega
  · rw [if_neg h, List.filter_cons, if_neg (by simp [h]), List.filter_nil, List.append_nil]
theorem dstep_bd (l : List Int) : 0 ≤ l.foldl dstep 0 ∧ l.foldl dstep 0 < 18446744073709551616 := by rw [dfold]; omega
theorem filter_all {l : List Int} (h : ∀ c ∈ l, Dgt c) : l.filter (fun c => decide (Dgt c)) = l := List.filter_eq_self.2 fun c hc => decide_eq_true (h c hc)
theorem dfold_fl {x : Int} (hx : I64 x) : (fl x).foldl dstep 0 = x.natAbs := by
  unfold I64 at hx
  have hd := ul_dig x.natAbs
  have e : (fl x).filter (fun c => decide (Dgt c)) = dd (x.natAbs / 100) ++ [48 + (x.natAbs : Int) % 100 / 10, 48 + (x.natAbs : Int) % 100 % 10] := by
    have no : decide (Dgt 45) = false := by decide
    have no' : decide (Dgt 46) = false := by decide
    unfold fl ul
    rw [List.filter_append, List.filter_append, filter_all (fun c hc => hd c (List.mem_append_left _ hc)), show ([46, 48 + (x.natAbs : Int) % 100 / 10, 48 + (x.natAbs : Int) % 100 % 10] : List Int) = [46] ++ [48 + (x.natAbs : Int) % 100 / 10, 48 + (x.natAbs : Int) % 100 % 10] from rfl, List.filter_append,
      filter_all (l := [48 + (x.natAbs : Int) % 100 / 10, 48 + (x.natAbs : Int) % 100 % 10]) (fun c hc => hd c (List.mem_append_right _ hc))]
    have n46 : ([46] : List Int).filter (fun c => decide (Dgt c)) = [] := by decide
    have n45 : (if x < 0 then ([45] : List Int) else []).filter (fun c => decide (Dgt c)) = [] := by split <;> decide
    rw [n46, n45, List.nil_append, List.nil_append]
  rw [dfold, e, ul_val]
  omega
/-- The number that a text would mean. -/
def cand (L : List Int) : Int := if L.headD 0 = 45 then wrap64 (-(wrap64 (L.foldl dstep 0))) else wrap64 (L.foldl dstep 0)
theorem wrap_I64 (x : Int) : I64 (wrap64 x) := by unfold I64 wrap64; omega
theorem cand_I64 (L : List Int) : I64 (cand L) := by unfold cand; split <;> exact wrap_I64 _
theorem fl_head (x : Int) : (fl x).headD 0 = 45 ↔ x < 0 := by
  unfold fl
  by_cases c : x < 0
  · rw [if_pos c]
    exact ⟨fun _ => c, fun _ => rfl⟩
  · rw [if_neg c, List.nil_append, (ul_head _).1]
    refine ⟨fun g => ?_, fun g => absurd g c⟩
    cases h : dd (x.natAbs / 100) with
    | nil => exact absurd h (dd_ne _)
    | cons q l =>
      have := dd_digits (x.natAbs / 100) q (by rw [h]; simp)
      rw [h] at g
      have g' : q = 45 := g
      unfold Dgt at this
      omega
theorem cand_fl {x : Int} (hx : I64 x) : cand (fl x) = x := by
  have e := dfold_fl hx
  unfold I64 at hx
  unfold cand
  rw [e]
  by_cases c : x < 0
  · rw [if_pos ((fl_head x).2 c)]
    unfold wrap64
    omega
  · rw [if_neg (fun g => c ((fl_head x).1 g))]
    unfold wrap64
    omega
theorem pv_not {L : List Int} (h : ∀ z, I64 z → fl z ≠ L) : pv L = (0, false) := by
  cases hp : pv L with
  | mk z ok =>
    cases ok with
    | true =>
      obtain ⟨hz, ez⟩ := pv_back hp
      exact absurd ez (h z hz)
    | false => rw [pv_none hp]
theorem pv_cand (L : List Int) : pv L = if fl (cand L) = L then (cand L, true) else (0, false) := by
  by_cases c : fl (cand L) = L
  · rw [if_pos c]
    conv => lhs; rw [← c]
    exact pv_fl (cand_I64 L)
  · rw [if_neg c]
    refine pv_not fun z hz e => c ?_
    rw [← e, cand_fl hz]
theorem text_same (x : Int) (s : ByteArray) : ((strOfNums (fl x)).toList = s.toList) ↔ fl x = byts s := by
  refine ⟨fun h => ?_, fun h => ?_⟩
  · rw [← byts_fl x, text_inj h]
  · rw [show strOfNums (fl x) = s from byts_inj (by rw [byts_fl, h])]
theorem refParse_end (s : ByteArray) (hs : s.size ≤ 21) : Ev (fun k => arrearsref1_Parse.l0 k s ((byts s).foldl dstep 0) (s.size : Int)) (pv (byts s)) := by
  have hlen := byts_len s
  have h0 := bt_byts s 0
  rw [show ((0 : Nat) : Int) = 0 from rfl] at h0
  have hh : (byts s).headD 0 = (byts s).getD 0 0 := by cases byts s <;> rfl
  have ht : ∀ k (b : Bool), ((byts s).headD 0 = 45 ↔ b = true) → arrearsref1_Parse.j1 (k + 1) s (wrap64 ((byts s).foldl dstep 0)) b = some (pv (byts s)) := by
    intro k b hb
    rw [pv_cand]
    simp only [arrearsref1_Parse.j1]
    cases b with
    | true =>
      have ec : cand (byts s) = wrap64 (-(wrap64 ((byts s).foldl dstep 0))) := if_pos (hb.2 rfl)
      rw [if_pos rfl, ← ec, refFormat_eq (cand_I64 _), Option.bind_some]
      simp only [text_same]
      split <;> rfl
    | false =>
      have ec : cand (byts s) = wrap64 ((byts s).foldl dstep 0) := if_neg (fun g => Bool.false_ne_true (hb.1 g))
      rw [if_neg Bool.false_ne_true, ← ec, refFormat_eq (cand_I64 _), Option.bind_some]
      simp only [text_same]
      split <;> rfl
  refine ⟨2, fun k hk => ?_⟩
  obtain ⟨k, rfl⟩ : ∃ j, k = j + 2 := ⟨k - 2, by omega⟩
  simp only [arrearsref1_Parse.l0]
  rw [if_neg (by omega)]
  by_cases hz : 0 < s.size
  · rw [if_pos (by omega), if_pos (by omega), h0]
    exact ht k _ (by rw [hh, beq_iff_eq])
  · rw [if_neg (by omega)]
    have hn : byts s = [] := List.eq_nil_of_length_eq_zero (by rw [hlen]; omega)
    exact ht k _ (by rw [hn]; decide)
theorem refParse_loop (s : ByteArray) (hs : s.size ≤ 21) : ∀ (d i : Nat), i + d = s.size → Ev (fun k => arrearsref1_Parse.l0 k s (((byts s).take i).foldl dstep 0) (i : Int)) (pv (byts s)) := by
  have hlen := byts_len s
  intro d
  induction d with
  | zero =>
    intro i hi
    rw [show i = s.size by omega, List.take_of_length_le (by omega)]
    exact refParse_end s hs
  | succ d ih =>
    intro i hi
    have hb := bt_byts s i
    have hd := dstep_bd ((byts s).take i)
    have hn := ih (i + 1) (by omega)
    rw [take_next (by rw [hlen]; omega), List.foldl_append] at hn
    obtain ⟨a, ha⟩ : ∃ a, a = ((byts s).take i).foldl dstep 0 := ⟨_, rfl⟩
    obtain ⟨c, hc⟩ : ∃ c, c = (byts s).getD i 0 := ⟨_, rfl⟩
    rw [← ha] at hd hn ⊢
    rw [← hc] at hb hn
    have hn' : Ev (fun k => arrearsref1_Parse.l0 k s (dstep a c) ((i + 1 : Nat) : Int)) (pv (byts s)) := hn
    refine Ev.step (fun k => ?_) hn'
    simp only [arrearsref1_Parse.l0]
    rw [if_pos (by omega), if_pos (by omega), hb, wi i (by omega)]
    unfold dstep
    by_cases h1 : c ≥ 48
    · by_cases h2 : c ≤ 57
      · rw [if_pos h1, if_pos h2, if_pos (show Dgt c from ⟨h1, h2⟩), u64e, u64e, show ((10 * a) % 18446744073709551616 + (c - 48) % 256) % 18446744073709551616 = (10 * a + (c - 48)) % 18446744073709551616 by omega]
      · rw [if_pos h1, if_neg h2, if_neg (show ¬ Dgt c from fun g => h2 g.2)]
    · rw [if_neg h1, if_neg (show ¬ Dgt c from fun g => h1 g.1)]
theorem refParse_ev (s : ByteArray) : Ev (fun k => arrearsref1_Parse.f k s) (pv (byts s)) := by
  by_cases c : (s.size : Int) > 21
  · refine Ev_eq fun k => ?_
    simp only [arrearsref1_Parse.f]
    rw [if_pos c, pv_not fun z hz e => ?_]
    have := fl_len hz
    rw [e, byts_len] at this
    omega
  · obtain ⟨K, e⟩ := Ev_out (refParse_loop s (by omega) s.size 0 (by omega))
    refine ⟨K, fun k hk => ?_⟩
    simp only [arrearsref1_Parse.f]
    rw [if_neg c]
    exact e k hk
end Go.Proofs.YtjhodgcjkobpoaaGreatDoor.RText
