/- Amounts as texts: which text Format tells, and what Parse reads out of a text. Plain Lean over the printed functions. -/
import Derived.Test.YtjhodgcjkobpoaaGreatDoorYMPars
import Derived.Test.YtjhodgcjkobpoaaGreatDoorYMByt
import Derived.Test.YtjhodgcjkobpoaaGreatDoorYPAx6
import Derived.Test.YtjhodgcjkobpoaaGreatDoorYPAx3
import Derived.Test.YtjhodgcjkobpoaaGreatDoorYPAx4
namespace Go.Proofs.YtjhodgcjkobpoaaGreatDoor.MText
open Go.RowKit Go.Proofs.YtjhodgcjkobpoaaGreatDoor.PA Go.Proofs.YtjhodgcjkobpoaaGreatDoorW.PrintWords Go.Proofs.YtjhodgcjkobpoaaGreatDoorW.PrintLast Go.Proofs.YtjhodgcjkobpoaaGreatDoorW.PrintMore Go.Proofs.YtjhodgcjkobpoaaGreatDoor.MB Go.Proofs.YtjhodgcjkobpoaaGreatDoor.MDig Go.Proofs.YtjhodgcjkobpoaaGreatDoor.MPars Go.Proofs.YtjhodgcjkobpoaaGreatDoor.MByt
set_option linter.unusedVariables false
set_option linter.unusedSectionVars false
set_option linter.unusedSimpArgs false

/-- The number of this size and sign, if it fits; no minus nought. -/
def fin (neg : Bool) : Option Int → Int × Bool
  | none => (0, false)
  | some m => if neg = true then (if m = 0 then (0, false) else (-m, true)) else (if m > 9223372036854775807 then (0, false) else (m, true))
theorem fin_t (m : Int) : fin true (some m) = if m = 0 then (0, false) else (-m, true) := rfl
theorem fin_f (m : Int) : fin false (some m) = if m > 9223372036854775807 then (0, false) else (m, true) := rfl
theorem sign_eq (neg : Bool) {m : Int} (h0 : 0 ≤ m) (h1 : m ≤ 9223372036854775808) (hn : neg = true → m ≠ 0) : money_withSign.f neg m = some (fin neg (some m)) := by
  unfold money_withSign.f fin
  cases neg with
  | true =>
    have := hn rfl
    rw [if_pos rfl, if_neg (by omega)]
    simp only [if_true]
    rw [if_neg this]
    congr 2
    rw [u64e]
    unfold wrap64
    omega
  | false =>
    rw [if_neg Bool.false_ne_true]
    simp only [Bool.false_eq_true, if_false]
    by_cases h : m > 9223372036854775807
    · rw [if_pos h, if_pos h]
    · rw [if_neg h, if_neg h, w64 (by omega) (by omega)]
/-- What is still to be read at place i: the point (at place p) is left out. -/
def rem (S : List Int) (p i : Nat) : List Int := if i ≤ p then (S.take p).drop i ++ S.drop (p + 1) else S.drop i
theorem rem_at {S : List Int} {p : Nat} (hp : p < S.length) : rem S p p = rem S p (p + 1) := by
  unfold rem
  rw [if_pos (Nat.le_refl _), if_neg (by omega), List.drop_eq_nil_of_le (by rw [List.length_take]; omega), List.nil_append]
theorem rem_step {S : List Int} {p i : Nat} (hp : p < S.length) (hi : i < S.length) (h : i ≠ p) : rem S p i = S.getD i 0 :: rem S p (i + 1) := by
  unfold rem
  by_cases c : i ≤ p
  · rw [if_pos c, if_pos (by omega)]
    have hl : i < (S.take p).length := by rw [List.length_take]; omega
    rw [List.drop_eq_getElem_cons hl, List.cons_append]
    congr 1
    rw [List.getElem_take, List.getD_eq_getElem?_getD, List.getElem?_eq_getElem hi]
    rfl
  · rw [if_neg c, if_neg (by omega), List.drop_eq_getElem_cons hi, List.getD_eq_getElem?_getD, List.getElem?_eq_getElem hi]
    rfl
theorem rem_end {S : List Int} {p : Nat} (hp : p < S.length) : rem S p S.length = [] := by
  unfold rem
  rw [if_neg (by omega), List.drop_eq_nil_of_le (Nat.le_refl _)]
theorem parse_l0 (s : ByteArray) (neg : Bool) {p : Nat} (hp : p < s.size) (hs : s.size ≤ 9223372036854775807) : ∀ (d i : Nat) (m : Int), i + d = s.size → 0 ≤ m → m ≤ 9223372036854775808 →
    Ev (fun k => money_Parse.l0 k s neg (p : Int) m (i : Int)) (fin neg (run (rem (byts s) p i) m)) := by
  have hlen := byts_len s
  intro d
  induction d with
  | zero =>
    intro i m hi h0 h1
    rw [show i = (byts s).length by rw [hlen]; omega, rem_end (by rw [hlen]; exact hp)]
    refine Ev_one fun k => ?_
    simp only [money_Parse.l0]
    rw [if_neg (by rw [hlen]; omega)]
    show _ = some (fin neg (some m))
    cases neg with
    | true =>
      rw [if_pos rfl]
      by_cases hz : m = 0
      · rw [if_pos hz, fin_t, if_pos hz]
      · rw [if_neg hz, sign_eq true h0 h1 (fun _ => hz), Option.bind_some]
    | false => rw [if_neg Bool.false_ne_true, sign_eq false h0 h1 (fun h => absurd h Bool.false_ne_true), Option.bind_some]
  | succ d ih =>
    intro i m hi h0 h1
    have wi' : wrap64 ((i : Int) + 1) = ((i + 1 : Nat) : Int) := w64 (by omega) (by omega)
    by_cases c : i = p
    · subst c
      rw [rem_at (by rw [hlen]; exact hp)]
      refine Ev.step (fun k => ?_) (ih (i + 1) m (by omega) h0 h1)
      simp only [money_Parse.l0]
      rw [if_pos (by omega), if_pos True.intro, wi']
    · have hb := bt_byts s i
      rw [rem_step (by rw [hlen]; exact hp) (by rw [hlen]; omega) c, ← hb]
      show Ev _ (fin neg ((stp m (bt s (i : Int))).bind fun m => run (rem (byts s) p (i + 1)) m))
      by_cases hq : Dgt (bt s (i : Int))
      · have hq' := hq
        unfold Dgt at hq'
        have ed : (bt s (i : Int) - 48) % 256 = bt s (i : Int) - 48 := by omega
        by_cases hm : m > (9223372036854775808 - (bt s (i : Int) - 48)) / 10
        · have es : stp m (bt s (i : Int)) = none := by
            unfold stp
            rw [if_pos hq, if_pos hm]
          rw [es]
          refine ⟨2, fun k hk => ?_⟩
          obtain ⟨k, rfl⟩ : ∃ j, k = j + 2 := ⟨k - 2, by omega⟩
          simp only [money_Parse.l0]
          rw [if_pos (by omega), if_neg (by omega), if_pos (by omega), if_neg (by omega), decide_eq_false (by omega)]
          simp only [money_Parse.j4]
          rw [if_neg Bool.false_ne_true, if_pos (by omega), if_pos (by omega), ed, if_pos hm]
          rfl
        · have es : stp m (bt s (i : Int)) = some (10 * m + (bt s (i : Int) - 48)) := by
            unfold stp
            rw [if_pos hq, if_neg hm]
          rw [es]
          obtain ⟨K, e⟩ := Ev_out (ih (i + 1) (10 * m + (bt s (i : Int) - 48)) (by omega) (by omega) (by omega))
          refine ⟨K + 2, fun k hk => ?_⟩
          obtain ⟨k, rfl⟩ : ∃ j, k = j + 2 := ⟨k - 2, by omega⟩
          simp only [money_Parse.l0]
          rw [if_pos (by omega), if_neg (by omega), if_pos (by omega), if_neg (by omega), decide_eq_false (by omega)]
          simp only [money_Parse.j4]
          rw [if_neg Bool.false_ne_true, if_pos (by omega), if_pos (by omega), ed, if_neg hm, u64i (x := 10 * m) (by omega) (by omega), u64i (by omega) (by omega), wi', e k (by omega)]
          rfl
      · have es : stp m (bt s (i : Int)) = none := by
          unfold stp
          rw [if_neg hq]
        rw [es]
        have out : ∀ k, money_Parse.j4 (k + 1) s neg (p : Int) m (i : Int) true = some (0, false) := fun k => by
          simp only [money_Parse.j4]
          rw [if_pos True.intro]
        refine ⟨2, fun k hk => ?_⟩
        obtain ⟨k, rfl⟩ : ∃ j, k = j + 2 := ⟨k - 2, by omega⟩
        simp only [money_Parse.l0]
        rw [if_pos (by omega), if_neg (by omega), if_pos (by omega)]
        unfold Dgt at hq
        by_cases h1 : bt s (i : Int) < 48
        · rw [if_pos h1, out]
          rfl
        · rw [if_neg h1, decide_eq_true (by omega), out]
          rfl
/-- What is read out of the text behind its sign. -/
def pj (neg : Bool) (S : List Int) : Int × Bool :=
  if 4 ≤ S.length ∧ S.getD (S.length - 3) 0 = 46 ∧ ¬ (S.getD 0 0 = 48 ∧ 4 < S.length) then fin neg (run (rem S (S.length - 3) 0) 0) else (0, false)
theorem parse_j1 (s : ByteArray) (neg : Bool) (hs : s.size ≤ 9223372036854775807) : Ev (fun k => money_Parse.j1 k s neg) (pj neg (byts s)) := by
  have hlen := byts_len s
  have out : ∀ k (p : Int), money_Parse.j2 (k + 1) s neg p true = some (0, false) := fun k p => by
    simp only [money_Parse.j2]
    rw [if_pos True.intro]
  have ew : wrap64 ((s.size : Int) - 3) = (s.size : Int) - 3 := w64 (by omega) (by omega)
  by_cases h4 : 4 ≤ s.size
  · have hb := bt_byts s (s.size - 3)
    have h0 := bt_byts s 0
    rw [show ((s.size - 3 : Nat) : Int) = (s.size : Int) - 3 by omega] at hb
    rw [show ((0 : Nat) : Int) = 0 from rfl] at h0
    by_cases hc : (byts s).getD ((byts s).length - 3) 0 = 46 ∧ ¬ ((byts s).getD 0 0 = 48 ∧ 4 < (byts s).length)
    · rw [show pj neg (byts s) = fin neg (run (rem (byts s) ((byts s).length - 3) 0) 0) from if_pos ⟨by rw [hlen]; exact h4, hc⟩]
      rw [hlen] at hc ⊢
      obtain ⟨K, e⟩ := Ev_out (parse_l0 s neg (p := s.size - 3) (by omega) hs s.size 0 0 (by omega) (by omega) (by omega))
      refine ⟨K + 2, fun k hk => ?_⟩
      obtain ⟨k, rfl⟩ : ∃ j, k = j + 2 := ⟨k - 2, by omega⟩
      have e' := e k (by omega)
      rw [show ((s.size - 3 : Nat) : Int) = (s.size : Int) - 3 by omega, show ((0 : Nat) : Int) = 0 from rfl] at e'
      simp only [money_Parse.j1]
      rw [ew, if_neg (by omega), if_pos (by omega), if_pos (by omega), hb, if_pos hc.1, if_pos (by omega), h0]
      by_cases hz : (byts s).getD 0 0 = 48
      · rw [if_pos hz, decide_eq_false (by have := hc.2; omega)]
        simp only [money_Parse.j2]
        rw [if_neg Bool.false_ne_true, e']
      · rw [if_neg hz]
        simp only [money_Parse.j2]
        rw [if_neg Bool.false_ne_true, e']
    · rw [show pj neg (byts s) = (0, false) from if_neg (fun g => hc g.2)]
      rw [hlen] at hc
      refine ⟨2, fun k hk => ?_⟩
      obtain ⟨k, rfl⟩ : ∃ j, k = j + 2 := ⟨k - 2, by omega⟩
      simp only [money_Parse.j1]
      rw [ew, if_neg (by omega), if_pos (by omega), if_pos (by omega), hb]
      by_cases hd : (byts s).getD (s.size - 3) 0 = 46
      · rw [if_pos hd, if_pos (by omega), h0]
        by_cases hz : (byts s).getD 0 0 = 48
        · rw [if_pos hz, decide_eq_true (by
            by_cases g : 4 < s.size
            · omega
            · exact absurd ⟨hd, fun z => g z.2⟩ hc), out]
        · exact absurd ⟨hd, fun z => hz z.1⟩ hc
      · rw [if_neg hd, out]
  · rw [show pj neg (byts s) = (0, false) from if_neg (fun g => h4 (by rw [← hlen]; exact g.1))]
    refine ⟨2, fun k hk => ?_⟩
    obtain ⟨k, rfl⟩ : ∃ j, k = j + 2 := ⟨k - 2, by omega⟩
    simp only [money_Parse.j1]
    rw [ew, if_pos (by omega), out]
/-- What Parse reads. -/
def pv (L : List Int) : Int × Bool := if L.headD 0 = 45 then pj true L.tail else pj false L
theorem parse_ev (s : ByteArray) (hs : s.size ≤ 9223372036854775807) : Ev (fun k => money_Parse.f k s) (pv (byts s)) := by
  have hlen := byts_len s
  have h0 := bt_byts s 0
  rw [show ((0 : Nat) : Int) = 0 from rfl] at h0
  have hh : (byts s).headD 0 = (byts s).getD 0 0 := by cases byts s <;> rfl
  by_cases hz : 0 < s.size
  · by_cases hc : (byts s).headD 0 = 45
    · have hx : (s.extract 1 s.size).size ≤ 9223372036854775807 := by rw [ByteArray.size_extract]; omega
      obtain ⟨K, e⟩ := Ev_out (parse_j1 (s.extract 1 s.size) true hx)
      have et : byts (s.extract 1 s.size) = (byts s).tail := by
        rw [byts_extract, List.drop_one, List.take_of_length_le (by rw [List.length_tail, hlen]; omega)]
      rw [et] at e
      rw [show pv (byts s) = pj true (byts s).tail from if_pos hc]
      refine ⟨K + 1, fun k hk => ?_⟩
      obtain ⟨k, rfl⟩ : ∃ j, k = j + 1 := ⟨k - 1, by omega⟩
      simp only [money_Parse.f]
      rw [if_pos (by omega), if_pos (by omega), h0, show ((byts s).getD 0 0 == 45) = true by rw [← hh, hc]; rfl]
      simp only [money_Parse.j0]
      rw [if_pos True.intro, if_pos (by omega), e k (by omega)]
    · obtain ⟨K, e⟩ := Ev_out (parse_j1 s false hs)
      rw [show pv (byts s) = pj false (byts s) from if_neg hc]
      refine ⟨K + 1, fun k hk => ?_⟩
      obtain ⟨k, rfl⟩ : ∃ j, k = j + 1 := ⟨k - 1, by omega⟩
      simp only [money_Parse.f]
      rw [if_pos (by omega), if_pos (by omega), h0, show ((byts s).getD 0 0 == 45) = false from beq_eq_false_iff_ne.2 (by rw [← hh]; exact hc)]
      simp only [money_Parse.j0]
      rw [if_neg Bool.false_ne_true, e k (by omega)]
  · obtain ⟨K, e⟩ := Ev_out (parse_j1 s false hs)
    have hn : byts s = [] := List.eq_nil_of_length_eq_zero (by rw [hlen]; omega)
    rw [show pv (byts s) = pj false (byts s) from if_neg (by rw [hn]; decide)]
    refine ⟨K + 1, fun k hk => ?_⟩
    obtain ⟨k, rfl⟩ : ∃ j, k = j + 1 := ⟨k - 1, by omega⟩
    simp only [money_Parse.f]
    rw [if_neg (by omega)]
    simp only [money_Parse.j0]
    rw [if_neg Bool.false_ne_true, e k (by omega)]

theorem rem_zero {ds : List Int} {a b : Int} : rem (ds ++ [46, a, b]) ds.length 0 = ds ++ [a, b] := by
  unfold rem
  rw [if_pos (Nat.zero_le _), List.take_left, List.drop_zero, show ds.length + 1 = ds.length + 1 from rfl, List.drop_append]
  congr 1
  rw [List.drop_eq_nil_of_le (by omega), List.nil_append, Nat.add_sub_cancel_left]
  rfl
theorem getD_mid {ds : List Int} {a b : Int} : (ds ++ [46, a, b]).getD ds.length 0 = 46 := by
  rw [List.getD_eq_getElem?_getD, List.getElem?_append_right (Nat.le_refl _), Nat.sub_self]
  rfl
theorem ul_head (m : Nat) : (ul m).headD 0 = (dd (m / 100)).headD 0 ∧ (ul m).getD 0 0 = (dd (m / 100)).headD 0 := by
  unfold ul
  cases h : dd (m / 100) with
  | nil => exact absurd h (dd_ne _)
  | cons c l => exact ⟨rfl, rfl⟩
theorem pj_ul (neg : Bool) {m : Nat} (h : m ≤ 9223372036854775808) : pj neg (ul m) = fin neg (some (m : Int)) := by
  have hl := ul_len m
  have hpos : 1 ≤ (dd (m / 100)).length := by
    rcases Nat.eq_zero_or_pos (dd (m / 100)).length with g | g
    · exact absurd (List.eq_nil_of_length_eq_zero g) (dd_ne _)
    · exact g
  have e3 : (ul m).length - 3 = (dd (m / 100)).length := by omega
  have hno : ¬ ((ul m).getD 0 0 = 48 ∧ 4 < (ul m).length) := fun g => by
    rw [(ul_head m).2] at g
    have e0 := (dd_head _).1 g.1
    have e1 : (dd (m / 100)).length = 1 := by rw [e0, dd_small (by omega)]; rfl
    omega
  unfold pj
  rw [if_pos ⟨by omega, by rw [e3]; exact getD_mid, hno⟩, e3, show ul m = dd (m / 100) ++ [46, 48 + (m : Int) % 100 / 10, 48 + (m : Int) % 100 % 10] from rfl, rem_zero, ul_run h]
/-- What Format tells Parse reads back. -/
theorem pv_fl {x : Int} (hx : I64 x) : pv (fl x) = (x, true) := by
  unfold I64 at hx
  unfold fl
  by_cases c : x < 0
  · rw [if_pos c]
    show pj true (ul x.natAbs) = (x, true)
    rw [pj_ul true (by omega), fin_t, if_neg (by omega)]
    congr 1
    omega
  · rw [if_neg c, List.nil_append]
    have hd : (ul x.natAbs).headD 0 ≠ 45 := by
      rw [(ul_head _).1]
      intro g
      cases h : dd (x.natAbs / 100) with
      | nil => exact absurd h (dd_ne _)
      | cons q l =>
        have := dd_digits (x.natAbs / 100) q (by rw [h]; simp)
        rw [h] at g
        have g' : q = 45 := g
        unfold Dgt at this
        omega
    unfold pv
    rw [if_neg hd, pj_ul false (by omega), fin_f, if_neg (by omega)]
    congr 1
    omega
theorem fin_some {neg : Bool} {o : Option Int} {z : Int} (h : fin neg o = (z, true)) : ∃ m, o = some m ∧ (neg = true → m ≠ 0 ∧ z = -m) ∧ (neg = false → m ≤ 9223372036854775807 ∧ z = m) := by
  cases o with
  | none => exact absurd (Prod.mk.inj h).2 Bool.false_ne_true
  | some m =>
    refine ⟨m, rfl, fun g => ?_, fun g => ?_⟩
    · subst g
      rw [fin_t] at h
      by_cases c : m = 0
      · rw [if_pos c] at h; exact absurd (Prod.mk.inj h).2 Bool.false_ne_true
      · rw [if_neg c] at h; exact ⟨c, (Prod.mk.inj h).1.symm⟩
    · subst g
      rw [fin_f] at h
      by_cases c : m > 9223372036854775807
      · rw [if_pos c] at h; exact absurd (Prod.mk.inj h).2 Bool.false_ne_true
      · rw [if_neg c] at h; exact ⟨by omega, (Prod.mk.inj h).1.symm⟩
theorem fin_none {neg : Bool} {o : Option Int} {z : Int} (h : fin neg o = (z, false)) : z = 0 := by
  cases o with
  | none => exact (Prod.mk.inj h).1.symm
  | some m =>
    cases neg with
    | true =>
      rw [fin_t] at h
      by_cases c : m = 0
      · rw [if_pos c] at h; exact (Prod.mk.inj h).1.symm
      · rw [if_neg c] at h; exact absurd (Prod.mk.inj h).2 (by decide)
    | false =>
      rw [fin_f] at h
      by_cases c : m > 9223372036854775807
      · rw [if_pos c] at h; exact (Prod.mk.inj h).1.symm
      · rw [if_neg c] at h; exact absurd (Prod.mk.inj h).2 (by decide)
theorem last_three {S : List Int} (h : 4 ≤ S.length) (hm : S.getD (S.length - 3) 0 = 46) : ∃ ds a b, S = ds ++ [46, a, b] ∧ 1 ≤ ds.length ∧ ds.length = S.length - 3 := by
  have hs : S = S.take (S.length - 3) ++ S.drop (S.length - 3) := (List.take_append_drop _ _).symm
  have hl : (S.drop (S.length - 3)).length = 3 := by rw [List.length_drop]; omega
  have ht : (S.take (S.length - 3)).length = S.length - 3 := by rw [List.length_take]; omega
  match hd : S.drop (S.length - 3), hl with
  | [x, a, b], _ =>
    refine ⟨S.take (S.length - 3), a, b, ?_, by omega, ht⟩
    have hx : x = 46 := by
      rw [List.getD_eq_getElem?_getD, show S.length - 3 = S.length - 3 + 0 from rfl, ← List.getElem?_drop, hd] at hm
      exact hm
    rw [← hx, ← hd]
    exact hs
theorem pj_back {neg : Bool} {S : List Int} {z : Int} (h : pj neg S = (z, true)) : ∃ m : Nat, ul m = S ∧ m ≤ 9223372036854775808 ∧ (neg = true → m ≠ 0 ∧ z = -(m : Int)) ∧ (neg = false → (m : Int) ≤ 9223372036854775807 ∧ z = m) := by
  unfold pj at h
  by_cases hc : 4 ≤ S.length ∧ S.getD (S.length - 3) 0 = 46 ∧ ¬ (S.getD 0 0 = 48 ∧ 4 < S.length)
  · rw [if_pos hc] at h
    obtain ⟨ds, a, b, rfl, hne, hl⟩ := last_three hc.1 hc.2.1
    obtain ⟨m, hr, h1, h2⟩ := fin_some h
    rw [← hl, rem_zero] at hr
    obtain ⟨g1, g2, g3⟩ := run_some hr
    have hn : 0 ≤ m := by rw [g2]; exact dval_nn g1
    have hL : (ds ++ [46, a, b]).length = ds.length + 3 := by rw [List.length_append]; rfl
    have h0 : (ds ++ [46, a, b]).getD 0 0 = ds.headD 0 := by
      cases ds with
      | nil => simp at hne
      | cons q l => rfl
    refine ⟨m.toNat, ul_back (by intro e; rw [e] at hne; simp at hne) ?_ g1 (by rw [← g2]; omega), by omega, fun g => ?_, fun g => ?_⟩
    · by_cases q : ds.headD 0 = 48
      · right
        have := hc.2.2
        rw [h0, hL] at this
        by_cases r : ds.length = 1
        · exact r
        · exact absurd ⟨q, by omega⟩ this
      · exact .inl q
    · have := h1 g; omega
    · have := h2 g; omega
  · rw [if_neg hc] at h
    exact absurd (Prod.mk.inj h).2 Bool.false_ne_true
theorem pj_none {neg : Bool} {S : List Int} {z : Int} (h : pj neg S = (z, false)) : z = 0 := by
  unfold pj at h
  split at h
  · exact fin_none h
  · exact (Prod.mk.inj h).1.symm
theorem pv_none {L : List Int} {z : Int} (h : pv L = (z, false)) : z = 0 := by
  unfold pv at h
  split at h <;> exact pj_none h
/-- What Parse reads Format tells again. -/
theorem pv_back {L : List Int} {z : Int} (h : pv L = (z, true)) : I64 z ∧ fl z = L := by
  unfold pv at h
  by_cases c : L.headD 0 = 45
  · rw [if_pos c] at h
    obtain ⟨m, e, hm, h1, _⟩ := pj_back h
    obtain ⟨h2, rfl⟩ := h1 rfl
    refine ⟨by unfold I64; omega, ?_⟩
    unfold fl
    rw [if_pos (by omega), show (-(m : Int)).natAbs = m by omega, e]
    cases L with
    | nil => exact absurd c (by decide)
    | cons q l =>
      have g : q = 45 := c
      rw [g]
      rfl
  · rw [if_neg c] at h
    obtain ⟨m, e, hm, _, h1⟩ := pj_back h
    obtain ⟨h2, rfl⟩ := h1 rfl
    refine ⟨by unfold I64; omega, ?_⟩
    unfold fl
    rw [if_neg (by omega), show ((m : Nat) : Int).natAbs = m by omega, e]
    rfl
theorem fl_bytes (x : Int) : ∀ c ∈ fl x, 0 ≤ c ∧ c ≤ 255 := by
  intro c hc
  unfold fl at hc
  rcases List.mem_append.1 hc with hc | hc
  · split at hc
    · simp only [List.mem_cons, List.not_mem_nil, or_false] at hc; omega
    · cases hc
  · unfold ul at hc
    rcases List.mem_append.1 hc with hc | hc
    · have := dd_digits _ c hc
      unfold Dgt at this
      omega
    · simp only [List.mem_cons, List.not_mem_nil, or_false] at hc
      omega
theorem byts_fl (x : Int) : byts (strOfNums (fl x)) = fl x := byts_of (fl_bytes x)
theorem format_eq {x : Int} (hx : I64 x) : money_Format.f x = some (strOfNums (fl x)) := by
  unfold I64 at hx
  have hm : money_magnitude.f x = some ((x.natAbs : Nat) : Int) := by
    unfold money_magnitude.f
    by_cases c : x < 0
    · rw [if_pos c, u64e, u64e]
      congr 1
      omega
    · rw [if_neg c, u64i (by omega) (by omega)]
      congr 1
      omega
  unfold money_Format.f
  rw [hm, Option.bind_some, if_pos (by omega)]
  unfold fl ul
  rw [List.append_assoc, show ((x.natAbs : Nat) : Int).toNat = x.natAbs by omega, show (48 : Int) + ((x.natAbs : Nat) : Int) % 10 = 48 + ((x.natAbs : Nat) : Int) % 100 % 10 by omega]
  rfl
theorem text_inj {s t : ByteArray} (h : s.toList = t.toList) : s = t := by
  rw [ByteArray.toList_eq, ByteArray.toList_eq] at h
  exact ByteArray.ext (Array.toList_inj.1 h)
end Go.Proofs.YtjhodgcjkobpoaaGreatDoor.MText
