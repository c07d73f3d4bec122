/- Dates as texts: which text FormatDate tells, and what ParseDate reads out of a text. Plain Lean over the printed functions. -/
import Derived.Test.YtifkobejdldkbaaDoorECDay
import Derived.Laws.Strings
import Derived.Test.YtifkobejdldkbaaDoorPEx12
import Derived.Test.YtifkobejdldkbaaDoorPEx11
import Derived.Test.YtifkobejdldkbaaDoorPEx13
namespace Go.Proofs.YtifkobejdldkbaaDoor.ECText
open Go.RowKit Go.Proofs.YtifkobejdldkbaaDoor.PE Go.Proofs.YtifkobejdldkbaaDoorW.PrintWords Go.Proofs.YtifkobejdldkbaaDoorW.PrintLast Go.Proofs.YtifkobejdldkbaaDoorW.PrintMore Go.Proofs.YtifkobejdldkbaaDoor.EMB Go.Proofs.YtifkobejdldkbaaDoor.ECDate Go.Proofs.YtifkobejdldkbaaDoor.ECProg Go.Proofs.YtifkobejdldkbaaDoor.ECRef Go.Proofs.YtifkobejdldkbaaDoor.ECCivil Go.Proofs.YtifkobejdldkbaaDoor.ECDay
set_option linter.unusedVariables false
set_option linter.unusedSectionVars false
set_option linter.unusedSimpArgs false

/-- A string's bytes as numbers. -/
def byts (s : ByteArray) : List Int := s.data.toList.map fun b => (b.toNat : Int)
theorem byts_len (s : ByteArray) : (byts s).length = s.size := by
  unfold byts
  rw [List.length_map, Array.length_toList]
  rfl
theorem bt_byts (s : ByteArray) (i : Nat) : bt s (i : Int) = (byts s).getD i 0 := by
  unfold bt byts
  by_cases h : i < s.size
  · rw [dif_pos (by rw [Int.toNat_natCast]; exact h)]
    have h' : i < s.data.toList.length := by rw [Array.length_toList]; exact h
    rw [List.getD_eq_getElem?_getD, List.getElem?_map, List.getElem?_eq_getElem h']
    simp [ByteArray.getElem_eq_getElem_data]
  · rw [dif_neg (by rw [Int.toNat_natCast]; exact h)]
    have h' : s.data.toList.length ≤ i := by rw [Array.length_toList]; exact Nat.le_of_not_lt h
    rw [List.getD_eq_getElem?_getD, List.getElem?_map, List.getElem?_eq_none h']
    rfl
theorem byts_inj {s t : ByteArray} (h : byts s = byts t) : s = t := by
  apply ByteArray.ext
  apply Array.toList_inj.1
  have hf : ∀ {l m : List UInt8}, l.map (fun b => (b.toNat : Int)) = m.map (fun b => (b.toNat : Int)) → l = m := by
    intro l
    induction l with
    | nil => intro m h; cases m with
      | nil => rfl
      | cons _ _ => simp at h
    | cons a l ih => intro m h; cases m with
      | nil => simp at h
      | cons b m =>
        simp only [List.map_cons, List.cons.injEq] at h
        have e : a = b := UInt8.toNat_inj.1 (Int.ofNat_inj.1 h.1)
        rw [ih h.2, e]
  exact hf h
theorem byts_of {xs : List Int} (h : ∀ x ∈ xs, 0 ≤ x ∧ x ≤ 255) : byts (strOfNums xs) = xs := by
  unfold byts
  rw [strOfNums_data, List.map_map]
  induction xs with
  | nil => rfl
  | cons x xs ih =>
    have hx := h x (by simp)
    rw [List.map_cons, ih (fun y hy => h y (by simp [hy]))]
    congr 1
    simp
    omega
theorem list_ten {l : List Int} (h : l.length = 10) : ∃ a b c d e f g i j k, l = [a, b, c, d, e, f, g, i, j, k] := by
  match l, h with
  | [a, b, c, d, e, f, g, i, j, k], _ => exact ⟨a, b, c, d, e, f, g, i, j, k, rfl⟩
theorem byts_extract (s : ByteArray) (i j : Nat) : byts (s.extract i j) = ((byts s).drop i).take (j - i) := by
  unfold byts
  rw [← List.map_drop, ← List.map_take]
  congr 1
  simp [ByteArray.data_extract]

/-- Digits. -/
def Dg (c : Int) : Prop := 48 ≤ c ∧ c ≤ 57
instance (c : Int) : Decidable (Dg c) := by unfold Dg; infer_instance
theorem l0_step (d : Nat) (s : ByteArray) (n : Int) (i : Nat) : calendar_digits.l0 (d + 1) s n (i : Int) = if Dg ((byts s).getD i 0) then calendar_digits.l0 d s (wrap64 (wrap64 (10 * n) + (((byts s).getD i 0 - 48) % 256))) ((i + 1 : Nat) : Int) else (0, false) := by
  rw [calendar_digits.l0, bt_byts]
  generalize (byts s).getD i 0 = c
  by_cases h : Dg c
  · rw [if_pos h]
    unfold Dg at h
    rw [if_neg (by omega), if_neg (by omega)]
    rfl
  · rw [if_neg h]
    unfold Dg at h
    by_cases h1 : c < 48
    · rw [if_pos h1]
    · rw [if_neg h1, if_pos (by omega)]
theorem step_val {n c : Int} (hc : Dg c) (h0 : 0 ≤ n) (h1 : n ≤ 1000000) : wrap64 (wrap64 (10 * n) + ((c - 48) % 256)) = 10 * n + (c - 48) := by
  unfold Dg at hc
  rw [w64 (x := 10 * n) (by omega) (by omega), w64 (by omega) (by omega)]
  omega
theorem digits2 {s : ByteArray} {a b : Int} (h : byts s = [a, b]) : calendar_digits.f s = some (if Dg a ∧ Dg b then (10 * (a - 48) + (b - 48), true) else (0, false)) := by
  have hz : s.size = 2 := by rw [← byts_len, h]; rfl
  unfold calendar_digits.f
  rw [if_pos (by rw [hz]; decide), hz]
  congr 1
  have e0 := l0_step 1 s 0 0
  rw [h] at e0
  rw [show ((0 : Nat) : Int) = 0 from rfl] at e0
  rw [e0]
  simp only [List.getD_cons_zero]
  by_cases ha : Dg a
  · rw [if_pos ha, step_val ha (by omega) (by omega), l0_step 0 s _ (0 + 1), h]
    simp only [List.getD_cons_succ, List.getD_cons_zero]
    have ha' := ha
    unfold Dg at ha'
    by_cases hb : Dg b
    · rw [if_pos hb, step_val hb (by omega) (by omega), if_pos ⟨ha, hb⟩, calendar_digits.l0]
      congr 1
      omega
    · rw [if_neg hb, if_neg (fun g => hb g.2)]
  · rw [if_neg ha, if_neg (fun g => ha g.1)]
theorem digits4 {s : ByteArray} {a b c d : Int} (h : byts s = [a, b, c, d]) : calendar_digits.f s = some (if Dg a ∧ Dg b ∧ Dg c ∧ Dg d then (1000 * (a - 48) + 100 * (b - 48) + 10 * (c - 48) + (d - 48), true) else (0, false)) := by
  have hz : s.size = 4 := by rw [← byts_len, h]; rfl
  unfold calendar_digits.f
  rw [if_pos (by rw [hz]; decide), hz]
  congr 1
  have e0 := l0_step 3 s 0 0
  rw [h] at e0
  rw [show ((0 : Nat) : Int) = 0 from rfl] at e0
  rw [e0]
  simp only [List.getD_cons_zero]
  by_cases ha : Dg a
  · rw [if_pos ha, step_val ha (by omega) (by omega), l0_step 2 s _ (0 + 1), h]
    simp only [List.getD_cons_succ, List.getD_cons_zero]
    have ha' := ha
    unfold Dg at ha'
    by_cases hb : Dg b
    · have hb' := hb
      unfold Dg at hb'
      rw [if_pos hb, step_val hb (by omega) (by omega), l0_step 1 s _ (0 + 1 + 1), h]
      simp only [List.getD_cons_succ, List.getD_cons_zero]
      by_cases hc : Dg c
      · have hc' := hc
        unfold Dg at hc'
        rw [if_pos hc, step_val hc (by omega) (by omega), l0_step 0 s _ (0 + 1 + 1 + 1), h]
        simp only [List.getD_cons_succ, List.getD_cons_zero]
        by_cases hd : Dg d
        · rw [if_pos hd, step_val hd (by omega) (by omega), if_pos ⟨ha, hb, hc, hd⟩, calendar_digits.l0]
          congr 1
          omega
        · rw [if_neg hd, if_neg (fun g => hd g.2.2.2)]
      · rw [if_neg hc, if_neg (fun g => hc g.2.2.1)]
    · rw [if_neg hb, if_neg (fun g => hb g.2.1)]
  · rw [if_neg ha, if_neg (fun g => ha g.1)]
/-- A text of the form of a date. -/
def Form (a b c d e f g i j k : Int) : Prop := e = 45 ∧ i = 45 ∧ (Dg a ∧ Dg b ∧ Dg c ∧ Dg d) ∧ (Dg f ∧ Dg g) ∧ (Dg j ∧ Dg k)
instance (a b c d e f g i j k : Int) : Decidable (Form a b c d e f g i j k) := by unfold Form; infer_instance
/-- What ParseDate reads. -/
def prs : List Int → Int × Bool
  | [a, b, c, d, e, f, g, i, j, k] => if Form a b c d e f g i j k then numR (1000 * (a - 48) + 100 * (b - 48) + 10 * (c - 48) + (d - 48)) (10 * (f - 48) + (g - 48)) (10 * (j - 48) + (k - 48)) else (0, false)
  | _ => (0, false)
theorem prs_ten (a b c d e f g i j k : Int) : prs [a, b, c, d, e, f, g, i, j, k] = if Form a b c d e f g i j k then numR (1000 * (a - 48) + 100 * (b - 48) + 10 * (c - 48) + (d - 48)) (10 * (f - 48) + (g - 48)) (10 * (j - 48) + (k - 48)) else (0, false) := rfl
theorem prs_short {l : List Int} (h : l.length ≠ 10) : prs l = (0, false) := by
  unfold prs
  split
  · exact absurd rfl h
  · rfl
theorem parse_ev (s : ByteArray) : Ev (fun k => calendar_ParseDate.f k s) (prs (byts s)) := by
  have out : ∀ k, calendar_ParseDate.j0 (k + 1) s true = some (0, false) := fun k => by
    simp only [calendar_ParseDate.j0]
    rw [if_pos True.intro]
  by_cases hz : s.size = 10
  · obtain ⟨a, b, c, d, e, f, g, i, j, k, hl⟩ := list_ten (l := byts s) (by rw [byts_len, hz])
    have h4 : bt s 4 = e := by rw [show (4 : Int) = ((4 : Nat) : Int) from rfl, bt_byts, hl]; rfl
    have h7 : bt s 7 = i := by rw [show (7 : Int) = ((7 : Nat) : Int) from rfl, bt_byts, hl]; rfl
    have dy := digits4 (s := s.extract 0 4) (a := a) (b := b) (c := c) (d := d) (by rw [byts_extract, hl]; rfl)
    have dm := digits2 (s := s.extract 5 7) (a := f) (b := g) (by rw [byts_extract, hl]; rfl)
    have dd := digits2 (s := s.extract 8 10) (a := j) (b := k) (by rw [byts_extract, hl]; rfl)
    obtain ⟨K, en⟩ := Ev_out (number_ev (1000 * (a - 48) + 100 * (b - 48) + 10 * (c - 48) + (d - 48)) (10 * (f - 48) + (g - 48)) (10 * (j - 48) + (k - 48)))
    rw [hl]
    refine ⟨K + 1, fun q hq => ?_⟩
    obtain ⟨q, rfl⟩ : ∃ j, q = j + 1 := ⟨q - 1, by omega⟩
    simp only [calendar_ParseDate.f, prs]
    rw [hz, if_pos (show ((10 : Nat) : Int) = 10 from rfl), if_pos (by decide), h4, h7]
    by_cases he : e = 45
    · rw [if_pos he, if_pos (by decide)]
      by_cases hi : i = 45
      · rw [hi, bne_self_eq_false]
        simp only [calendar_ParseDate.j0]
        rw [if_neg Bool.false_ne_true, hz, if_pos (by decide), if_pos (by decide), dy, Option.bind_some, if_pos (by decide), if_pos (by decide), dm, Option.bind_some, if_pos (by decide), dd, Option.bind_some]
        by_cases g1 : Dg a ∧ Dg b ∧ Dg c ∧ Dg d
        · rw [if_pos g1]
          by_cases g2 : Dg f ∧ Dg g
          · rw [if_pos g2]
            by_cases g3 : Dg j ∧ Dg k
            · rw [if_pos g3, if_pos (show Form a b c d e f g 45 j k from ⟨he, rfl, g1, g2, g3⟩)]
              simp only [if_true]
              rw [en q (by omega), Option.bind_some]
            · rw [if_neg g3, if_neg (show ¬ Form a b c d e f g 45 j k from fun z => g3 z.2.2.2.2)]
              simp only [if_true]
              rw [if_neg Bool.false_ne_true]
          · rw [if_neg g2, if_neg (show ¬ Form a b c d e f g 45 j k from fun z => g2 z.2.2.2.1)]
            simp only [if_true]
            rw [if_neg Bool.false_ne_true]
        · rw [if_neg g1, if_neg (show ¬ Form a b c d e f g 45 j k from fun z => g1 z.2.2.1)]
          rw [if_neg Bool.false_ne_true]
      · rw [show (i != (45 : Int)) = true from bne_iff_ne.2 hi, out, if_neg (fun z => hi z.2.1)]
    · rw [if_neg he, out, if_neg (fun z => he z.1)]
  · rw [prs_short (by rw [byts_len]; exact hz)]
    refine Ev_one fun k => ?_
    simp only [calendar_ParseDate.f]
    rw [if_neg (by omega), out]
/-- What FormatDate tells. -/
def tx (y m d : Int) : List Int := [48 + y / 1000, 48 + y / 100 % 10, 48 + y / 10 % 10, 48 + y % 10, 45, 48 + m / 10, 48 + m % 10, 45, 48 + d / 10, 48 + d % 10]
theorem dig_val {x : Int} (h0 : 0 ≤ x) (h1 : x ≤ 9999) : wrap64 (48 + Int.tmod x 10) % 256 = 48 + x % 10 := by
  rw [tm h0, w64 (by omega) (by omega)]
  omega
theorem quo_val {x : Int} (h0 : 0 ≤ x) (h1 : x ≤ 9999) : wrap64 (Int.tdiv x 10) = x / 10 := by
  rw [td h0, w64 (by omega) (by omega)]
theorem put2 (xs : List Int) (o : Nat) {x : Int} (h0 : 0 ≤ x) (h1 : x ≤ 99) : calendar_FormatDate.putw 2 xs o x = (xs.set (o + 1) (48 + x % 10)).set (o + 0) (48 + x / 10) := by
  rw [calendar_FormatDate.putw, calendar_FormatDate.putw, calendar_FormatDate.putw, dig_val (x := x) (by omega) (by omega), quo_val (x := x) (by omega) (by omega), dig_val (x := x / 10) (by omega) (by omega)]
  congr 1
  omega
theorem put4 (xs : List Int) (o : Nat) {x : Int} (h0 : 0 ≤ x) (h1 : x ≤ 9999) : calendar_FormatDate.putw 4 xs o x = (((xs.set (o + 3) (48 + x % 10)).set (o + 2) (48 + x / 10 % 10)).set (o + 1) (48 + x / 100 % 10)).set (o + 0) (48 + x / 1000) := by
  rw [calendar_FormatDate.putw, calendar_FormatDate.putw, calendar_FormatDate.putw, calendar_FormatDate.putw, calendar_FormatDate.putw, dig_val (x := x) (by omega) (by omega), quo_val (x := x) (by omega) (by omega), dig_val (x := x / 10) (by omega) (by omega), quo_val (x := x / 10) (by omega) (by omega), dig_val (x := x / 10 / 10) (by omega) (by omega), quo_val (x := x / 10 / 10) (by omega) (by omega), dig_val (x := x / 10 / 10 / 10) (by omega) (by omega),
    show x / 10 / 10 = x / 100 by omega, show x / 100 / 10 % 10 = x / 1000 by omega]
theorem fmt_eq {y m d : Int} (v : Valid y m d) : calendar_FormatDate.fmt y m d = tx y m d := by
  have := ml_bd y m
  unfold Valid at v
  unfold calendar_FormatDate.fmt tx
  rw [put4 _ 0 (by omega) (by omega), put2 _ 5 (by omega) (by omega), put2 _ 8 (by omega) (by omega)]
  rfl
theorem tx_bytes {y m d : Int} (v : Valid y m d) : ∀ x ∈ tx y m d, 0 ≤ x ∧ x ≤ 255 := by
  have := ml_bd y m
  unfold Valid at v
  intro x hx
  simp only [tx, List.mem_cons, List.not_mem_nil, or_false] at hx
  omega
theorem byts_tx {y m d : Int} (v : Valid y m d) : byts (strOfNums (tx y m d)) = tx y m d := byts_of (tx_bytes v)
theorem tx_form {y m d : Int} (v : Valid y m d) : prs (tx y m d) = (num y m d, true) := by
  have := ml_bd y m
  have v' := v
  unfold Valid at v'
  unfold tx
  rw [prs_ten, if_pos (by unfold Form Dg; omega),
    show 1000 * (48 + y / 1000 - 48) + 100 * (48 + y / 100 % 10 - 48) + 10 * (48 + y / 10 % 10 - 48) + (48 + y % 10 - 48) = y by omega,
    show 10 * (48 + m / 10 - 48) + (48 + m % 10 - 48) = m by omega, show 10 * (48 + d / 10 - 48) + (48 + d % 10 - 48) = d by omega]
  exact if_pos v
/-- What is read is told again. -/
theorem prs_back {l : List Int} {n : Int} (h : prs l = (n, true)) : ∃ y m d, Valid y m d ∧ num y m d = n ∧ tx y m d = l := by
  by_cases hl : l.length = 10
  · obtain ⟨a, b, c, d, e, f, g, i, j, k, rfl⟩ := list_ten hl
    rw [prs_ten] at h
    by_cases hf : Form a b c d e f g i j k
    · rw [if_pos hf] at h
      unfold numR at h
      by_cases v : Valid (1000 * (a - 48) + 100 * (b - 48) + 10 * (c - 48) + (d - 48)) (10 * (f - 48) + (g - 48)) (10 * (j - 48) + (k - 48))
      · rw [if_pos v] at h
        refine ⟨_, _, _, v, (Prod.mk.inj h).1, ?_⟩
        obtain ⟨rfl, rfl, ⟨ha, hb, hc, hd⟩, ⟨hf, hg⟩, hj, hk⟩ := hf
        unfold Dg at ha hb hc hd hf hg hj hk
        unfold tx
        congr 1
        · omega
        congr 1
        · omega
        congr 1
        · omega
        congr 1
        · omega
        congr 1
        congr 1
        · omega
        congr 1
        · omega
        congr 1
        congr 1
        · omega
        congr 1
        omega
      · rw [if_neg v] at h; exact absurd (Prod.mk.inj h).2 Bool.false_ne_true
    · rw [if_neg hf] at h; exact absurd (Prod.mk.inj h).2 Bool.false_ne_true
  · rw [prs_short hl] at h; exact absurd (Prod.mk.inj h).2 Bool.false_ne_true
noncomputable def fmtR (n : Int) : ByteArray × Bool := if (civ n).2.2.2 = true then (strOfNums (calendar_FormatDate.fmt (civ n).1 (civ n).2.1 (civ n).2.2.1), true) else (ByteArray.empty, false)
theorem fmtR_num {y m d : Int} (v : Valid y m d) : fmtR (num y m d) = (strOfNums (tx y m d), true) := by
  unfold fmtR
  rw [civ_num v, if_pos rfl, fmt_eq v]
theorem fmtR_out {n : Int} (h : ¬ Day n) : fmtR n = (ByteArray.empty, false) := by
  unfold fmtR
  rw [civ_out h, if_neg Bool.false_ne_true]
theorem format_ev (n : Int) : Ev (fun k => calendar_FormatDate.f k n) (fmtR n) := by
  obtain ⟨K, e⟩ := Ev_out (civ_ev n)
  refine ⟨K, fun k hk => ?_⟩
  simp only [calendar_FormatDate.f]
  rw [e k hk, Option.bind_some]
  unfold fmtR
  split <;> rfl
end Go.Proofs.YtifkobejdldkbaaDoor.ECText
