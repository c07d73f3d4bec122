/- CalendarTextOrder: texts of days are read back, and stand in the order of the days. This text is the part over numbers and bytes alone. -/
import Derived.Test.YtifkobejdldkbaaDoorCText
import Derived.Test.YtifkobejdldkbaaDoorPAx18
namespace Go.Proofs.YtifkobejdldkbaaDoor.Pure
open Go.RowKit Go.Proofs.YtifkobejdldkbaaDoor.PA Go.Proofs.YtifkobejdldkbaaDoorW.PrintWords Go.Proofs.YtifkobejdldkbaaDoorW.PrintLast Go.Proofs.YtifkobejdldkbaaDoor.MB Go.Proofs.YtifkobejdldkbaaDoor.CDate Go.Proofs.YtifkobejdldkbaaDoor.CProg Go.Proofs.YtifkobejdldkbaaDoor.CDay Go.Proofs.YtifkobejdldkbaaDoor.CText
set_option linter.unusedVariables false
set_option linter.unusedSimpArgs false

def ltl : List Int → List Int → Bool
  | _, [] => false
  | [], _ :: _ => true
  | a :: x, b :: y => decide (a < b) || (decide (a = b) && ltl x y)
theorem u8_lt {a b : Int} (ha : 0 ≤ a ∧ a ≤ 255) (hb : 0 ≤ b ∧ b ≤ 255) : (decide (UInt8.ofNat a.toNat < UInt8.ofNat b.toNat)) = decide (a < b) := by
  congr 1
  rw [UInt8.lt_iff_toNat_lt]
  simp
  omega
theorem u8_eq {a b : Int} (ha : 0 ≤ a ∧ a ≤ 255) (hb : 0 ≤ b ∧ b ≤ 255) : (UInt8.ofNat a.toNat == UInt8.ofNat b.toNat) = decide (a = b) := by
  by_cases h : a = b
  · subst h; simp
  · rw [decide_eq_false h]
    apply beq_eq_false_iff_ne.2
    intro e
    have := congrArg UInt8.toNat e
    simp at this
    omega
theorem less_map : ∀ (x y : List Int), (∀ a ∈ x, 0 ≤ a ∧ a ≤ 255) → (∀ a ∈ y, 0 ≤ a ∧ a ≤ 255) → Op.bytesLess (x.map fun n => UInt8.ofNat n.toNat) (y.map fun n => UInt8.ofNat n.toNat) = ltl x y
  | x, [], _, _ => by cases x <;> rfl
  | [], _ :: _, _, _ => rfl
  | a :: x, b :: y, hx, hy => by
    simp only [List.map_cons, Op.bytesLess, ltl]
    rw [less_map x y (fun c hc => hx c (by simp [hc])) (fun c hc => hy c (by simp [hc])), u8_lt (hx a (by simp)) (hy b (by simp)), u8_eq (hx a (by simp)) (hy b (by simp))]
theorem lex (u v : Int) (R : Prop) : (48 + u / 10 < 48 + v / 10 ∨ (48 + u / 10 = 48 + v / 10 ∧ (48 + u % 10 < 48 + v % 10 ∨ (48 + u % 10 = 48 + v % 10 ∧ R)))) ↔ (48 + u < 48 + v ∨ (48 + u = 48 + v ∧ R)) := by
  by_cases r : R
  · simp only [r, and_true]; omega
  · simp only [r, and_false, or_false]; omega
theorem tx_less {y m d y' m' d' : Int} (v : Valid y m d) (v' : Valid y' m' d') : Op.bytesLess (strOfNums (tx y m d)).toList (strOfNums (tx y' m' d')).toList = decide (num y m d < num y' m' d') := by
  rw [ByteArray.toList_eq, ByteArray.toList_eq, strOfNums_data, strOfNums_data, less_map _ _ (tx_bytes v) (tx_bytes v')]
  have key : ltl (tx y m d) (tx y' m' d') = true ↔ num y m d < num y' m' d' := by
    rw [num_lt_iff v v']
    simp only [tx, ltl, Bool.or_eq_true, Bool.and_eq_true, decide_eq_true_eq, Bool.false_eq_true, and_false, or_false, Int.lt_irrefl, true_and, false_or]
    rw [show y / 1000 = y / 100 / 10 by omega, show y' / 1000 = y' / 100 / 10 by omega, lex (y / 100) (y' / 100), show y / 100 = y / 10 / 10 by omega, show y' / 100 = y' / 10 / 10 by omega, lex (y / 10) (y' / 10), lex y y', lex m m']
    constructor
    · intro h; omega
    · intro h; omega
  by_cases h : num y m d < num y' m' d'
  · rw [decide_eq_true h, key.2 h]
  · rw [decide_eq_false h]
    cases hl : ltl (tx y m d) (tx y' m' d') with
    | false => rfl
    | true => exact absurd (key.1 hl) h
theorem to_last {y m d : Int} (v : Valid y m d) (b : Int) : Ev (fun k => (calendar_FormatDate.f k b).bind fun bt => if bt.2 = true then some (decide (num y m d < b) == Op.bytesLess (strOfNums (tx y m d)).toList bt.1.toList) else some true) true := by
  obtain ⟨K, e⟩ := Ev_out (format_ev b)
  refine ⟨K, fun k hk => ?_⟩
  show (calendar_FormatDate.f k b).bind _ = some true
  rw [e k hk, Option.bind_some]
  by_cases h : Day b
  · obtain ⟨y', m', d', v', rfl, _⟩ := civ_in h
    rw [fmtR_num v', if_pos rfl, tx_less v v', beq_self_eq_true]
  · rw [fmtR_out h, if_neg Bool.false_ne_true]
theorem to_j1 {y m d : Int} (v : Valid y m d) (b : Int) (t : ByteArray) : Ev (fun k => arrearslaw2_CalendarTextOrder.j1 k (num y m d) b t (strOfNums (tx y m d)) false) true := by
  obtain ⟨K1, e1⟩ := Ev_out (parse_ev t)
  obtain ⟨K2, e2⟩ := Ev_out (to_last v b)
  cases hp : prs (byts t) with
  | mk n ok =>
    cases ok with
    | false =>
      refine ⟨K1 + K2 + 1, fun k hk => ?_⟩
      obtain ⟨k, rfl⟩ : ∃ j, k = j + 1 := ⟨k - 1, by omega⟩
      simp only [arrearslaw2_CalendarTextOrder.j1]
      rw [if_neg Bool.false_ne_true, e1 k (by omega), Option.bind_some, hp, if_neg Bool.false_ne_true]
      exact e2 k (by omega)
    | true =>
      obtain ⟨y', m', d', v', e, et⟩ := prs_back hp
      obtain ⟨K3, e3⟩ := Ev_out (format_ev n)
      have es : strOfNums (tx y' m' d') = t := byts_inj (by rw [byts_tx v', et])
      have ef : fmtR n = (t, true) := by rw [← e, fmtR_num v', es]
      refine ⟨K1 + K2 + K3 + 1, fun k hk => ?_⟩
      obtain ⟨k, rfl⟩ : ∃ j, k = j + 1 := ⟨k - 1, by omega⟩
      simp only [arrearslaw2_CalendarTextOrder.j1]
      rw [if_neg Bool.false_ne_true, e1 k (by omega), Option.bind_some, hp, if_pos rfl, e3 k (by omega), Option.bind_some, ef, if_pos rfl, if_pos rfl]
      exact e2 k (by omega)
theorem to_j0 {y m d : Int} (v : Valid y m d) (b : Int) (t : ByteArray) : Ev (fun k => arrearslaw2_CalendarTextOrder.j0 k (num y m d) b t (strOfNums (tx y m d)) true false) true := by
  obtain ⟨K1, e1⟩ := Ev_out (parse_ev (strOfNums (tx y m d)))
  obtain ⟨K2, e2⟩ := Ev_out (to_j1 v b t)
  rw [byts_tx v, tx_form v] at e1
  refine ⟨K1 + K2 + 1, fun k hk => ?_⟩
  obtain ⟨k, rfl⟩ : ∃ j, k = j + 1 := ⟨k - 1, by omega⟩
  simp only [arrearslaw2_CalendarTextOrder.j0]
  rw [if_neg Bool.false_ne_true, if_pos True.intro, e1 k (by omega), Option.bind_some, if_pos rfl, if_pos rfl, strOfNums_size]
  exact e2 k (by omega)
theorem CalendarTextOrder : arrearslaw2_CalendarTextOrder.Pure := by
  intro a b t ha hb ht
  obtain ⟨K1, e1⟩ := Ev_out (format_ev a)
  by_cases h : Day a
  · obtain ⟨y, m, d, v, rfl, _⟩ := civ_in h
    obtain ⟨K2, e2⟩ := Ev_out (to_j0 v b t)
    refine ⟨K1 + K2, ?_⟩
    unfold Day at h
    simp only [arrearslaw2_CalendarTextOrder.f]
    rw [e1 _ (by omega), Option.bind_some, fmtR_num v, if_pos h.1]
    simp only []
    rw [decide_eq_true h.2, bne_self_eq_false]
    exact e2 _ (by omega)
  · refine ⟨K1 + 1, ?_⟩
    have out : ∀ k, arrearslaw2_CalendarTextOrder.j0 (k + 1) a b t ByteArray.empty false false = some true := fun k => by
      simp only [arrearslaw2_CalendarTextOrder.j0]
      rw [if_neg Bool.false_ne_true, if_neg Bool.false_ne_true, ByteArray.toList_eq]
      rfl
    simp only [arrearslaw2_CalendarTextOrder.f]
    rw [e1 _ (by omega), Option.bind_some, fmtR_out h]
    unfold Day at h
    by_cases c : a ≥ 1
    · rw [if_pos c]
      simp only []
      rw [decide_eq_false (by omega), bne_self_eq_false, out]
    · rw [if_neg c]
      simp only []
      rw [bne_self_eq_false, out]

end Go.Proofs.YtifkobejdldkbaaDoor.Pure
