/- The reference's numerals and replies as texts, and the memory behind a reply. Plain Lean, no program in sight but the printed plain functions. -/
import Derived.Test.YtpglakfafanhoaaDoorMB
import Derived.Test.YtpglakfafanhoaaDoorPAx2
import Derived.Test.YtpglakfafanhoaaDoorPAx3
namespace Go.Proofs.YtpglakfafanhoaaDoor.SNum
open Go.RowKit Go.Proofs.YtpglakfafanhoaaDoorW.PrintWords Go.Proofs.YtpglakfafanhoaaDoorW.PrintLast Go.Proofs.YtpglakfafanhoaaDoorW.PrintMore Go.Proofs.YtpglakfafanhoaaDoor.PA Go.Proofs.YtpglakfafanhoaaDoor.MB
set_option linter.unusedVariables false
set_option linter.unusedSimpArgs false

theorem ba {s : ByteArray} {l : List UInt8} (h : s.data.toList = l) : s = ⟨l.toArray⟩ := by
  subst h
  cases s
  rfl
theorem ba_size (l : List UInt8) : (⟨l.toArray⟩ : ByteArray).size = l.length := by
  show l.toArray.size = l.length
  exact List.size_toArray ..
theorem ba_len (s : ByteArray) : s.data.toList.length = s.size := by
  rw [Array.length_toList]; rfl
theorem ba_app (s t : ByteArray) : (s ++ t).data.toList = s.data.toList ++ t.data.toList := by
  rw [ByteArray.data_append, Array.toList_append]
/-- The digits of a number; none for 0. -/
def digs (n : Nat) : List UInt8 := if n = 0 then [] else Lib.decDigits n
theorem digs_step (n : Nat) (h : n ≠ 0) : digs n = digs (n / 10) ++ [UInt8.ofNat (48 + n % 10)] := by
  unfold digs
  rw [if_neg h, Lib.decDigits]
  by_cases h1 : n < 10
  · rw [dif_pos h1, if_pos (by omega), Nat.mod_eq_of_lt h1]; rfl
  · rw [dif_neg h1, if_neg (by omega)]
theorem digs_len : ∀ (d n : Nat), n < 10 ^ d → (digs n).length ≤ d
  | 0, n, h => by
    have : n = 0 := by simpa using h
    subst this
    simp [digs]
  | d + 1, n, h => by
    by_cases h0 : n = 0
    · subst h0; simp [digs]
    · rw [digs_step n h0, List.length_append]
      have h2 : n / 10 < 10 ^ d := by
        rw [Nat.pow_succ] at h
        generalize 10 ^ d = q at h ⊢
        omega
      have := digs_len d (n / 10) h2
      simp only [List.length_cons, List.length_nil]
      omega
def sgn (x : Int) : List UInt8 := if x < 0 then [45] else []
theorem itoa_digs (x : Int) (h : x ≠ 0) : Lib.itoa x = sgn x ++ digs x.natAbs := by
  have hn : ¬ x.natAbs = 0 := by omega
  unfold Lib.itoa sgn digs
  by_cases h1 : x < 0
  · rw [if_pos h1, if_pos h1, if_neg hn]; rfl
  · rw [if_neg h1, if_neg h1, if_neg hn, show x.toNat = x.natAbs by omega]; rfl
theorem decimal_loop (x0 : Int) : ∀ (d : Nat) (x4 : Int) (x3 : ByteArray) (k : Nat), x4.natAbs < 10 ^ d → d ≤ 19 → -9223372036854775808 ≤ x4 → x4 ≤ 9223372036854775807 → x3.size + d ≤ 100 → d < k →
    arrearsref18_decimal.l0 k x0 x3 x4 = some ⟨(sgn x0 ++ digs x4.natAbs ++ x3.data.toList).toArray⟩ := by
  intro d
  induction d with
  | zero =>
    intro x4 x3 k h hd h0 h1 hs hk
    obtain ⟨k, rfl⟩ : ∃ m, k = m + 1 := ⟨k - 1, by omega⟩
    have : x4 = 0 := by
      have : x4.natAbs = 0 := by simpa using h
      omega
    subst this
    simp only [arrearsref18_decimal.l0]
    rw [if_pos True.intro]
    unfold sgn
    by_cases h2 : x0 < 0
    · rw [if_pos h2, if_pos h2, if_pos (by omega)]
      exact congrArg some (ba (by rw [ba_app]; simp [digs]))
    · rw [if_neg h2, if_neg h2]
      exact congrArg some (ba (by simp [digs]))
  | succ d ih =>
    intro x4 x3 k h hd h0 h1 hs hk
    obtain ⟨k, rfl⟩ : ∃ m, k = m + 1 := ⟨k - 1, by omega⟩
    by_cases hz : x4 = 0
    · subst hz
      simp only [arrearsref18_decimal.l0]
      rw [if_pos True.intro]
      unfold sgn
      by_cases h2 : x0 < 0
      · rw [if_pos h2, if_pos h2, if_pos (by omega)]
        exact congrArg some (ba (by rw [ba_app]; simp [digs]))
      · rw [if_neg h2, if_neg h2]
        exact congrArg some (ba (by simp [digs]))
    · have hq : (Int.tdiv x4 10).natAbs = x4.natAbs / 10 := by rw [Int.natAbs_tdiv]; rfl
      have hlt : (Int.tdiv x4 10).natAbs < 10 ^ d := by
        rw [hq]
        rw [Nat.pow_succ] at h
        generalize 10 ^ d = q at h ⊢
        omega
      have hw : wrap64 (Int.tdiv x4 10) = Int.tdiv x4 10 := w64 (by omega) (by omega)
      have hdg : ∀ c : Int, c = ((48 + x4.natAbs % 10 : Nat) : Int) → (sgn x0 ++ digs (Int.tdiv x4 10).natAbs ++ (strOfNums [c % 256] ++ x3).data.toList) = sgn x0 ++ digs x4.natAbs ++ x3.data.toList := by
        intro c hc
        rw [hq, digs_step x4.natAbs (by omega), ba_app, strOfNums_data, hc]
        simp only [List.map_cons, List.map_nil, List.append_assoc, List.cons_append, List.nil_append]
        congr 3
        have : (((48 + x4.natAbs % 10 : Nat) : Int) % 256).toNat = 48 + x4.natAbs % 10 := by omega
        rw [this]
      have hsz : ∀ c : Int, (strOfNums [c]).size = 1 := fun c => by rw [strOfNums_size]; rfl
      have hsz2 : ∀ c : Int, (strOfNums [c] ++ x3).size + d ≤ 100 := fun c => by rw [ByteArray.size_append, hsz]; omega
      simp only [arrearsref18_decimal.l0]
      rw [if_neg hz]
      have hmod : (Int.tmod x4 10) = x4 - 10 * Int.tdiv x4 10 := by have := Int.mul_tdiv_add_tmod x4 10; omega
      have hm0 : (Int.tmod x4 10).natAbs = x4.natAbs % 10 := by rw [Int.natAbs_tmod]; rfl
      by_cases hn : Int.tmod x4 10 < 0
      · rw [if_pos hn, Option.bind_some, if_pos (by rw [hsz]; omega), hw, ih _ _ k hlt (by omega) (by omega) (by omega) (hsz2 _) (by omega)]
        rw [hdg]
        have h5 := Int.tmod_lt_of_pos x4 (show (0 : Int) < 10 by omega)
        rw [w64 (x := -(Int.tmod x4 10)) (by omega) (by omega), w64 (by omega) (by omega)]
        omega
      · have h5 := Int.tmod_lt_of_pos x4 (show (0 : Int) < 10 by omega)
        rw [if_neg hn, Option.bind_some, if_pos (by rw [hsz]; omega), hw, ih _ _ k hlt (by omega) (by omega) (by omega) (hsz2 _) (by omega)]
        rw [hdg]
        rw [w64 (by omega) (by omega)]
        omega
theorem decimal_ev (x : Int) (h0 : -9223372036854775808 ≤ x) (h1 : x ≤ 9223372036854775807) (k : Nat) (hk : 20 ≤ k) : arrearsref18_decimal.f k x = some ⟨(Lib.itoa x).toArray⟩ := by
  unfold arrearsref18_decimal.f
  by_cases hz : x = 0
  · subst hz
    rw [if_pos rfl]
    decide +kernel
  · rw [if_neg hz, decimal_loop x 19 x ⟨#[]⟩ k (by omega) (by omega) h0 h1 (by decide) (by omega), itoa_digs x hz]
    simp
theorem show_loop (a0 : Int) (l : List Int) (hl : ∀ x ∈ l, -9223372036854775808 ≤ x ∧ x ≤ 9223372036854775807) (hn : l.length ≤ 300000) : ∀ (d i : Nat) (s : ByteArray) (k : Nat), i + d = l.length → s.size ≤ 100 + 21 * i → d + 20 < k →
    arrearsref18_Show.l0 k s i a0 l = some ⟨(s.data.toList ++ tailB (l.drop i)).toArray⟩ := by
  intro d
  induction d with
  | zero =>
    intro i s k hi hs hk
    obtain ⟨k, rfl⟩ : ∃ m, k = m + 1 := ⟨k - 1, by omega⟩
    simp only [arrearsref18_Show.l0]
    rw [if_neg (by omega), List.drop_of_length_le (by omega)]
    exact congrArg some (ba (by simp [tailB]))
  | succ d ih =>
    intro i s k hi hs hk
    obtain ⟨k, rfl⟩ : ∃ m, k = m + 1 := ⟨k - 1, by omega⟩
    have hlt : i < l.length := by omega
    have hm : rd l (i : Int) ∈ l := rd_in (by omega) (by omega)
    have hb := hl _ hm
    have hsz := itoa_len (rd l (i : Int)) hb.1 hb.2
    have h32 : (⟨#[32]⟩ : ByteArray).size = 1 := rfl
    have hi2 := ba_size (Lib.itoa (rd l (i : Int)))
    simp only [arrearsref18_Show.l0]
    rw [if_pos (by omega), if_pos (by omega), if_pos (by omega), decimal_ev _ hb.1 hb.2 k (by omega), Option.bind_some, if_pos (by rw [ByteArray.size_append, hi2, h32]; omega), wi i (by omega),
      ih (i + 1) _ k (by omega) (by rw [ByteArray.size_append, ByteArray.size_append, hi2, h32]; omega) (by omega)]
    congr 3
    have hd : l.drop i = rd l (i : Int) :: l.drop (i + 1) := by
      rw [List.drop_eq_getElem_cons hlt]
      congr 1
      unfold rd
      rw [Int.toNat_natCast, List.getD_eq_getElem?_getD, List.getElem?_eq_getElem hlt]
      rfl
    rw [hd, ba_app, ba_app]
    simp [tailB]
/-- A reply's text. -/
def textOf (a0 : Int) (l : List Int) : ByteArray := ⟨(headB a0 ++ tailB l).toArray⟩
def Okr (a0 : Int) (l : List Int) : Prop := (-9223372036854775808 ≤ a0 ∧ a0 ≤ 9223372036854775807) ∧ (∀ x ∈ l, -9223372036854775808 ≤ x ∧ x ≤ 9223372036854775807) ∧ l.length ≤ 300000
theorem show_f {a0 : Int} {l : List Int} (h : Okr a0 l) : script_Show.f a0 l = some (textOf a0 l) := if_pos h
theorem show_ref {a0 : Int} {l : List Int} (h : Okr a0 l) : ∃ k, arrearsref18_Show.f k a0 l = some (textOf a0 l) := by
  refine ⟨l.length + 100, ?_⟩
  obtain ⟨ha, hl, hn⟩ := h
  unfold arrearsref18_Show.f textOf headB
  by_cases hz : a0 = 0
  · rw [if_pos hz, if_pos hz, show l.length + 100 = (l.length + 99) + 1 from rfl]
    simp only [arrearsref18_Show.j0]
    rw [show ((0 : Int)) = ((0 : Nat) : Int) from rfl, show_loop a0 l hl hn l.length 0 _ _ (by omega) (by decide) (by omega)]
    rfl
  · rw [if_neg hz, if_neg hz, decimal_ev a0 ha.1 ha.2 _ (by omega), Option.bind_some]
    have hsz := itoa_len a0 ha.1 ha.2
    have h6 : (⟨#[101, 114, 114, 111, 114, 32]⟩ : ByteArray).size = 6 := rfl
    have hi2 := ba_size (Lib.itoa a0)
    rw [if_pos (by rw [hi2]; omega), show l.length + 100 = (l.length + 99) + 1 from rfl]
    simp only [arrearsref18_Show.j0]
    rw [show ((0 : Int)) = ((0 : Nat) : Int) from rfl, show_loop a0 l hl hn l.length 0 _ _ (by omega) (by rw [ByteArray.size_append, hi2, h6]; omega) (by omega)]
    congr 3
theorem left_loop (a0 : Int) (l : List Int) (hn : l.length ≤ 300000) : ∀ (d i : Nat) (k : Nat), i + d = l.length → d < k → arrearslaw18_left.l0 k (l ++ [-77]) i a0 l = some true := by
  intro d
  induction d with
  | zero =>
    intro i k hi hk
    obtain ⟨k, rfl⟩ : ∃ m, k = m + 1 := ⟨k - 1, by omega⟩
    simp only [arrearslaw18_left.l0]
    rw [if_neg (by omega)]
  | succ d ih =>
    intro i k hi hk
    obtain ⟨k, rfl⟩ : ∃ m, k = m + 1 := ⟨k - 1, by omega⟩
    have he : rd (l ++ [-77]) (i : Int) = rd l (i : Int) := by
      unfold rd
      rw [Int.toNat_natCast, List.getD_eq_getElem?_getD, List.getD_eq_getElem?_getD, List.getElem?_append_left (by omega)]
    simp only [arrearslaw18_left.l0]
    rw [if_pos (by omega), if_pos (by omega), if_pos (by rw [List.length_append]; omega), if_pos he, wi i (by omega), ih (i + 1) k (by omega) (by omega)]
theorem left_true (a0 : Int) (l : List Int) (hn : l.length ≤ 300000) : ∃ k, arrearslaw18_left.f k (l ++ [-77]) a0 l = some true := by
  refine ⟨l.length + 2, ?_⟩
  have h1 : ((l ++ [(-77 : Int)]).length : Int) = wrap64 ((l.length : Int) + 1) := by rw [wi _ (by omega), List.length_append]; rfl
  have h2 : rd (l ++ [(-77 : Int)]) (l.length : Int) = -77 := by
    unfold rd
    rw [Int.toNat_natCast, List.getD_eq_getElem?_getD, List.getElem?_append_right (Nat.le_refl _)]
    simp
  unfold arrearslaw18_left.f
  rw [if_pos h1, if_pos (by omega), if_pos (by rw [List.length_append]; simp only [List.length_cons, List.length_nil]; omega), h2]
  simp only [arrearslaw18_left.j0]
  rw [if_neg (by decide), show ((0 : Int)) = ((0 : Nat) : Int) from rfl, left_loop a0 l hn l.length 0 _ (by omega) (by omega)]
end Go.Proofs.YtpglakfafanhoaaDoor.SNum
