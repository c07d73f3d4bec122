/- Dates as texts, as the document reads and tells them. Plain Lean over the printed functions. -/
import Derived.Test.YtifkobejdldkbaaDoorECText
import Derived.Lib.ItoaNum
import Derived.Test.YtifkobejdldkbaaDoorPEx13
import Derived.Test.YtifkobejdldkbaaDoorPEx15
namespace Go.Proofs.YtifkobejdldkbaaDoor.ECText2
open Go.RowKit Go.Proofs.YtifkobejdldkbaaDoor.PE Go.Proofs.YtifkobejdldkbaaDoorW.PrintWords Go.Proofs.YtifkobejdldkbaaDoorW.PrintLast Go.Proofs.YtifkobejdldkbaaDoorW.PrintMore Go.Proofs.YtifkobejdldkbaaDoor.EMB Go.Proofs.YtifkobejdldkbaaDoor.ECDate Go.Proofs.YtifkobejdldkbaaDoor.ECProg Go.Proofs.YtifkobejdldkbaaDoor.ECRef Go.Proofs.YtifkobejdldkbaaDoor.ECCivil Go.Proofs.YtifkobejdldkbaaDoor.ECDay Go.Proofs.YtifkobejdldkbaaDoor.ECText
set_option linter.unusedVariables false
set_option linter.unusedSectionVars false
set_option linter.unusedSimpArgs false

theorem byts_at_extract (s : ByteArray) {lo hi j : Nat} (h : lo + j < hi) : (byts (s.extract lo hi)).getD j 0 = (byts s).getD (lo + j) 0 := by
  rw [byts_extract, List.getD_eq_getElem?_getD, List.getD_eq_getElem?_getD, List.getElem?_take_of_lt (by omega), List.getElem?_drop]
theorem l0_shift (s : ByteArray) (lo hi : Nat) : ∀ (d j : Nat) (n : Int), lo + j + d ≤ hi → calendar_digits.l0 d (s.extract lo hi) n (j : Int) = calendar_digits.l0 d s n ((lo + j : Nat) : Int)
  | 0, _, _, _ => rfl
  | d + 1, j, n, h => by
    rw [l0_step, l0_step, byts_at_extract s (by omega), l0_shift s lo hi d (j + 1) _ (by omega)]
    rfl
theorem number_l0 (s : ByteArray) (hi : Nat) (hs : hi ≤ s.size) (hz : s.size ≤ 1000000) : ∀ (d i : Nat) (n : Int), i + d = hi → Ev (fun k => arrearsref2_number.l0 k s (hi : Int) n (i : Int)) (calendar_digits.l0 d s n (i : Int))
  | 0, i, n, h => by
    refine Ev_one fun k => ?_
    simp only [arrearsref2_number.l0]
    rw [if_neg (by omega)]
    rfl
  | d + 1, i, n, h => by
    rw [calendar_digits.l0]
    by_cases h1 : bt s (i : Int) < 48
    · rw [if_pos h1]
      refine Ev_one fun k => ?_
      simp only [arrearsref2_number.l0]
      rw [if_pos (by omega), if_pos (by omega), if_pos (by omega), if_pos h1]
    · rw [if_neg h1]
      by_cases h2 : bt s (i : Int) > 57
      · rw [if_pos h2]
        refine Ev_one fun k => ?_
        simp only [arrearsref2_number.l0]
        rw [if_pos (by omega), if_pos (by omega), if_pos (by omega), if_neg h1, if_pos h2]
      · rw [if_neg h2]
        refine Ev.step (fun k => ?_) (number_l0 s hi hs hz d (i + 1) _ (by omega))
        simp only [arrearsref2_number.l0]
        rw [if_pos (by omega), if_pos (by omega), if_pos (by omega), if_neg h1, if_neg h2, w64 (x := (i : Int) + 1) (by omega) (by omega)]
        rfl
theorem refnum {s : ByteArray} (hs : s.size = 10) (lo hi : Nat) (h : lo ≤ hi) (h10 : hi ≤ 10) {X : Int × Bool} (hX : calendar_digits.f (s.extract lo hi) = some X) : Ev (fun k => arrearsref2_number.f k s (lo : Int) (hi : Int)) X := by
  have hz : (s.extract lo hi).size = hi - lo := by rw [ByteArray.size_extract, hs]; omega
  unfold calendar_digits.f at hX
  rw [if_pos (by rw [hz]; omega), hz] at hX
  have e := l0_shift s lo hi (hi - lo) 0 0 (by omega)
  rw [show ((0 : Nat) : Int) = 0 from rfl] at e
  rw [e, Nat.add_zero] at hX
  have := number_l0 s hi (by omega) (by omega) (hi - lo) lo 0 (by omega)
  rw [Option.some.inj hX] at this
  exact this
theorem refParse_ev (s : ByteArray) : Ev (fun k => arrearsref2_ParseDate.f k s) (prs (byts s)) := by
  have out : ∀ k, arrearsref2_ParseDate.j0 (k + 1) s true = some (0, false) := fun k => by
    simp only [arrearsref2_ParseDate.j0]
    rw [if_pos True.intro]
  by_cases hz : s.size = 10
  · obtain ⟨a, b, c, d, e, f, g, i, j, k, hl⟩ := list_ten (l := byts s) (by rw [byts_len, hz])
    have h4 : bt s 4 = e := by rw [show (4 : Int) = ((4 : Nat) : Int) from rfl, bt_byts, hl]; rfl
    have h7 : bt s 7 = i := by rw [show (7 : Int) = ((7 : Nat) : Int) from rfl, bt_byts, hl]; rfl
    obtain ⟨K1, dy⟩ := Ev_out (refnum hz 0 4 (by omega) (by omega) (digits4 (s := s.extract 0 4) (a := a) (b := b) (c := c) (d := d) (by rw [byts_extract, hl]; rfl)))
    obtain ⟨K2, dm⟩ := Ev_out (refnum hz 5 7 (by omega) (by omega) (digits2 (s := s.extract 5 7) (a := f) (b := g) (by rw [byts_extract, hl]; rfl)))
    obtain ⟨K3, dd⟩ := Ev_out (refnum hz 8 10 (by omega) (by omega) (digits2 (s := s.extract 8 10) (a := j) (b := k) (by rw [byts_extract, hl]; rfl)))
    obtain ⟨K, en⟩ := Ev_out (refNumber_ev (1000 * (a - 48) + 100 * (b - 48) + 10 * (c - 48) + (d - 48)) (10 * (f - 48) + (g - 48)) (10 * (j - 48) + (k - 48)))
    rw [hl, prs_ten]
    refine ⟨K + K1 + K2 + K3 + 1, fun q hq => ?_⟩
    obtain ⟨q, rfl⟩ : ∃ j, q = j + 1 := ⟨q - 1, by omega⟩
    have ey := dy q (by omega)
    have em := dm q (by omega)
    have ed := dd q (by omega)
    rw [show ((0 : Nat) : Int) = 0 from rfl, show ((4 : Nat) : Int) = 4 from rfl] at ey
    rw [show ((5 : Nat) : Int) = 5 from rfl, show ((7 : Nat) : Int) = 7 from rfl] at em
    rw [show ((8 : Nat) : Int) = 8 from rfl, show ((10 : Nat) : Int) = 10 from rfl] at ed
    simp only [arrearsref2_ParseDate.f]
    rw [hz, if_pos (show ((10 : Nat) : Int) = 10 from rfl), if_pos (by decide), h4, h7]
    by_cases he : e = 45
    · rw [if_pos he, if_pos (by decide)]
      by_cases hi : i = 45
      · rw [hi, bne_self_eq_false]
        simp only [arrearsref2_ParseDate.j0]
        rw [if_neg Bool.false_ne_true, ey, Option.bind_some, em, Option.bind_some, ed, Option.bind_some]
        by_cases g1 : Dg a ∧ Dg b ∧ Dg c ∧ Dg d
        · rw [if_pos g1]
          by_cases g2 : Dg f ∧ Dg g
          · rw [if_pos g2]
            by_cases g3 : Dg j ∧ Dg k
            · rw [if_pos g3, if_pos (show Go.Proofs.YtifkobejdldkbaaDoor.ECText.Form a b c d e f g 45 j k from ⟨he, rfl, g1, g2, g3⟩)]
              simp only [if_true]
              rw [en q (by omega), Option.bind_some]
            · rw [if_neg g3, if_neg (show ¬ Go.Proofs.YtifkobejdldkbaaDoor.ECText.Form a b c d e f g 45 j k from fun z => g3 z.2.2.2.2)]
              simp only [if_true]
              rw [if_neg Bool.false_ne_true]
          · rw [if_neg g2, if_neg (show ¬ Go.Proofs.YtifkobejdldkbaaDoor.ECText.Form a b c d e f g 45 j k from fun z => g2 z.2.2.2.1)]
            simp only [if_true]
            rw [if_neg Bool.false_ne_true]
        · rw [if_neg g1, if_neg (show ¬ Go.Proofs.YtifkobejdldkbaaDoor.ECText.Form a b c d e f g 45 j k from fun z => g1 z.2.2.1)]
          rw [if_neg Bool.false_ne_true]
      · rw [show (i != (45 : Int)) = true from bne_iff_ne.2 hi, out, if_neg (fun z => hi z.2.1)]
    · rw [if_neg he, out, if_neg (fun z => he z.1)]
  · rw [prs_short (by rw [byts_len]; exact hz)]
    refine Ev_one fun k => ?_
    simp only [arrearsref2_ParseDate.f]
    rw [if_neg (by omega), out]

theorem byts_app (s t : ByteArray) : byts (s ++ t) = byts s ++ byts t := by
  unfold byts
  rw [ByteArray.data_append, Array.toList_append, List.map_append]
theorem pad_l0 (w : Nat) (hw : w ≤ 100) : ∀ (d : Nat) (s : ByteArray), s.size + d = w → ∃ r, byts r = List.replicate d 48 ++ byts s ∧ Ev (fun k => arrearsref2_padded.l0 k (w : Int) s) r
  | 0, s, h => ⟨s, rfl, Ev_one fun k => by
      simp only [arrearsref2_padded.l0]
      rw [if_neg (by omega)]⟩
  | d + 1, s, h => by
    have hz : ((⟨#[48]⟩ : ByteArray) ++ s).size = 1 + s.size := by rw [ByteArray.size_append]; rfl
    obtain ⟨r, h1, h2⟩ := pad_l0 w hw d ((⟨#[48]⟩ : ByteArray) ++ s) (by omega)
    refine ⟨r, ?_, Ev.step (fun k => ?_) h2⟩
    · rw [h1, byts_app, show byts (⟨#[48]⟩ : ByteArray) = [48] from rfl, ← List.append_assoc]
      congr 1
      rw [List.replicate_succ']
    · simp only [arrearsref2_padded.l0]
      rw [if_pos (by omega), if_pos (by omega)]
theorem byts_dec (l : List UInt8) : byts ⟨l.toArray⟩ = l.map fun b => (b.toNat : Int) := rfl
theorem dg_nat {u : Nat} (h : u < 208) : ((UInt8.ofNat (48 + u)).toNat : Int) = 48 + (u : Int) := by
  rw [UInt8.toNat_ofNat']
  omega
theorem padded_ev {n : Nat} {w d : Nat} (hw : w ≤ 100) {L : List Int} (hn : n ≤ 9999) (hL : byts ⟨(Lib.decDigits n).toArray⟩ = L) (hd : L.length + d = w) : ∃ r, byts r = List.replicate d 48 ++ L ∧ Ev (fun k => arrearsref2_padded.f k (n : Int) (w : Int)) r := by
  have hz : (⟨(Lib.decDigits n).toArray⟩ : ByteArray).size = L.length := by rw [← byts_len, hL]
  obtain ⟨r, h1, h2⟩ := pad_l0 w hw d ⟨(Lib.decDigits n).toArray⟩ (by omega)
  rw [hL] at h1
  obtain ⟨K, e⟩ := Ev_out h2
  refine ⟨r, h1, K, fun k hk => ?_⟩
  simp only [arrearsref2_padded.f, strconv_Itoa.f]
  rw [if_pos (by omega), Option.bind_some]
  have hi : Lib.itoa (n : Int) = Lib.decDigits n := by unfold Lib.itoa; rw [if_neg (by omega)]; simp
  rw [hi]
  exact e k hk
theorem dec1 {n : Nat} (h : n < 10) : byts ⟨(Lib.decDigits n).toArray⟩ = [48 + (n : Int)] := by
  rw [byts_dec, Lib.decDigits_one h, List.map_cons, dg_nat (by omega)]
  rfl
theorem dec2 {n : Nat} (h0 : 10 ≤ n) (h : n < 100) : byts ⟨(Lib.decDigits n).toArray⟩ = [48 + (n : Int) / 10, 48 + (n : Int) % 10] := by
  rw [byts_dec, Lib.decDigits_two (by omega) h, List.map_cons, List.map_cons, dg_nat (by omega), dg_nat (by omega)]
  rfl
theorem dec_step {n : Nat} (h0 : 10 ≤ n) : byts ⟨(Lib.decDigits n).toArray⟩ = byts ⟨(Lib.decDigits (n / 10)).toArray⟩ ++ [48 + (n : Int) % 10] := by
  rw [byts_dec, byts_dec, Lib.decDigits, dif_neg (by omega), List.map_append, List.map_cons, dg_nat (by omega)]
  rfl
theorem padded2 {x : Int} (h0 : 0 ≤ x) (h1 : x ≤ 99) : ∃ r, byts r = [48 + x / 10, 48 + x % 10] ∧ Ev (fun k => arrearsref2_padded.f k x 2) r := by
  obtain ⟨n, rfl⟩ := Int.eq_ofNat_of_zero_le h0
  by_cases c : n < 10
  · obtain ⟨r, e1, e2⟩ := padded_ev (w := 2) (d := 1) (by omega) (by omega) (dec1 c) rfl
    refine ⟨r, ?_, e2⟩
    rw [e1, show (48 : Int) + (n : Int) / 10 = 48 by omega, show (48 : Int) + (n : Int) % 10 = 48 + n by omega]
    rfl
  · obtain ⟨r, e1, e2⟩ := padded_ev (w := 2) (d := 0) (by omega) (by omega) (dec2 (n := n) (by omega) (by omega)) rfl
    exact ⟨r, e1, e2⟩
theorem padded4 {x : Int} (h0 : 0 ≤ x) (h1 : x ≤ 9999) : ∃ r, byts r = [48 + x / 1000, 48 + x / 100 % 10, 48 + x / 10 % 10, 48 + x % 10] ∧ Ev (fun k => arrearsref2_padded.f k x 4) r := by
  obtain ⟨n, rfl⟩ := Int.eq_ofNat_of_zero_le h0
  by_cases c1 : n < 10
  · obtain ⟨r, e1, e2⟩ := padded_ev (w := 4) (d := 3) (by omega) (by omega) (dec1 c1) rfl
    refine ⟨r, ?_, e2⟩
    rw [e1, show (48 : Int) + (n : Int) / 1000 = 48 by omega, show (48 : Int) + (n : Int) / 100 % 10 = 48 by omega, show (48 : Int) + (n : Int) / 10 % 10 = 48 by omega, show (48 : Int) + (n : Int) % 10 = 48 + n by omega]
    rfl
  · by_cases c2 : n < 100
    · obtain ⟨r, e1, e2⟩ := padded_ev (w := 4) (d := 2) (by omega) (by omega) (dec2 (n := n) (by omega) c2) rfl
      refine ⟨r, ?_, e2⟩
      rw [e1, show (48 : Int) + (n : Int) / 1000 = 48 by omega, show (48 : Int) + (n : Int) / 100 % 10 = 48 by omega, show (48 : Int) + (n : Int) / 10 % 10 = 48 + (n : Int) / 10 by omega]
      rfl
    · by_cases c3 : n < 1000
      · have hL : byts ⟨(Lib.decDigits n).toArray⟩ = [48 + (n : Int) / 100, 48 + (n : Int) / 10 % 10, 48 + (n : Int) % 10] := by
          rw [dec_step (by omega), dec2 (n := n / 10) (by omega) (by omega), show ((n / 10 : Nat) : Int) / 10 = (n : Int) / 100 by omega, show ((n / 10 : Nat) : Int) % 10 = (n : Int) / 10 % 10 by omega]
          rfl
        obtain ⟨r, e1, e2⟩ := padded_ev (w := 4) (d := 1) (by omega) (by omega) hL rfl
        refine ⟨r, ?_, e2⟩
        rw [e1, show (48 : Int) + (n : Int) / 1000 = 48 by omega, show (48 : Int) + (n : Int) / 100 % 10 = 48 + (n : Int) / 100 by omega]
        rfl
      · have hL : byts ⟨(Lib.decDigits n).toArray⟩ = [48 + (n : Int) / 1000, 48 + (n : Int) / 100 % 10, 48 + (n : Int) / 10 % 10, 48 + (n : Int) % 10] := by
          rw [dec_step (by omega), dec_step (n := n / 10) (by omega), dec2 (n := n / 10 / 10) (by omega) (by omega), show ((n / 10 / 10 : Nat) : Int) / 10 = (n : Int) / 1000 by omega, show ((n / 10 / 10 : Nat) : Int) % 10 = (n : Int) / 100 % 10 by omega, show ((n / 10 : Nat) : Int) % 10 = (n : Int) / 10 % 10 by omega]
          rfl
        obtain ⟨r, e1, e2⟩ := padded_ev (w := 4) (d := 0) (by omega) (by omega) hL rfl
        exact ⟨r, e1, e2⟩
theorem refFormat_ev (n : Int) : Ev (fun k => arrearsref2_FormatDate.f k n) (fmtR n) := by
  obtain ⟨K, e⟩ := Ev_out (refCiv_ev n)
  by_cases h : Day n
  · obtain ⟨y, m, d, v, rfl, hc⟩ := civ_in h
    have v' := v
    have := ml_bd y m
    unfold Valid at v'
    obtain ⟨a, ha, h1⟩ := padded4 (x := y) (by omega) (by omega)
    obtain ⟨b, hb, h2⟩ := padded2 (x := m) (by omega) (by omega)
    obtain ⟨c, hcc, h3⟩ := padded2 (x := d) (by omega) (by omega)
    obtain ⟨K1, e1⟩ := Ev_out h1
    obtain ⟨K2, e2⟩ := Ev_out h2
    obtain ⟨K3, e3⟩ := Ev_out h3
    have za : a.size = 4 := by rw [← byts_len, ha]; rfl
    have zb : b.size = 2 := by rw [← byts_len, hb]; rfl
    have zc : c.size = 2 := by rw [← byts_len, hcc]; rfl
    have z1 : (⟨#[45]⟩ : ByteArray).size = 1 := rfl
    have et : (((a ++ (⟨#[45]⟩ : ByteArray)) ++ b) ++ (⟨#[45]⟩ : ByteArray)) ++ c = strOfNums (tx y m d) := by
      apply byts_inj
      rw [byts_tx v, byts_app, byts_app, byts_app, byts_app, ha, hb, hcc, show byts (⟨#[45]⟩ : ByteArray) = [45] from rfl]
      rfl
    rw [fmtR_num v]
    refine ⟨K + K1 + K2 + K3, fun k hk => ?_⟩
    simp only [arrearsref2_FormatDate.f]
    rw [e k (by omega), hc, Option.bind_some]
    simp only [if_true]
    rw [e1 k (by omega), Option.bind_some, if_pos (by omega), e2 k (by omega), Option.bind_some, if_pos (by rw [ByteArray.size_append]; omega), if_pos (by rw [ByteArray.size_append, ByteArray.size_append]; omega), e3 k (by omega), Option.bind_some,
      if_pos (by rw [ByteArray.size_append, ByteArray.size_append, ByteArray.size_append]; omega), et]
  · rw [fmtR_out h]
    refine ⟨K, fun k hk => ?_⟩
    simp only [arrearsref2_FormatDate.f]
    rw [e k hk, civ_out h]
    rfl
end Go.Proofs.YtifkobejdldkbaaDoor.ECText2
