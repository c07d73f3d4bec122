/- The texts of amounts: what Format tells, what the document's Format tells. Plain Lean over the printed functions. -/
import Derived.Test.YtjhodgcjkobpoaaGreatDoorYMPars
import Derived.Test.YtjhodgcjkobpoaaGreatDoorYMByt
import Derived.Test.YtjhodgcjkobpoaaGreatDoorYPAx3
import Derived.Test.YtjhodgcjkobpoaaGreatDoorYPAx4
import Derived.Test.YtjhodgcjkobpoaaGreatDoorYPAx10
import Derived.Test.YtjhodgcjkobpoaaGreatDoorYPAx11
import Derived.Test.YtjhodgcjkobpoaaGreatDoorYPAx9
namespace Go.Proofs.YtjhodgcjkobpoaaGreatDoor.FAmt
open Go.RowKit Go.Proofs.YtjhodgcjkobpoaaGreatDoor.PA Go.Proofs.YtjhodgcjkobpoaaGreatDoorW.PrintWords Go.Proofs.YtjhodgcjkobpoaaGreatDoorW.PrintLast Go.Proofs.YtjhodgcjkobpoaaGreatDoorW.PrintMore Go.Proofs.YtjhodgcjkobpoaaGreatDoor.MB Go.Proofs.YtjhodgcjkobpoaaGreatDoor.MDig Go.Proofs.YtjhodgcjkobpoaaGreatDoor.MPars Go.Proofs.YtjhodgcjkobpoaaGreatDoor.MByt
set_option linter.unusedVariables false
set_option linter.unusedSectionVars false
set_option linter.unusedSimpArgs false
theorem fl_bytes (x : Int) : ∀ c ∈ fl x, 0 ≤ c ∧ c ≤ 255 := by
  intro c hc
  unfold fl at hc
  rcases List.mem_append.1 hc with hc | hc
  · split at hc
    · simp only [List.mem_cons, List.not_mem_nil, or_false] at hc; omega
    · cases hc
  · unfold ul at hc
    rcases List.mem_append.1 hc with hc | hc
    · have := dd_digits _ c hc
      unfold Dgt at this
      omega
    · simp only [List.mem_cons, List.not_mem_nil, or_false] at hc
      omega
theorem byts_fl (x : Int) : byts (strOfNums (fl x)) = fl x := byts_of (fl_bytes x)
theorem format_eq {x : Int} (hx : I64 x) : money_Format.f x = some (strOfNums (fl x)) := by
  unfold I64 at hx
  have hm : money_magnitude.f x = some ((x.natAbs : Nat) : Int) := by
    unfold money_magnitude.f
    by_cases c : x < 0
    · rw [if_pos c, u64e, u64e]
      congr 1
      omega
    · rw [if_neg c, u64i (by omega) (by omega)]
      congr 1
      omega
  unfold money_Format.f
  rw [hm, Option.bind_some, if_pos (by omega)]
  unfold fl ul
  rw [List.append_assoc, show ((x.natAbs : Nat) : Int).toNat = x.natAbs by omega, show (48 : Int) + ((x.natAbs : Nat) : Int) % 10 = 48 + ((x.natAbs : Nat) : Int) % 100 % 10 by omega]
  rfl
theorem text_inj {s t : ByteArray} (h : s.toList = t.toList) : s = t := by
  rw [ByteArray.toList_eq, ByteArray.toList_eq] at h
  exact ByteArray.ext (Array.toList_inj.1 h)
theorem size_eq (x : Int) (h : I64 x) : arrearsref1_size.f x = some (x.natAbs : Int) := by
  unfold I64 at h
  unfold arrearsref1_size.f
  by_cases c : x < 0
  · rw [if_pos c, w64 (x := x + 1) (by omega) (by omega), w64 (by omega) (by omega), u64i (x := -(x + 1)) (by omega) (by omega), u64i (by omega) (by omega)]
    congr 1
    omega
  · rw [if_neg c, u64i (by omega) (by omega)]
    congr 1
    omega

theorem byts_dd (n : Nat) : byts ⟨(Lib.decDigits n).toArray⟩ = dd n := rfl
theorem size_dd (n : Nat) : (⟨(Lib.decDigits n).toArray⟩ : ByteArray).size = (dd n).length := by rw [← byts_len, byts_dd]
theorem uint_eq {a : Int} {n : Nat} (h : a = n) (hn : n < 18446744073709551616) : strconv_FormatUint.f a 10 = some ⟨(Lib.decDigits n).toArray⟩ := by
  subst h
  unfold strconv_FormatUint.f
  rw [if_pos ⟨by omega, by omega, rfl⟩, Int.toNat_natCast]
theorem bt_one (c : UInt8) : byts ⟨#[c]⟩ = [(c.toNat : Int)] := rfl
theorem refFormat_eq {x : Int} (hx : I64 x) : arrearsref1_Format.f x = some (strOfNums (fl x)) := by
  have hs := size_eq x hx
  unfold I64 at hx
  obtain ⟨m, hm⟩ : ∃ m, m = x.natAbs := ⟨_, rfl⟩
  rw [← hm] at hs
  have l1 := dd_len (n := m / 100) (d := 20) (by omega) (by omega)
  have l2 := dd_len (n := m % 100 / 10) (d := 20) (by omega) (by omega)
  have l3 := dd_len (n := m % 10) (d := 20) (by omega) (by omega)
  have t1 : IntKind.u64.wrap (Int.tdiv (m : Int) 100) = ((m / 100 : Nat) : Int) := by rw [Int.tdiv_eq_ediv_of_nonneg (by omega), u64i (by omega) (by omega)]; omega
  have t2 : Int.tmod (m : Int) 100 = (m : Int) % 100 := Int.tmod_eq_emod_of_nonneg (by omega)
  have t3 : IntKind.u64.wrap (Int.tdiv ((m : Int) % 100) 10) = ((m % 100 / 10 : Nat) : Int) := by rw [Int.tdiv_eq_ediv_of_nonneg (by omega), u64i (by omega) (by omega)]; omega
  have t4 : Int.tmod (m : Int) 10 = ((m % 10 : Nat) : Int) := by rw [Int.tmod_eq_emod_of_nonneg (by omega)]; omega
  have one : (⟨#[46]⟩ : ByteArray).size = 1 := rfl
  unfold arrearsref1_Format.f
  rw [hs, Option.bind_some, t1, t2, t3, t4, uint_eq rfl (by omega), uint_eq rfl (by omega), uint_eq rfl (by omega)]
  simp only [Option.bind_some, ByteArray.size_append, size_dd, one]
  rw [if_pos (by omega), if_pos (by omega), if_pos (by omega)]
  have body : byts (((⟨(Lib.decDigits (m / 100)).toArray⟩ ++ (⟨#[46]⟩ : ByteArray)) ++ ⟨(Lib.decDigits (m % 100 / 10)).toArray⟩) ++ ⟨(Lib.decDigits (m % 10)).toArray⟩) = ul m := by
    rw [byts_app, byts_app, byts_app, byts_dd, byts_dd, byts_dd, bt_one, dd_small (n := m % 100 / 10) (by omega), dd_small (n := m % 10) (by omega)]
    unfold ul
    rw [List.append_assoc, List.append_assoc]
    congr 1
    show [46, 48 + ((m % 100 / 10 : Nat) : Int), 48 + ((m % 10 : Nat) : Int)] = _
    congr 2
    congr 1
    omega
  by_cases c : x < 0
  · rw [if_pos c, if_pos (by omega)]
    congr 1
    apply byts_inj
    rw [byts_app, body, byts_fl, bt_one]
    unfold fl
    rw [if_pos c, hm]
    rfl
  · rw [if_neg c]
    congr 1
    apply byts_inj
    rw [body, byts_fl]
    unfold fl
    rw [if_neg c, hm]
    rfl
theorem fl_len {x : Int} (hx : I64 x) : (fl x).length ≤ 21 := by
  unfold I64 at hx
  have h1 := dd_len (n := x.natAbs / 100) (d := 17) (by omega) (by omega)
  unfold fl
  rw [List.length_append, ul_len]
  split <;> simp <;> omega
end Go.Proofs.YtjhodgcjkobpoaaGreatDoor.FAmt
