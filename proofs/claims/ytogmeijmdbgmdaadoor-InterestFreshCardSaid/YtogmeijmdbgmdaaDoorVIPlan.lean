/- A plan's rows as a plain function on numbers: the program's Plan and the document's come to it. Plain Lean over the printed functions. -/
import Derived.Test.YtogmeijmdbgmdaaDoorVILevel
import Derived.Test.YtogmeijmdbgmdaaDoorVCAdj
import Derived.Test.YtogmeijmdbgmdaaDoorVCMonth
import Derived.Test.YtogmeijmdbgmdaaDoorVPFx8
import Derived.Test.YtogmeijmdbgmdaaDoorVPFx4
namespace Go.Proofs.YtogmeijmdbgmdaaDoor.IPlan
open Go.RowKit Go.Proofs.YtogmeijmdbgmdaaDoor.PF Go.Proofs.YtogmeijmdbgmdaaDoorW.PrintWords Go.Proofs.YtogmeijmdbgmdaaDoorW.PrintLast Go.Proofs.YtogmeijmdbgmdaaDoorW.PrintMore Go.Proofs.YtogmeijmdbgmdaaDoor.MB Go.Proofs.YtogmeijmdbgmdaaDoor.MMulD Go.Proofs.YtogmeijmdbgmdaaDoor.IMonth Go.Proofs.YtogmeijmdbgmdaaDoor.ILevel Go.Proofs.YtogmeijmdbgmdaaDoor.CDate Go.Proofs.YtogmeijmdbgmdaaDoor.CProg Go.Proofs.YtogmeijmdbgmdaaDoor.CRef Go.Proofs.YtogmeijmdbgmdaaDoor.CCivil Go.Proofs.YtogmeijmdbgmdaaDoor.CMonth Go.Proofs.YtogmeijmdbgmdaaDoor.CAdj
set_option linter.unusedVariables false
set_option linter.unusedSectionVars false
set_option linter.unusedSimpArgs false

/-- The principal part of the instalment of month m. -/
def partV (kind pr cnt P m bal i : Int) : Int := if kind = 0 then mn (P - i) bal else if kind = 1 then (if m ≤ pr % cnt then pr / cnt + 1 else pr / cnt) else if m < cnt then 0 else bal
theorem partV_any {kind : Int} (h : kind ≠ 0) (pr cnt P Q : Int) : partV kind pr cnt P = partV kind pr cnt Q := by
  funext m bal i
  unfold partV
  rw [if_neg h, if_neg h]
/-- The due day of month m. -/
noncomputable def dueV (start anchor rule : Int) (hol : List Int) (m : Int) : Int × Bool := if (am start m anchor).2 = true then adj (am start m anchor).1 hol rule else (0, false)
/-- The rows of the months from m on, d of them. -/
def rows (pf : Int → Int → Int → Int) (due : Int → Int × Bool) (rate : Int) : Nat → Int → Int → List S41 → List S41 × Bool
  | 0, _, _, acc => (acc, true)
  | d + 1, m, bal, acc => if 0 < bal then (if month bal rate = 0 ∧ pf m bal (month bal rate) = 0 then rows pf due rate d (m + 1) bal acc else if (due m).2 = true then rows pf due rate d (m + 1) (bal - pf m bal (month bal rate)) (acc ++ [⟨(due m).1, month bal rate, pf m bal (month bal rate), false⟩]) else ([], false)) else (acc, true)
def Inv (kind pr rate cnt P : Int) (d : Nat) (m bal : Int) : Prop :=
  0 ≤ bal ∧ bal ≤ pr ∧ 1 ≤ m ∧ m + d = cnt + 1 ∧ (0 < bal → (kind = 0 → pay P rate d bal = true) ∧ (kind = 1 → bal = pr - (m - 1) * (pr / cnt) - mn (m - 1) (pr % cnt)))
theorem step {kind pr rate cnt P : Int} {d : Nat} {m bal : Int} (hr : 0 ≤ rate) (hr1 : rate ≤ 100000) (h : Inv kind pr rate cnt P (d + 1) m bal) (hb : 0 < bal) :
    0 ≤ partV kind pr cnt P m bal (month bal rate) ∧ partV kind pr cnt P m bal (month bal rate) ≤ bal ∧ Inv kind pr rate cnt P d (m + 1) (bal - partV kind pr cnt P m bal (month bal rate)) ∧ (kind = 0 → month bal rate < P ∧ 0 < partV kind pr cnt P m bal (month bal rate)) := by
  obtain ⟨h0, h1, h2, h3, h4⟩ := h
  obtain ⟨hp, hq⟩ := h4 hb
  have hm := month_bd bal rate (by omega) hr hr1
  generalize hi : month bal rate = i at hm ⊢
  unfold Inv partV
  by_cases k0 : kind = 0
  · rw [if_pos k0]
    have h5 := hp k0
    unfold pay at h5
    rw [hi] at h5
    have c1 : ¬ P ≤ i := fun c => by rw [if_pos c] at h5; cases h5
    rw [if_neg c1] at h5
    unfold mn
    by_cases c2 : bal ≤ P - i
    · have e : (if bal < P - i then bal else P - i) = bal := by split <;> omega
      rw [e]
      exact ⟨by omega, by omega, ⟨by omega, by omega, by omega, by omega, fun hc => by omega⟩, fun _ => by omega⟩
    · rw [if_neg c2] at h5
      rw [if_neg (by omega)]
      exact ⟨by omega, by omega, ⟨by omega, by omega, by omega, by omega, fun hc => ⟨fun _ => h5, fun k1 => by omega⟩⟩, fun _ => by omega⟩
  · rw [if_neg k0]
    by_cases k1 : kind = 1
    · rw [if_pos k1]
      have hb1 := hq k1
      have hd : pr = cnt * (pr / cnt) + pr % cnt := (Int.mul_ediv_add_emod pr cnt).symm
      have hc : 0 < cnt := by omega
      have hr0 := Int.emod_nonneg pr (show cnt ≠ 0 by omega)
      have hrl := Int.emod_lt_of_pos pr hc
      have hq0 : 0 ≤ pr / cnt := Int.ediv_nonneg (by omega) (by omega)
      generalize pr / cnt = q at *
      generalize pr % cnt = s at *
      have e1 : (m - 1) * q = m * q - q := by rw [Int.sub_mul, Int.one_mul]
      have e2 : cnt * q = m * q + d * q := by rw [← Int.add_mul]; congr 1; omega
      have e3 : 0 ≤ (d : Int) * q := Int.mul_nonneg (by omega) hq0
      have e4 : (m + 1 - 1) * q = m * q := by congr 1; omega
      rw [e1] at hb1
      rw [e2] at hd
      rw [e4]
      have e5 : 0 ≤ (m - 1) * q := Int.mul_nonneg (by omega) hq0
      rw [e1] at e5
      generalize m * q = X at *
      generalize (d : Int) * q = Y at *
      unfold mn at hb1 ⊢
      by_cases c : m ≤ s
      · rw [if_pos c]
        rw [if_neg (by omega)] at hb1
        rw [if_neg (by omega)]
        exact ⟨by omega, by omega, ⟨by omega, by omega, by omega, by omega, fun _ => ⟨fun h => absurd h k0, fun _ => by omega⟩⟩, fun h => absurd h k0⟩
      · rw [if_neg c]
        have e6 : (if s < m - 1 then s else m - 1) = s := by split <;> omega
        rw [e6] at hb1
        rw [if_pos (by omega)]
        exact ⟨by omega, by omega, ⟨by omega, by omega, by omega, by omega, fun _ => ⟨fun h => absurd h k0, fun _ => by omega⟩⟩, fun h => absurd h k0⟩
    · rw [if_neg k1]
      by_cases c : m < cnt
      · rw [if_pos c]
        exact ⟨by omega, by omega, ⟨by omega, by omega, by omega, by omega, fun _ => ⟨fun h => absurd h k0, fun h => absurd h k1⟩⟩, fun h => absurd h k0⟩
      · rw [if_neg c]
        exact ⟨by omega, by omega, ⟨by omega, by omega, by omega, by omega, fun hc => by omega⟩, fun h => absurd h k0⟩
/-- Terms that may be. -/
def VT (kind pr rate cnt start rule : Int) : Prop := (0 ≤ kind ∧ kind ≤ 2) ∧ (1 ≤ pr ∧ pr ≤ 10000000000000) ∧ (0 ≤ rate ∧ rate ≤ 100000) ∧ (1 ≤ cnt ∧ cnt ≤ 120) ∧ (1 ≤ start ∧ start ≤ 3652059) ∧ (0 ≤ rule ∧ rule ≤ 3)
instance (kind pr rate cnt start rule : Int) : Decidable (VT kind pr rate cnt start rule) := by unfold VT; infer_instance
theorem itf {c : Prop} [Decidable c] {x : Option Bool} (h : c → x = some false) : (if c then x else some false) = some false := by
  by_cases hc : c
  · rw [if_pos hc]; exact h hc
  · rw [if_neg hc]
theorem valid_eq (kind pr rate cnt start rule : Int) : interest_valid.f kind pr rate cnt start rule = some (decide (VT kind pr rate cnt start rule)) := by
  unfold interest_valid.f
  rw [isRate_eq]
  by_cases h : VT kind pr rate cnt start rule
  · rw [decide_eq_true h]
    obtain ⟨⟨k0, k1⟩, ⟨p0, p1⟩, ⟨r0, r1⟩, ⟨c0, c1⟩, ⟨s0, s1⟩, u0, u1⟩ := h
    rw [if_pos k0, if_pos k1, if_pos p0, if_pos p1, decide_eq_true ⟨r0, r1⟩, Option.bind_some, if_pos rfl, if_pos c0, if_pos c1, if_pos s0, if_pos s1, if_pos u0, decide_eq_true u1]
  · rw [decide_eq_false h]
    refine itf (fun k0 => itf (fun k1 => itf (fun p0 => itf (fun p1 => ?_))))
    rw [Option.bind_some]
    by_cases hr : 0 ≤ rate ∧ rate ≤ 100000
    · rw [decide_eq_true hr, if_pos rfl]
      refine itf (fun c0 => itf (fun c1 => itf (fun s0 => itf (fun s1 => itf (fun u0 => ?_)))))
      rw [decide_eq_false (fun u1 => h ⟨⟨k0, k1⟩, ⟨p0, p1⟩, hr, ⟨c0, c1⟩, ⟨s0, s1⟩, u0, u1⟩)]
    · rw [decide_eq_false hr, if_neg (by simp)]
theorem part_eq {kind pr rate cnt P : Int} {d : Nat} {m bal : Int} (hr : 0 ≤ rate) (hr1 : rate ≤ 100000) (hpr : 1 ≤ pr ∧ pr ≤ 10000000000000) (hP : I64 P) (h : Inv kind pr rate cnt P (d + 1) m bal) (hb : 0 < bal) :
    interest_Plan.part kind pr cnt P m bal (month bal rate) = some (partV kind pr cnt P m bal (month bal rate)) := by
  have hs := step hr hr1 h hb
  obtain ⟨h0, h1, h2, h3, h4⟩ := h
  have hm := month_bd bal rate (by omega) hr hr1
  unfold I64 at hP
  unfold interest_Plan.part partV
  by_cases k0 : kind = 0
  · rw [if_pos k0, if_pos k0, w64 (by omega) (by omega)]
  · rw [if_neg k0, if_neg k0]
    by_cases k1 : kind = 1
    · have hq0 : 0 ≤ pr / cnt := Int.ediv_nonneg (by omega) (by omega)
      have hq1 : pr / cnt ≤ pr := Int.ediv_le_self cnt (by omega)
      rw [if_pos k1, if_pos k1, if_neg (by omega), tm (by omega), td (by omega)]
      by_cases c : m ≤ pr % cnt
      · rw [if_pos c, if_pos c, w64 (x := pr / cnt) (by omega) (by omega), w64 (by omega) (by omega)]
      · rw [if_neg c, if_neg c, w64 (by omega) (by omega)]
    · rw [if_neg k1, if_neg k1]
      by_cases c : m < cnt
      · rw [if_pos c, if_pos c]
      · rw [if_neg c, if_neg c]
section
variable {kind pr rate cnt start rule P anchor y mo : Int} {hol : List Int}
variable (hv : VT kind pr rate cnt start rule) (v : Valid y mo anchor) (hs : num y mo anchor = start) (hl : hol.length < 4611686018427387904) (hP : I64 P)
include hv hP hl
theorem next_ev {d : Nat} {m bal : Int} (hI : Inv kind pr rate cnt P (d + 1) m bal) (hb : 0 < bal) (acc : List S41) (ha : acc.length ≤ 1000) :
    Ev (fun k => interest_Plan.next k kind pr rate cnt start rule hol anchor P bal acc m) (if month bal rate = 0 ∧ partV kind pr cnt P m bal (month bal rate) = 0 then (acc, bal, true) else if (dueV start anchor rule hol m).2 = true then (acc ++ [⟨(dueV start anchor rule hol m).1, month bal rate, partV kind pr cnt P m bal (month bal rate), false⟩], bal - partV kind pr cnt P m bal (month bal rate), true) else ([], bal, false)) := by
  obtain ⟨⟨k0, k1⟩, hpr, ⟨r0, r1⟩, hc, hst, hru⟩ := hv
  have hI' := hI
  obtain ⟨i0, i1, i2, i3, i4⟩ := hI'
  obtain ⟨s1, s2, s3, s4⟩ := step r0 r1 hI hb
  have hp := part_eq r0 r1 hpr hP hI hb
  obtain ⟨K1, h1⟩ := Ev_out (month_ev bal rate (by unfold I64; omega) (by unfold I64; omega))
  obtain ⟨K2, h2⟩ := Ev_out (am_ev start m anchor)
  obtain ⟨K3, h3⟩ := Ev_out (adjust_ev (am start m anchor).1 hol rule hl)
  have e1 : monthOk bal rate = (month bal rate, true) := if_pos ⟨by omega, r0, r1⟩
  refine ⟨K1 + K2 + K3, fun k hk => ?_⟩
  simp only [interest_Plan.next]
  rw [h1 k (by omega), e1, Option.bind_some, if_pos rfl, hp, Option.bind_some]
  by_cases c : month bal rate = 0 ∧ partV kind pr cnt P m bal (month bal rate) = 0
  · rw [if_pos c, if_pos c]
  · rw [if_neg c, if_neg c, h2 k (by omega), Option.bind_some]
    unfold dueV
    by_cases c2 : (am start m anchor).2 = true
    · rw [if_pos c2, if_pos c2, h3 k (by omega), Option.bind_some]
      by_cases c3 : (adj (am start m anchor).1 hol rule).2 = true
      · rw [if_pos c3, if_pos c3, if_pos (by omega), w64 (by omega) (by omega)]
      · rw [if_neg c3, if_neg c3]
    · rw [if_neg c2, if_neg c2, if_neg (by simp)]
theorem l0_ev : ∀ (d : Nat) (m bal : Int) (acc : List S41), Inv kind pr rate cnt P d m bal → acc.length + d ≤ 1000 →
    Ev (fun k => interest_Plan.l0 k kind pr rate cnt start rule hol anchor P true bal acc m) (rows (partV kind pr cnt P) (dueV start anchor rule hol) rate d m bal acc) := by
  intro d
  induction d with
  | zero =>
    intro m bal acc hI ha
    obtain ⟨i0, i1, i2, i3, i4⟩ := hI
    refine Ev_one (fun k => ?_)
    simp only [interest_Plan.l0, rows]
    rw [if_neg (by omega)]
    rfl
  | succ d ih =>
    intro m bal acc hI ha
    have hI' := hI
    obtain ⟨i0, i1, i2, i3, i4⟩ := hI'
    have hvv := hv
    obtain ⟨⟨k0, k1⟩, hpr, ⟨r0, r1⟩, hc, hst, hru⟩ := hvv
    by_cases hb : 0 < bal
    · obtain ⟨s1, s2, s3, s4⟩ := step r0 r1 hI hb
      obtain ⟨K, h⟩ := Ev_out (next_ev hv hl hP hI hb acc (by omega) (anchor := anchor))
      simp only [rows]
      rw [if_pos hb]
      by_cases c : month bal rate = 0 ∧ partV kind pr cnt P m bal (month bal rate) = 0
      · rw [if_pos c] at h ⊢
        rw [c.2, Int.sub_zero] at s3
        obtain ⟨K2, h2⟩ := Ev_out (ih (m + 1) bal acc s3 (by omega))
        refine ⟨K + K2 + 1, fun k hk => ?_⟩
        obtain ⟨k, rfl⟩ : ∃ q, k = q + 1 := ⟨k - 1, by omega⟩
        simp only [interest_Plan.l0]
        rw [if_pos ⟨True.intro, hb, by omega⟩, h k (by omega), Option.bind_some, w64 (by omega) (by omega)]
        exact h2 k (by omega)
      · rw [if_neg c] at h ⊢
        by_cases c2 : (dueV start anchor rule hol m).2 = true
        · rw [if_pos c2] at h ⊢
          obtain ⟨K2, h2⟩ := Ev_out (ih (m + 1) _ (acc ++ [⟨(dueV start anchor rule hol m).1, month bal rate, partV kind pr cnt P m bal (month bal rate), false⟩]) s3 (by rw [List.length_append, List.length_singleton]; omega))
          refine ⟨K + K2 + 1, fun k hk => ?_⟩
          obtain ⟨k, rfl⟩ : ∃ q, k = q + 1 := ⟨k - 1, by omega⟩
          simp only [interest_Plan.l0]
          rw [if_pos ⟨True.intro, hb, by omega⟩, h k (by omega), Option.bind_some, w64 (by omega) (by omega)]
          exact h2 k (by omega)
        · rw [if_neg c2] at h ⊢
          refine ⟨K + 2, fun k hk => ?_⟩
          obtain ⟨k, rfl⟩ : ∃ q, k = q + 2 := ⟨k - 2, by omega⟩
          simp only [interest_Plan.l0]
          rw [if_pos ⟨True.intro, hb, by omega⟩, h (k + 1) (by omega), Option.bind_some]
          simp only [interest_Plan.l0]
          rw [if_neg (by simp)]
          simp
    · refine Ev_one (fun k => ?_)
      simp only [interest_Plan.l0, rows]
      rw [if_neg hb, if_neg (fun h => hb h.2.1)]
      rfl
include v hs
end
end Go.Proofs.YtogmeijmdbgmdaaDoor.IPlan
