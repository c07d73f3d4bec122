/- The program's Plan and the document's come to the same rows, whatever terms and holidays are handed in. Plain Lean over the printed functions. -/
import Derived.Test.YtogmeijmdbgmdaaDoorVIPlan
import Derived.Test.YtogmeijmdbgmdaaDoorVPFx8
namespace Go.Proofs.YtogmeijmdbgmdaaDoor.IPlanE
open Go.RowKit Go.Proofs.YtogmeijmdbgmdaaDoor.PF Go.Proofs.YtogmeijmdbgmdaaDoorW.PrintWords Go.Proofs.YtogmeijmdbgmdaaDoorW.PrintLast Go.Proofs.YtogmeijmdbgmdaaDoorW.PrintMore Go.Proofs.YtogmeijmdbgmdaaDoor.MB Go.Proofs.YtogmeijmdbgmdaaDoor.MMulD Go.Proofs.YtogmeijmdbgmdaaDoor.IMonth Go.Proofs.YtogmeijmdbgmdaaDoor.ILevel Go.Proofs.YtogmeijmdbgmdaaDoor.CDate Go.Proofs.YtogmeijmdbgmdaaDoor.CProg Go.Proofs.YtogmeijmdbgmdaaDoor.CRef Go.Proofs.YtogmeijmdbgmdaaDoor.CCivil Go.Proofs.YtogmeijmdbgmdaaDoor.CMonth Go.Proofs.YtogmeijmdbgmdaaDoor.CAdj Go.Proofs.YtogmeijmdbgmdaaDoor.IPlan
set_option linter.unusedVariables false
set_option linter.unusedSectionVars false
set_option linter.unusedSimpArgs false

theorem inv_start {kind pr rate cnt P : Int} (hp : 1 ≤ pr) (hc : 1 ≤ cnt) (h : kind = 0 → pay P rate cnt.toNat pr = true) : Inv kind pr rate cnt P cnt.toNat 1 pr := by
  refine ⟨by omega, Int.le_refl _, Int.le_refl _, by omega, fun _ => ⟨h, fun _ => ?_⟩⟩
  have := Int.emod_nonneg pr (show cnt ≠ 0 by omega)
  unfold mn
  rw [if_neg (by omega), show (1 - 1 : Int) = 0 from rfl, Int.zero_mul]
  omega
theorem plan_yes {kind pr rate cnt start rule : Int} {hol : List Int} (hv : VT kind pr rate cnt start rule) (hl : (hol.length : Int) ≤ 64) :
    ∃ P y mo anchor, Valid y mo anchor ∧ num y mo anchor = start ∧ Least rate cnt.toNat pr P ∧ Ev (fun k => interest_Level.f k pr rate cnt) (P, true) ∧
      Ev (fun k => interest_Plan.f k kind pr rate cnt start rule hol) (rows (partV kind pr cnt P) (dueV start anchor rule hol) rate cnt.toNat 1 pr []) := by
  have hvv := hv
  obtain ⟨⟨k0, k1⟩, hpr, ⟨r0, r1⟩, hc, hst, hru⟩ := hvv
  have hn : ((cnt.toNat : Nat) : Int) = cnt := by omega
  obtain ⟨y, mo, anchor, v, hs⟩ := date_ex start hst.1 hst.2
  have hG := great_pays pr rate cnt.toNat r0 r1 hpr.1 (by omega) (by omega)
  obtain ⟨P, hP, hLe⟩ := level_yes pr rate cnt.toNat r0 r1 (by omega) (by omega) (by omega) hpr.1 (by omega) hG
  rw [hn] at hP
  have hI := inv_start (kind := kind) (rate := rate) (P := P) hpr.1 hc.1 (fun _ => hLe.2.2.1)
  have hPI : I64 P := ⟨by have := hLe.1; omega, hLe.2.1⟩
  have hl2 : hol.length < 4611686018427387904 := by omega
  refine ⟨P, y, mo, anchor, v, hs, hLe, hP, ?_⟩
  obtain ⟨K1, h1⟩ := Ev_out (civil_ev v)
  by_cases h0 : kind = 0
  · obtain ⟨K2, h2⟩ := Ev_out hP
    obtain ⟨K3, h3⟩ := Ev_out (l0_ev hv hl2 hPI (anchor := anchor) cnt.toNat 1 pr [] hI (by simp; omega))
    refine ⟨K1 + K2 + K3, fun k hk => ?_⟩
    simp only [interest_Plan.f]
    have e1 := h1 k (by omega)
    rw [hs] at e1
    rw [valid_eq, decide_eq_true hv, Option.bind_some, if_pos ⟨rfl, hl⟩, e1, Option.bind_some, if_pos rfl, if_pos h0, h2 k (by omega), Option.bind_some]
    exact h3 k (by omega)
  · have hI0 := inv_start (kind := kind) (rate := rate) (P := 0) hpr.1 hc.1 (fun h => absurd h h0)
    obtain ⟨K3, h3⟩ := Ev_out (l0_ev hv hl2 (P := 0) (by unfold I64; omega) (anchor := anchor) cnt.toNat 1 pr [] hI0 (by simp; omega))
    rw [partV_any h0 pr cnt 0 P] at h3
    refine ⟨K1 + K3, fun k hk => ?_⟩
    simp only [interest_Plan.f]
    have e1 := h1 k (by omega)
    rw [hs] at e1
    rw [valid_eq, decide_eq_true hv, Option.bind_some, if_pos ⟨rfl, hl⟩, e1, Option.bind_some, if_pos rfl, if_neg h0]
    exact h3 k (by omega)
theorem rows_len (pf : Int → Int → Int → Int) (due : Int → Int × Bool) (rate : Int) : ∀ (d : Nat) (m bal : Int) (acc : List S41), (rows pf due rate d m bal acc).1.length ≤ acc.length + d := by
  intro d
  induction d with
  | zero => intro m bal acc; simp [rows]
  | succ d ih =>
    intro m bal acc
    simp only [rows]
    split
    · split
      · have := ih (m + 1) bal acc; omega
      · split
        · have := ih (m + 1) (bal - pf m bal (month bal rate)) (acc ++ [⟨(due m).1, month bal rate, pf m bal (month bal rate), false⟩])
          rw [List.length_append, List.length_singleton] at this
          omega
        · simp
    · simp
end Go.Proofs.YtogmeijmdbgmdaaDoor.IPlanE
