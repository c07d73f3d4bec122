/- InterestFresh: with enough rounds the printed law returns true at every two terms. Plain Lean over the printed functions. -/
import Derived.Test.YtogmeijmdbgmdaaDoorVIPlanE
import Derived.Test.YtogmeijmdbgmdaaDoorVIDue
import Derived.Test.YtogmeijmdbgmdaaDoorVPFx12
import Derived.Test.YtogmeijmdbgmdaaDoorVPFx11
namespace Go.Proofs.YtogmeijmdbgmdaaDoor.PureInterestFresh
open Go.RowKit Go.Proofs.YtogmeijmdbgmdaaDoor.PF Go.Proofs.YtogmeijmdbgmdaaDoorW.PrintWords Go.Proofs.YtogmeijmdbgmdaaDoorW.PrintLast Go.Proofs.YtogmeijmdbgmdaaDoorW.PrintMore Go.Proofs.YtogmeijmdbgmdaaDoor.MB Go.Proofs.YtogmeijmdbgmdaaDoor.MMulD Go.Proofs.YtogmeijmdbgmdaaDoor.IMonth Go.Proofs.YtogmeijmdbgmdaaDoor.ILevel Go.Proofs.YtogmeijmdbgmdaaDoor.CDate Go.Proofs.YtogmeijmdbgmdaaDoor.CProg Go.Proofs.YtogmeijmdbgmdaaDoor.CRef Go.Proofs.YtogmeijmdbgmdaaDoor.CCivil Go.Proofs.YtogmeijmdbgmdaaDoor.CDay Go.Proofs.YtogmeijmdbgmdaaDoor.CMonth Go.Proofs.YtogmeijmdbgmdaaDoor.CAdj Go.Proofs.YtogmeijmdbgmdaaDoor.IPlan Go.Proofs.YtogmeijmdbgmdaaDoor.IPlanE Go.Proofs.YtogmeijmdbgmdaaDoor.IDue
set_option linter.unusedVariables false
set_option linter.unusedSectionVars false
set_option linter.unusedSimpArgs false

theorem alike_loop (l : List S41) (hl : l.length ≤ 100000) : ∀ (d i : Nat) (k : Nat), i + d = l.length → d < k → arrearslaw3_alike.l0 k l l i = some true := by
  intro d
  induction d with
  | zero =>
    intro i k hi hk
    obtain ⟨k, rfl⟩ : ∃ m, k = m + 1 := ⟨k - 1, by omega⟩
    simp only [arrearslaw3_alike.l0]
    rw [if_neg (by omega)]
  | succ d ih =>
    intro i k hi hk
    obtain ⟨k, rfl⟩ : ∃ m, k = m + 1 := ⟨k - 1, by omega⟩
    simp only [arrearslaw3_alike.l0]
    rw [if_pos (by omega), if_pos (by omega), if_pos (by omega), if_pos True.intro, if_pos True.intro, if_pos True.intro, if_neg (by simp), wi i (by omega)]
    exact ih (i + 1) k (by omega) (by omega)
theorem alike_ev (l : List S41) (hl : l.length ≤ 100000) : Ev (fun k => arrearslaw3_alike.f k l l) true := by
  refine ⟨l.length + 1, fun k hk => ?_⟩
  simp only [arrearslaw3_alike.f]
  rw [if_pos True.intro]
  exact alike_loop l hl l.length 0 k (by omega) (by omega)
theorem gone_loop (l : List S41) (hl : l.length ≤ 1000) (x : Int) : ∀ (d i : Nat), i + d = 64 → Ev (fun k => arrearslaw3_goneOn.l0 k l x (List.replicate i ⟨x, 0, 0, false⟩) (i : Int)) true := by
  intro d
  induction d with
  | zero =>
    intro i hi
    obtain rfl : i = 64 := by omega
    obtain ⟨K, h⟩ := Ev_out (alike_ev (List.replicate 64 (⟨x, 0, 0, false⟩ : S41)) (by rw [List.length_replicate]; omega))
    refine ⟨K + 1, fun k hk => ?_⟩
    obtain ⟨k, rfl⟩ : ∃ m, k = m + 1 := ⟨k - 1, by omega⟩
    simp only [arrearslaw3_goneOn.l0]
    rw [if_neg (by omega), if_pos (by rw [List.length_replicate]; omega), Option.bind_some, if_pos (by rw [List.length_append, List.length_replicate, w64 (by omega) (by omega)]; omega), if_pos (by omega), if_pos (by rw [List.length_append]; omega), Int.toNat_natCast, List.drop_left, h k (by omega)]
    rfl
  | succ d ih =>
    intro i hi
    obtain ⟨K, h⟩ := Ev_out (ih (i + 1) (by omega))
    refine ⟨K + 1, fun k hk => ?_⟩
    obtain ⟨k, rfl⟩ : ∃ m, k = m + 1 := ⟨k - 1, by omega⟩
    simp only [arrearslaw3_goneOn.l0]
    rw [if_pos (by omega), if_pos (by rw [List.length_replicate]; omega), wi i (by omega), ← List.replicate_succ']
    exact h k (by omega)
theorem gone_ev (l : List S41) (hl : l.length ≤ 1000) (x : Int) : Ev (fun k => arrearslaw3_goneOn.f k l x) (true, l) := by
  obtain ⟨K, h⟩ := Ev_out (gone_loop l hl x 64 0 rfl)
  refine ⟨K, fun k hk => ?_⟩
  simp only [arrearslaw3_goneOn.f, arrearslaw3_goneOn.f0]
  have e := h k hk
  rw [List.replicate_zero] at e
  rw [show ((0 : Nat) : Int) = 0 from rfl] at e
  rw [e, Option.bind_some]
theorem rd_set (l : List S41) (i j : Nat) (x : S41) (hj : i < l.length) : rd_T41 (l.set i x) (j : Int) = if j = i then x else rd_T41 l (j : Int) := by
  unfold rd_T41
  rw [Int.toNat_natCast, List.getD_eq_getElem?_getD, List.getD_eq_getElem?_getD, List.getElem?_set]
  by_cases e : j = i
  · subst e
    rw [if_pos rfl, if_pos rfl, if_pos hj]
    rfl
  · rw [if_neg (fun h => e h.symm), if_neg e]

theorem rows_ok {pf : Int → Int → Int → Int} {due : Int → Int × Bool} {rate cnt : Int} (hd : ∀ m, 1 ≤ m → m ≤ cnt → (due m).2 = true) : ∀ (d : Nat) (m bal : Int) (acc : List S41), 1 ≤ m → m + d = cnt + 1 → (rows pf due rate d m bal acc).2 = true := by
  intro d
  induction d with
  | zero => intro m bal acc h0 h1; rfl
  | succ d ih =>
    intro m bal acc h0 h1
    simp only [rows]
    split
    · split
      · exact ih _ _ _ (by omega) (by omega)
      · rw [if_pos (hd m h0 (by omega))]
        exact ih _ _ _ (by omega) (by omega)
    · rfl
theorem rows_none {pf : Int → Int → Int → Int} {due : Int → Int × Bool} {rate : Int} : ∀ (d : Nat) (m bal : Int) (acc : List S41), (rows pf due rate d m bal acc).2 = false → (rows pf due rate d m bal acc).1 = [] := by
  intro d
  induction d with
  | zero => intro m bal acc h; cases h
  | succ d ih =>
    intro m bal acc h
    simp only [rows] at h ⊢
    split at h
    · rename_i c
      rw [if_pos c]
      split at h
      · rename_i c2
        rw [if_pos c2]
        exact ih _ _ _ h
      · rename_i c2
        rw [if_neg c2]
        split at h
        · rename_i c3
          rw [if_pos c3]
          exact ih _ _ _ h
        · rename_i c3
          rw [if_neg c3]
    · cases h
/-- A plan without holidays. -/
theorem plan_any (kind pr rate cnt start rule : Int) : ∃ (l : List S41) (b : Bool), l.length ≤ 120 ∧ (b = false → l = []) ∧ (VT kind pr rate cnt start rule → start ≤ 3640000 → b = true) ∧ Ev (fun k => interest_Plan.f k kind pr rate cnt start rule []) (l, b) := by
  by_cases hv : VT kind pr rate cnt start rule
  · obtain ⟨P, y, mo, anchor, v, hs, hLe, hlev, hplan⟩ := plan_yes (hol := []) hv (by simp)
    refine ⟨(rows (partV kind pr cnt P) (dueV start anchor rule []) rate cnt.toNat 1 pr []).1, (rows (partV kind pr cnt P) (dueV start anchor rule []) rate cnt.toNat 1 pr []).2, ?_, rows_none _ _ _ _, fun _ h0 => ?_, hplan⟩
    · have := rows_len (partV kind pr cnt P) (dueV start anchor rule []) rate cnt.toNat 1 pr []
      obtain ⟨⟨k0, k1⟩, hpr, ⟨r0, r1⟩, hc, hst, hru⟩ := hv
      simp only [List.length_nil] at this
      omega
    · obtain ⟨⟨k0, k1⟩, hpr, ⟨r0, r1⟩, hc, hst, hru⟩ := hv
      refine rows_ok (cnt := cnt) (fun m m0 m1 => ?_) cnt.toNat 1 pr [] (by omega) (by omega)
      obtain ⟨e, b0, b1⟩ := due_in v hs h0 (m := m.toNat) (by omega)
      rw [show ((m.toNat : Nat) : Int) = m by omega] at e b0 b1
      obtain ⟨D, hD, _⟩ := adj_ok (n := dayK (12 * y + mo - 13 + m) anchor) (r := rule) (l := []) (by omega) (by omega) (by simp) hru
      unfold dueV
      rw [e, if_pos rfl]
      simp only []
      rw [hD]
  · refine ⟨[], false, by simp, fun _ => rfl, fun h => absurd h hv, Ev_eq (fun k => ?_)⟩
    simp only [interest_Plan.f]
    rw [valid_eq, Option.bind_some, if_neg (fun hc => hv (of_decide_eq_true hc.1))]
section
variable {kind pr rate cnt start rule : Int}
theorem l2_ev (x5 x9 la : List S41) (b : Bool) (hl : la.length ≤ 120) (h5 : x5.length ≤ 120) (h9 : x9.length = x5.length) (p5 : ∀ j : Nat, j < x5.length → (rd_T41 x5 (j : Int)).f0 = -1) (p9 : ∀ j : Nat, j < x9.length → (rd_T41 x9 (j : Int)).f0 = -5) (hp : Ev (fun k => interest_Plan.f k kind pr rate cnt start rule []) (la, b)) : ∀ (d i : Nat), i + d = x5.length →
    Ev (fun k => arrearslaw3_InterestFresh.l2 k x5 x9 la (i : Int) kind pr rate cnt start rule) true := by
  intro d
  induction d with
  | zero =>
    intro i hi
    obtain ⟨K1, e1⟩ := Ev_out hp
    obtain ⟨K2, e2⟩ := Ev_out (alike_ev la (by omega))
    refine ⟨K1 + K2 + 1, fun k hk => ?_⟩
    obtain ⟨k, rfl⟩ : ∃ q, k = q + 1 := ⟨k - 1, by omega⟩
    simp only [arrearslaw3_InterestFresh.l2]
    rw [if_neg (by omega), e1 k (by omega), Option.bind_some]
    dsimp only
    rw [e2 k (by omega)]
    rfl
  | succ d ih =>
    intro i hi
    obtain ⟨K, h⟩ := Ev_out (ih (i + 1) (by omega))
    refine ⟨K + 1, fun k hk => ?_⟩
    obtain ⟨k, rfl⟩ : ∃ q, k = q + 1 := ⟨k - 1, by omega⟩
    simp only [arrearslaw3_InterestFresh.l2]
    rw [if_pos (by omega), if_pos (by omega), if_pos (p5 i (by omega)), if_pos (by omega), if_pos (p9 i (by omega)), wi i (by omega)]
    exact h k (by omega)
theorem l1_ev (x5 x7 la : List S41) (b : Bool) (hl : la.length ≤ 120) (h5 : x5.length ≤ 120) (h7 : x7.length ≤ 120) (p5 : ∀ j : Nat, j < x5.length → (rd_T41 x5 (j : Int)).f0 = -1) (hp : Ev (fun k => interest_Plan.f k kind pr rate cnt start rule []) (la, b)) : ∀ (d i : Nat) (x9 : List S41), i + d = x9.length → x9.length = x5.length →
    (∀ j : Nat, j < i → (rd_T41 x9 (j : Int)).f0 = -5) → Ev (fun k => arrearslaw3_InterestFresh.l1 k x5 x7 x9 la x7 (i : Int) kind pr rate cnt start rule) true := by
  intro d
  induction d with
  | zero =>
    intro i x9 hi h9 p9
    obtain ⟨K1, e1⟩ := Ev_out (alike_ev x7 (by omega))
    obtain ⟨K2, e2⟩ := Ev_out (gone_ev x5 (by omega) (-4))
    obtain ⟨K3, e3⟩ := Ev_out (gone_ev x9 (by omega) (-8))
    obtain ⟨K4, e4⟩ := Ev_out (gone_ev x7 (by omega) (-9))
    obtain ⟨K5, e5⟩ := Ev_out (l2_ev x5 x9 la b hl h5 h9 p5 (fun j hj => p9 j (by omega)) hp x5.length 0 (by omega))
    refine ⟨K1 + K2 + K3 + K4 + K5 + 2, fun k hk => ?_⟩
    obtain ⟨k, rfl⟩ : ∃ q, k = q + 2 := ⟨k - 2, by omega⟩
    simp only [arrearslaw3_InterestFresh.l1]
    rw [if_neg (by omega), e1 _ (by omega), Option.bind_some, if_pos rfl, e2 _ (by omega), Option.bind_some, if_pos rfl, e3 _ (by omega), Option.bind_some, if_pos rfl, e4 _ (by omega), Option.bind_some, if_pos rfl]
    dsimp only
    rw [e1 _ (by omega), Option.bind_some]
    simp only [arrearslaw3_InterestFresh.j4]
    rw [if_neg (by simp)]
    exact e5 k (by omega)
  | succ d ih =>
    intro i x9 hi h9 p9
    obtain ⟨K, h⟩ := Ev_out (ih (i + 1) (x9.set i ⟨-5, -6, -7, true⟩) (by rw [List.length_set]; omega) (by rw [List.length_set]; omega) (fun j hj => by
      rw [rd_set _ _ _ _ (by omega)]
      split
      · rfl
      · exact p9 j (by omega)))
    refine ⟨K + 1, fun k hk => ?_⟩
    obtain ⟨k, rfl⟩ : ∃ q, k = q + 1 := ⟨k - 1, by omega⟩
    simp only [arrearslaw3_InterestFresh.l1]
    rw [if_pos (by omega), if_pos (by omega), wi i (by omega), Int.toNat_natCast]
    exact h k (by omega)
theorem l0_ev (x7 x9 la : List S41) (b : Bool) (hl : la.length ≤ 120) (h9 : x9.length ≤ 120) (h7 : x7.length ≤ 120) (hp : Ev (fun k => interest_Plan.f k kind pr rate cnt start rule []) (la, b)) : ∀ (d i : Nat) (x5 : List S41), i + d = x5.length → x9.length = x5.length →
    (∀ j : Nat, j < i → (rd_T41 x5 (j : Int)).f0 = -1) → Ev (fun k => arrearslaw3_InterestFresh.l0 k x5 x7 x9 la x7 (i : Int) kind pr rate cnt start rule) true := by
  intro d
  induction d with
  | zero =>
    intro i x5 hi h59 p5
    refine Ev.step (fun k => ?_) (l1_ev x5 x7 la b hl (by omega) h7 (fun j hj => p5 j (by omega)) hp x9.length 0 x9 (by omega) h59 (fun j hj => absurd hj (by omega)))
    simp only [arrearslaw3_InterestFresh.l0]
    rw [if_neg (by omega)]
    rfl
  | succ d ih =>
    intro i x5 hi h59 p5
    refine Ev.step (fun k => ?_) (ih (i + 1) (x5.set i ⟨-1, -2, -3, true⟩) (by rw [List.length_set]; omega) (by rw [List.length_set]; omega) (fun j hj => by
      rw [rd_set _ _ _ _ (by omega)]
      split
      · rfl
      · exact p5 j (by omega)))
    simp only [arrearslaw3_InterestFresh.l0]
    rw [if_pos (by omega), if_pos (by omega), wi i (by omega), Int.toNat_natCast]
theorem j0_ev (la lb : List S41) (oa ob : Bool) (hl : la.length ≤ 120) (h7 : lb.length ≤ 120) (hb : ob = false → lb = []) (hp : Ev (fun k => interest_Plan.f k kind pr rate cnt start rule []) (la, oa)) :
    Ev (fun k => arrearslaw3_InterestFresh.j0 k la oa lb ob la oa false kind pr rate cnt start rule) true := by
  obtain ⟨K1, e1⟩ := Ev_out (alike_ev la (by omega))
  obtain ⟨K2, e2⟩ := Ev_out (l0_ev lb la la oa hl hl h7 hp la.length 0 la (by omega) rfl (fun j hj => absurd hj (by omega)))
  have key : ∀ k, K1 + K2 ≤ k → arrearslaw3_InterestFresh.j1 (k + 1) la lb la false kind pr rate cnt start rule = some true := fun k hk => by
    simp only [arrearslaw3_InterestFresh.j1]
    rw [if_neg Bool.false_ne_true, Option.bind_some, if_pos (by simp; omega), Option.bind_some, if_pos (by simp; omega), List.nil_append, List.nil_append]
    exact e2 k (by omega)
  refine ⟨K1 + K2 + 2, fun k hk => ?_⟩
  obtain ⟨k, rfl⟩ : ∃ q, k = q + 2 := ⟨k - 2, by omega⟩
  simp only [arrearslaw3_InterestFresh.j0]
  rw [if_neg Bool.false_ne_true, if_neg (by simp), if_pos True.intro, e1 _ (by omega), Option.bind_some, if_pos rfl]
  cases ob with
  | true => rw [if_pos rfl]; exact key k (by omega)
  | false =>
    rw [if_neg Bool.false_ne_true]
    obtain rfl := hb rfl
    exact key k (by omega)
end
theorem lend_eq (pr rate cnt : Int) : arrearslaw3_lending.f pr rate cnt = some (decide ((1 ≤ pr ∧ pr ≤ 10000000000000) ∧ (0 ≤ rate ∧ rate ≤ 100000) ∧ 1 ≤ cnt ∧ cnt ≤ 120)) := by
  unfold arrearslaw3_lending.f
  by_cases h : (1 ≤ pr ∧ pr ≤ 10000000000000) ∧ (0 ≤ rate ∧ rate ≤ 100000) ∧ 1 ≤ cnt ∧ cnt ≤ 120
  · rw [decide_eq_true h]
    obtain ⟨⟨p0, p1⟩, ⟨r0, r1⟩, c0, c1⟩ := h
    rw [if_pos p0, if_pos p1, if_pos r0, if_pos r1, if_pos c0, decide_eq_true c1]
  · rw [decide_eq_false h]
    refine itf (fun p0 => itf (fun p1 => itf (fun r0 => itf (fun r1 => itf (fun c0 => ?_)))))
    rw [decide_eq_false (fun c1 => h ⟨⟨p0, p1⟩, ⟨r0, r1⟩, c0, c1⟩)]
theorem InterestFresh_ev (a0 a1 a2 a3 a4 a5 b0 b1 b2 b3 b4 b5 : Int) : ∃ k, arrearslaw3_InterestFresh.f k a0 a1 a2 a3 a4 a5 b0 b1 b2 b3 b4 b5 = some true := by
  obtain ⟨la, oa, hla, hna, hoa, hpa⟩ := plan_any a0 a1 a2 a3 a4 a5
  obtain ⟨lb, ob, hlb, hnb, hob, hpb⟩ := plan_any b0 b1 b2 b3 b4 b5
  obtain ⟨K1, e1⟩ := Ev_out hpa
  obtain ⟨K2, e2⟩ := Ev_out hpb
  obtain ⟨K3, e3⟩ := Ev_out (j0_ev la lb oa ob hla hlb hnb hpa)
  have key := e3 (K1 + K2 + K3) (by omega)
  refine ⟨K1 + K2 + K3, ?_⟩
  simp only [arrearslaw3_InterestFresh.f]
  rw [e1 _ (by omega), Option.bind_some, e2 _ (by omega), Option.bind_some, Option.bind_some]
  simp only [lend_eq, Option.bind_some]
  by_cases hg : VT a0 a1 a2 a3 a4 a5 ∧ a4 ≤ 3640000
  · rw [hoa hg.1 hg.2] at key ⊢
    simp only [Bool.not_true]
    repeat' split
    all_goals exact key
  · unfold VT at hg
    repeat' split
    all_goals first
      | exact key
      | (exfalso
         simp only [decide_eq_true_eq] at *
         omega)
end Go.Proofs.YtogmeijmdbgmdaaDoor.PureInterestFresh
