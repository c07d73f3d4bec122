/- InterestAmortizes: with enough rounds the printed law returns true at every terms and holidays. Plain Lean over the printed functions. -/
import Derived.Test.YtogmeijmdbgmdaaDoorYIPlanE
import Derived.Test.YtogmeijmdbgmdaaDoorYIDue
import Derived.Test.YtogmeijmdbgmdaaDoorYPBx14
import Derived.Test.YtogmeijmdbgmdaaDoorYPBx1
import Derived.Test.YtogmeijmdbgmdaaDoorYPBx11
import Derived.Test.YtogmeijmdbgmdaaDoorYPBx12
import Derived.Test.YtogmeijmdbgmdaaDoorYPBx13
namespace Go.Proofs.YtogmeijmdbgmdaaDoor.PureInterestAmortizes
open Go.RowKit Go.Proofs.YtogmeijmdbgmdaaDoor.PB Go.Proofs.YtogmeijmdbgmdaaDoorW.PrintWords Go.Proofs.YtogmeijmdbgmdaaDoorW.PrintLast Go.Proofs.YtogmeijmdbgmdaaDoorW.PrintMore Go.Proofs.YtogmeijmdbgmdaaDoor.MB Go.Proofs.YtogmeijmdbgmdaaDoor.MMulD Go.Proofs.YtogmeijmdbgmdaaDoor.IMonth Go.Proofs.YtogmeijmdbgmdaaDoor.ILevel Go.Proofs.YtogmeijmdbgmdaaDoor.CDate Go.Proofs.YtogmeijmdbgmdaaDoor.CProg Go.Proofs.YtogmeijmdbgmdaaDoor.CRef Go.Proofs.YtogmeijmdbgmdaaDoor.CCivil Go.Proofs.YtogmeijmdbgmdaaDoor.CDay Go.Proofs.YtogmeijmdbgmdaaDoor.CMonth Go.Proofs.YtogmeijmdbgmdaaDoor.CAdj Go.Proofs.YtogmeijmdbgmdaaDoor.IPlan Go.Proofs.YtogmeijmdbgmdaaDoor.IPlanE Go.Proofs.YtogmeijmdbgmdaaDoor.IDue
set_option linter.unusedVariables false
set_option linter.unusedSectionVars false
set_option linter.unusedSimpArgs false

def marks : List Int := [-7, -8, -9]
theorem copied_loop (l : List Int) (hl : l.length ≤ 100000) : ∀ (d i : Nat) (k : Nat), i + d = l.length → d < k → arrearslaw3_copied.l0 k l (l.take i) i = some (l ++ marks) := by
  intro d
  induction d with
  | zero =>
    intro i k hi hk
    obtain ⟨k, rfl⟩ : ∃ m, k = m + 1 := ⟨k - 1, by omega⟩
    simp only [arrearslaw3_copied.l0]
    rw [if_neg (by omega), List.take_of_length_le (by omega), Option.bind_some, if_pos (by simp; omega)]
    rfl
  | succ d ih =>
    intro i k hi hk
    obtain ⟨k, rfl⟩ : ∃ m, k = m + 1 := ⟨k - 1, by omega⟩
    simp only [arrearslaw3_copied.l0]
    rw [if_pos (by omega), if_pos (by omega), if_pos (by have := List.length_take_le i l; omega), wi i (by omega), rd_nat, ← take_next (by omega)]
    exact ih (i + 1) k (by omega) (by omega)
theorem copied_ev (l : List Int) (hl : l.length ≤ 100000) : Ev (fun k => arrearslaw3_copied.f k l) (l ++ marks) := by
  refine ⟨l.length + 1, fun k hk => ?_⟩
  simp only [arrearslaw3_copied.f]
  exact copied_loop l hl l.length 0 k (by omega) (by omega)

theorem rows_pre {pf : Int → Int → Int → Int} {due : Int → Int × Bool} {rate : Int} : ∀ (d : Nat) (m bal : Int) (acc L : List S41), rows pf due rate d m bal acc = (L, true) → ∃ r, L = acc ++ r := by
  intro d
  induction d with
  | zero =>
    intro m bal acc L h
    simp only [rows] at h
    exact ⟨[], by rw [List.append_nil]; exact (Prod.mk.inj h).1.symm⟩
  | succ d ih =>
    intro m bal acc L h
    simp only [rows] at h
    split at h
    · split at h
      · exact ih _ _ _ _ h
      · split at h
        · obtain ⟨r, hr⟩ := ih _ _ _ _ h
          exact ⟨_ :: r, by rw [hr, List.append_assoc]; rfl⟩
        · exact absurd (Prod.mk.inj h).2 (by simp)
    · exact ⟨[], by rw [List.append_nil]; exact (Prod.mk.inj h).1.symm⟩
theorem rows_done {pf : Int → Int → Int → Int} {due : Int → Int × Bool} {rate : Int} (d : Nat) (m bal : Int) (acc : List S41) (h : ¬ 0 < bal) : rows pf due rate d m bal acc = (acc, true) := by
  cases d with
  | zero => rfl
  | succ d =>
    simp only [rows]
    rw [if_neg h]
theorem rows_step {pf : Int → Int → Int → Int} {due : Int → Int × Bool} {rate : Int} {m bal D : Int} (d : Nat) (acc : List S41) (hb : 0 < bal) (hn : ¬ (month bal rate = 0 ∧ pf m bal (month bal rate) = 0)) (hd : due m = (D, true)) :
    rows pf due rate (d + 1) m bal acc = rows pf due rate d (m + 1) (bal - pf m bal (month bal rate)) (acc ++ [⟨D, month bal rate, pf m bal (month bal rate), false⟩]) := by
  simp only [rows]
  rw [if_pos hb, if_neg hn, hd, if_pos rfl]
theorem rows_skip {pf : Int → Int → Int → Int} {due : Int → Int × Bool} {rate pr cnt : Int} (hb : 0 < pr) (h0 : month pr rate = 0) (hp : ∀ m, m < cnt → pf m pr 0 = 0) (acc : List S41) : ∀ (d : Nat) (m : Int), m + d = cnt → rows pf due rate (d + 1) m pr acc = rows pf due rate 1 cnt pr acc := by
  intro d
  induction d with
  | zero =>
    intro m hm
    obtain rfl : m = cnt := by omega
    rfl
  | succ d ih =>
    intro m hm
    rw [← ih (m + 1) (by omega)]
    conv => lhs; unfold rows
    rw [if_pos hb, if_pos ⟨h0, by rw [h0]; exact hp m (by omega)⟩]
theorem rows_ok {pf : Int → Int → Int → Int} {due : Int → Int × Bool} {rate cnt : Int} (hd : ∀ m, 1 ≤ m → m ≤ cnt → (due m).2 = true) : ∀ (d : Nat) (m bal : Int) (acc : List S41), 1 ≤ m → m + d = cnt + 1 → (rows pf due rate d m bal acc).2 = true := by
  intro d
  induction d with
  | zero => intro m bal acc h0 h1; rfl
  | succ d ih =>
    intro m bal acc h0 h1
    simp only [rows]
    split
    · split
      · exact ih _ _ _ (by omega) (by omega)
      · rw [if_pos (hd m h0 (by omega))]
        exact ih _ _ _ (by omega) (by omega)
    · rfl
theorem rd41 (acc r : List S41) (x : S41) {j : Nat} (h : acc.length = j) : rd_T41 (acc ++ x :: r) (j : Int) = x := by
  subst h
  unfold rd_T41
  rw [Int.toNat_natCast, List.getD_eq_getElem?_getD, List.getElem?_append_right (Nat.le_refl _), Nat.sub_self]
  rfl

theorem timely_ev {kind pr rate cnt start rule anchor t D due : Int} {hol : List Int} (hl : hol.length < 4611686018427387904) (ha : am start t anchor = (D, true)) (hD : 0 ≤ D ∧ D ≤ 4000000) (h1 : D - 10 ≤ due) (h2 : due ≤ D + 10) (h3 : rule = 0 → due = D) (h4 : rule ≠ 0 → biz due hol = true) :
    Ev (fun k => arrearslaw3_timely.f k kind pr rate cnt start rule hol anchor due t) true := by
  obtain ⟨K1, e1⟩ := Ev_out (am_ev start t anchor)
  obtain ⟨K2, e2⟩ := Ev_out (business_ev due hol hl)
  refine ⟨K1 + K2 + 1, fun k hk => ?_⟩
  obtain ⟨k, rfl⟩ : ∃ q, k = q + 1 := ⟨k - 1, by omega⟩
  simp only [arrearslaw3_timely.f]
  rw [e1 _ (by omega), ha, Option.bind_some]
  dsimp only
  rw [if_pos rfl, w64 (x := D + 10) (by omega) (by omega), if_neg (by omega), w64 (x := D - 10) (by omega) (by omega), decide_eq_false (by omega)]
  simp only [arrearslaw3_timely.j0]
  rw [if_neg Bool.false_ne_true]
  by_cases c : rule = 0
  · rw [if_pos c, h3 c, beq_self_eq_true]
  · rw [if_neg c, e2 k (by omega), Option.bind_some, h4 c]
section
variable {kind pr rate cnt start rule P anchor y mo first : Int} {hol : List Int}
theorem round_ev (L : List S41) (hL : L.length ≤ 1000) (j : Nat) (hj : j < L.length) (bal before D p : Int) (hrow : rd_T41 L (j : Int) = ⟨D, month bal rate, p, false⟩)
    (hb : 0 < bal) (hb2 : bal ≤ 10000000000000) (hr : 0 ≤ rate ∧ rate ≤ 100000) (hp : 0 ≤ p ∧ p ≤ bal) (hD : before < D) (hsh : arrearslaw3_share.okp kind L (j : Int) P)
    (t : Int) (ht : arrearslaw3_turn.f kind pr rate cnt start rule first (j : Int) = some t) (htim : Ev (fun k => arrearslaw3_timely.f k kind pr rate cnt start rule hol anchor D t) true)
    (next : Ev (fun k => arrearslaw3_InterestAmortizes.l0 k hol L P first (bal - p) D ((j + 1 : Nat) : Int) kind pr rate cnt start rule y mo anchor) true) :
    Ev (fun k => arrearslaw3_InterestAmortizes.l0 k hol L P first bal before (j : Int) kind pr rate cnt start rule y mo anchor) true := by
  obtain ⟨K1, e1⟩ := Ev_out (month_ev bal rate (by unfold I64; omega) (by unfold I64; omega))
  obtain ⟨K2, e2⟩ := Ev_out htim
  obtain ⟨K3, e3⟩ := Ev_out next
  have em : monthOk bal rate = (month bal rate, true) := if_pos ⟨by omega, hr⟩
  have r0 : (rd_T41 L (j : Int)).f0 = D := by rw [hrow]
  have r1 : (rd_T41 L (j : Int)).f1 = month bal rate := by rw [hrow]
  have r2 : (rd_T41 L (j : Int)).f2 = p := by rw [hrow]
  have r3 : (rd_T41 L (j : Int)).f3 = false := by rw [hrow]
  have hj' : (j : Int) < (L.length : Int) := by omega
  have hj0 : 0 ≤ (j : Int) := by omega
  refine ⟨K1 + K2 + K3 + 3, fun k hk => ?_⟩
  obtain ⟨k, rfl⟩ : ∃ q, k = q + 3 := ⟨k - 3, by omega⟩
  simp only [arrearslaw3_InterestAmortizes.l0]
  rw [if_pos hj', e1 _ (by omega), em, Option.bind_some]
  dsimp only
  rw [if_pos rfl, if_pos hj0, if_pos r1, r3, if_neg Bool.false_ne_true, r0, if_neg (by omega), decide_eq_false (by omega)]
  simp only [arrearslaw3_InterestAmortizes.j6]
  have es : arrearslaw3_share.f kind pr rate cnt start rule L (j : Int) P = some true := if_pos hsh
  rw [if_neg Bool.false_ne_true, es, Option.bind_some, if_pos rfl, if_pos hj0, if_pos hj', ht, Option.bind_some, r0, e2 _ (by omega), Option.bind_some]
  simp only [arrearslaw3_InterestAmortizes.j7]
  rw [if_neg (by simp), if_pos hj0, if_pos hj', r2, if_neg (by omega), if_neg (by omega), r0, w64 (x := bal - p) (by omega) (by omega), wi j (by omega)]
  exact e3 k (by omega)
theorem end_ev (L : List S41) (j : Nat) (hj : ¬ j < L.length) (before : Int) : Ev (fun k => arrearslaw3_InterestAmortizes.l0 k hol L P first 0 before (j : Int) kind pr rate cnt start rule y mo anchor) true := by
  refine Ev_one (fun k => ?_)
  simp only [arrearslaw3_InterestAmortizes.l0]
  rw [if_neg (by omega)]
  rfl
/-- A payment of equal principal. -/
def eqp (pr cnt : Int) (m : Int) : Int := if m ≤ pr % cnt then pr / cnt + 1 else pr / cnt
theorem eqp_pos {d : Nat} {m bal : Int} (hc : 1 ≤ cnt) (hpr : 1 ≤ pr) (hI : Inv 1 pr rate cnt P (d + 1) m bal) (hb : 0 < bal) : 1 ≤ eqp pr cnt m := by
  obtain ⟨i0, i1, i2, i3, i4⟩ := hI
  have h1 := (i4 hb).2 rfl
  have hq0 : 0 ≤ pr / cnt := Int.ediv_nonneg (by omega) (by omega)
  have hd : pr = cnt * (pr / cnt) + pr % cnt := (Int.mul_ediv_add_emod pr cnt).symm
  unfold eqp
  by_cases c : pr / cnt = 0
  · rw [c] at h1 hd ⊢
    rw [Int.mul_zero] at h1 hd
    unfold mn at h1
    split
    · omega
    · rename_i c2
      rw [if_pos (by omega)] at h1
      omega
  · split <;> omega
theorem inv_end {m bal : Int} (hk : 0 ≤ kind ∧ kind ≤ 2) (hpr : 1 ≤ pr) (hI : Inv kind pr rate cnt P 0 m bal) (hc : 1 ≤ cnt) (h2 : kind = 2 → bal = 0) : bal = 0 := by
  obtain ⟨i0, i1, i2, i3, i4⟩ := hI
  by_cases hb : 0 < bal
  · obtain ⟨p0, p1⟩ := i4 hb
    by_cases k0 : kind = 0
    · have := p0 k0
      cases this
    · by_cases k1 : kind = 1
      · have h := p1 k1
        have hd : pr = cnt * (pr / cnt) + pr % cnt := (Int.mul_ediv_add_emod pr cnt).symm
        have hrl := Int.emod_lt_of_pos pr (show 0 < cnt by omega)
        have em : m - 1 = cnt := by omega
        rw [em] at h
        unfold mn at h
        rw [if_pos (by omega)] at h
        omega
      · exact h2 (by omega)
  · omega
section
variable (hv : VT kind pr rate cnt start rule) (v : Valid y mo anchor) (hs : num y mo anchor = start) (h0 : start ≤ 3640000) (hl : hol.length ≤ 4)
include hv v hs h0 hl
theorem due_ok {m : Nat} (h1 : 1 ≤ m) (hm : m ≤ 120) : ∃ D, dueV start anchor rule hol m = (D, true) ∧ dayK (12 * y + mo - 13 + m) anchor - 10 ≤ D ∧ D ≤ dayK (12 * y + mo - 13 + m) anchor + 10 ∧ Ev (fun k => arrearslaw3_timely.f k kind pr rate cnt start rule hol anchor D m) true := by
  obtain ⟨⟨k0, k1⟩, hpr, ⟨r0, r1⟩, hc, hst, hru⟩ := hv
  obtain ⟨e, b0, b1⟩ := due_in v hs h0 hm
  obtain ⟨D, hD, d0, d1, d2, d3⟩ := adj_ok (n := dayK (12 * y + mo - 13 + m) anchor) (r := rule) (l := hol) (by omega) (by omega) hl hru
  refine ⟨D, ?_, d0, d1, timely_ev (by omega) e ⟨by omega, by omega⟩ d0 d1 d2 d3⟩
  unfold dueV
  rw [e, if_pos rfl]
  exact hD
theorem day_next (j : Nat) : dayK (12 * y + mo - 13 + j) anchor + 28 ≤ dayK (12 * y + mo - 13 + ((j + 1 : Nat) : Int)) anchor := by
  have := (day_up (12 * y + mo - 13 + j) anchor).1
  rw [show 12 * y + mo - 13 + ((j + 1 : Nat) : Int) = 12 * y + mo - 13 + j + 1 by omega]
  exact this
theorem loop_ev (hP : 1 ≤ P ∧ P ≤ 9223372036854775807) (L : List S41) (hL : L.length ≤ 120) (nos : kind = 2 → month pr rate ≠ 0) (hf : first = month pr rate) : ∀ (d j : Nat) (bal before : Int) (acc : List S41), (j : Int) + d = cnt → Inv kind pr rate cnt P d ((j : Int) + 1) bal →
    (kind = 2 → bal = if (j : Int) < cnt then pr else 0) → before ≤ dayK (12 * y + mo - 13 + j) anchor + 10 → acc.length = j → rows (partV kind pr cnt P) (dueV start anchor rule hol) rate d ((j : Int) + 1) bal acc = (L, true) → (kind = 1 → ∀ i : Nat, i < j → (rd_T41 L (i : Int)).f2 = eqp pr cnt ((i : Int) + 1)) →
    Ev (fun k => arrearslaw3_InterestAmortizes.l0 k hol L P first bal before (j : Int) kind pr rate cnt start rule y mo anchor) true := by
  have hvv := hv
  obtain ⟨⟨k0, k1⟩, hpr, ⟨r0, r1⟩, hc, hst, hru⟩ := hvv
  intro d
  induction d with
  | zero =>
    intro j bal before acc hj hI h2 hbef hacc hrows hist
    have hb : bal = 0 := inv_end ⟨k0, k1⟩ hpr.1 hI hc.1 (fun hk => by rw [h2 hk, if_neg (by omega)])
    simp only [rows] at hrows
    have e := (Prod.mk.inj hrows).1
    subst e
    subst hb
    exact end_ev _ _ (by omega) _
  | succ d ih =>
    intro j bal before acc hj hI h2 hbef hacc hrows hist
    by_cases hb : 0 < bal
    · obtain ⟨s1, s2, s3, s4⟩ := IPlan.step r0 r1 hI hb
      have hI' := hI
      obtain ⟨i0, i1, i2, i3, i4⟩ := hI'
      have mb := month_bd bal rate (by omega) r0 r1
      obtain ⟨D, eD, d0, d1, d2⟩ := due_ok hv v hs h0 hl (m := j + 1) (by omega) (by omega)
      have dn := day_next hv v hs h0 hl j
      have ej : (((j + 1 : Nat) : Int)) = (j : Int) + 1 := by omega
      rw [ej] at eD d2
      have hp1 : kind = 1 → partV kind pr cnt P ((j : Int) + 1) bal (month bal rate) = eqp pr cnt ((j : Int) + 1) := fun e => by
        subst e
        unfold partV eqp
        rw [if_neg (by omega), if_pos rfl]
      have hq1 : kind = 1 → 1 ≤ eqp pr cnt ((j : Int) + 1) := fun e => by
        subst e
        exact eqp_pos hc.1 hpr.1 hI hb
      have hp2 : kind = 2 → partV kind pr cnt P ((j : Int) + 1) bal (month bal rate) = if (j : Int) + 1 < cnt then 0 else bal := fun e => by
        subst e
        unfold partV
        rw [if_neg (by omega), if_neg (by omega)]
      have hp0 : kind = 0 → partV kind pr cnt P ((j : Int) + 1) bal (month bal rate) = mn (P - month bal rate) bal := fun e => by
        subst e
        unfold partV
        rw [if_pos rfl]
      have hn : ¬ (month bal rate = 0 ∧ partV kind pr cnt P ((j : Int) + 1) bal (month bal rate) = 0) := fun hh => by
        by_cases e0 : kind = 0
        · have := (s4 e0).2
          omega
        · by_cases e1 : kind = 1
          · have := hq1 e1
            have := hp1 e1
            omega
          · have e2 : kind = 2 := by omega
            have := h2 e2
            rw [if_pos (by omega)] at this
            rw [this] at hh
            exact nos e2 hh.1
      rw [rows_step d acc hb hn eD] at hrows
      have hend : bal - partV kind pr cnt P ((j : Int) + 1) bal (month bal rate) = 0 → (j : Int) = (L.length : Int) - 1 := fun hz => by
        rw [rows_done _ _ _ _ (by omega)] at hrows
        have e := (Prod.mk.inj hrows).1
        rw [← e, List.length_append, List.length_singleton]
        omega
      obtain ⟨r, hr⟩ := rows_pre _ _ _ _ _ hrows
      have hr' : L = acc ++ (⟨D, month bal rate, partV kind pr cnt P ((j : Int) + 1) bal (month bal rate), false⟩ : S41) :: r := by rw [hr, List.append_assoc]; rfl
      have hrow : rd_T41 L (j : Int) = ⟨D, month bal rate, partV kind pr cnt P ((j : Int) + 1) bal (month bal rate), false⟩ := by rw [hr']; exact rd41 acc r _ hacc
      have hjL : j < L.length := by rw [hr', List.length_append, List.length_cons]; omega
      have nx := ih (j + 1) (bal - partV kind pr cnt P ((j : Int) + 1) bal (month bal rate)) D (acc ++ [⟨D, month bal rate, partV kind pr cnt P ((j : Int) + 1) bal (month bal rate), false⟩]) (by omega) (by rw [ej]; exact s3) (fun e => by
        rw [hp2 e, ej, h2 e, if_pos (by omega)]
        split <;> omega) (by omega) (by rw [List.length_append, List.length_singleton]; omega) (by rw [ej]; exact hrows) (fun e i hi => by
        by_cases ei : i = j
        · subst ei
          rw [hrow]
          exact hp1 e
        · exact hist e i (by omega))
      have ht : arrearslaw3_turn.f kind pr rate cnt start rule first (j : Int) = some ((j : Int) + 1) := by
        unfold arrearslaw3_turn.f
        rw [w64 (x := (j : Int) + 1) (by omega) (by omega)]
        by_cases e2 : kind = 2
        · rw [if_pos e2, if_neg (by rw [hf]; exact nos e2)]
        · rw [if_neg e2]
      refine round_ev L (by omega) j hjL bal before D _ hrow hb (by omega) ⟨r0, r1⟩ ⟨s1, s2⟩ (by omega) ?_ _ ht d2 nx
      unfold arrearslaw3_share.okp
      refine ⟨by omega, by omega, by omega, ?_⟩
      have q0 : (rd_T41 L (j : Int)).f2 = partV kind pr cnt P ((j : Int) + 1) bal (month bal rate) := by rw [hrow]
      have q1 : (rd_T41 L (j : Int)).f1 = month bal rate := by rw [hrow]
      rw [q0, q1]
      by_cases e0 : kind = 0
      · rw [if_pos e0]
        obtain ⟨t1, t2⟩ := s4 e0
        rw [hp0 e0] at hend t2 ⊢
        unfold mn at *
        by_cases c : bal < P - month bal rate
        · rw [if_pos c] at hend t2 ⊢
          rw [if_pos (hend (by omega)), w64 (by omega) (by omega)]
          omega
        · rw [if_neg c] at hend t2 ⊢
          rw [w64 (by omega) (by omega)]
          split <;> omega
      · rw [if_neg e0]
        by_cases e1 : kind = 1
        · rw [if_pos e1]
          have u1 := hq1 e1
          rw [hp1 e1] at q0 ⊢
          have u2 : (rd_T41 L 0).f2 = eqp pr cnt 1 := by
            by_cases z : j = 0
            · subst z
              exact q0
            · exact hist e1 0 (by omega)
          have hq0 : 0 ≤ pr / cnt := Int.ediv_nonneg (by omega) (by omega)
          have hq2 : pr / cnt ≤ pr := Int.ediv_le_self cnt (by omega)
          have ub : ∀ m, pr / cnt ≤ eqp pr cnt m ∧ eqp pr cnt m ≤ pr / cnt + 1 := fun m => by unfold eqp; split <;> omega
          have umono : ∀ m m', m ≤ m' → eqp pr cnt m' ≤ eqp pr cnt m := fun m m' h => by unfold eqp; split <;> split <;> omega
          have ub1 := ub 1
          have ubj := ub ((j : Int) + 1)
          have um := umono 1 ((j : Int) + 1) (by omega)
          rw [u2, w64 (by omega) (by omega)]
          refine ⟨u1, um, by omega, ?_⟩
          by_cases z : j = 0
          · left; omega
          · right
            have u3 := hist e1 (j - 1) (by omega)
            rw [show (((j - 1 : Nat) : Int)) = (j : Int) - 1 by omega] at u3
            rw [u3]
            exact umono _ _ (by omega)
        · rw [if_neg e1]
          have e2 : kind = 2 := by omega
          rw [hp2 e2] at hend ⊢
          by_cases c : (j : Int) + 1 < cnt
          · right
            rw [if_pos c]
          · left
            rw [if_neg c] at hend
            exact hend (by omega)
    · rw [rows_done _ _ _ _ hb] at hrows
      have e := (Prod.mk.inj hrows).1
      subst e
      obtain ⟨i0, i1, i2, i3, i4⟩ := hI
      obtain rfl : bal = 0 := by omega
      exact end_ev _ _ (by omega) _
end
end
theorem lend_eq (pr rate cnt : Int) : arrearslaw3_lending.f pr rate cnt = some (decide ((1 ≤ pr ∧ pr ≤ 10000000000000) ∧ (0 ≤ rate ∧ rate ≤ 100000) ∧ 1 ≤ cnt ∧ cnt ≤ 120)) := by
  unfold arrearslaw3_lending.f
  by_cases h : (1 ≤ pr ∧ pr ≤ 10000000000000) ∧ (0 ≤ rate ∧ rate ≤ 100000) ∧ 1 ≤ cnt ∧ cnt ≤ 120
  · rw [decide_eq_true h]
    obtain ⟨⟨p0, p1⟩, ⟨r0, r1⟩, c0, c1⟩ := h
    rw [if_pos p0, if_pos p1, if_pos r0, if_pos r1, if_pos c0, decide_eq_true c1]
  · rw [decide_eq_false h]
    refine itf (fun p0 => itf (fun p1 => itf (fun r0 => itf (fun r1 => itf (fun c0 => ?_)))))
    rw [decide_eq_false (fun c1 => h ⟨⟨p0, p1⟩, ⟨r0, r1⟩, c0, c1⟩)]
theorem j0_skip (k : Nat) (l : List Int) (a0 a1 a2 a3 a4 a5 : Int) : arrearslaw3_InterestAmortizes.j0 (k + 1) l true a0 a1 a2 a3 a4 a5 = some true := by
  simp only [arrearslaw3_InterestAmortizes.j0]
  rw [if_pos True.intro]
theorem j1_skip (k : Nat) (l : List Int) (a0 a1 a2 a3 a4 a5 : Int) : arrearslaw3_InterestAmortizes.j1 (k + 1) l true a0 a1 a2 a3 a4 a5 = some true := by
  simp only [arrearslaw3_InterestAmortizes.j1]
  rw [if_pos True.intro]
theorem out_ev (kind pr rate cnt start rule : Int) (l : List Int) (h : ¬ (VT kind pr rate cnt start rule ∧ start ≤ 3640000 ∧ l.length ≤ 4)) (k : Nat) : arrearslaw3_InterestAmortizes.f (k + 2) kind pr rate cnt start rule l = some true := by
  simp only [arrearslaw3_InterestAmortizes.f]
  rw [lend_eq, Option.bind_some]
  by_cases hl : (1 ≤ pr ∧ pr ≤ 10000000000000) ∧ (0 ≤ rate ∧ rate ≤ 100000) ∧ 1 ≤ cnt ∧ cnt ≤ 120
  · rw [decide_eq_true hl, if_pos rfl]
    by_cases c0 : kind < 0
    · rw [if_pos c0, j0_skip]
    rw [if_neg c0]
    by_cases c1 : kind > 2
    · rw [if_pos c1, j0_skip]
    rw [if_neg c1]
    by_cases c2 : rule < 0
    · rw [if_pos c2, j0_skip]
    rw [if_neg c2]
    by_cases c3 : rule > 3
    · rw [decide_eq_true c3, j0_skip]
    rw [decide_eq_false c3]
    simp only [arrearslaw3_InterestAmortizes.j0]
    rw [if_neg Bool.false_ne_true]
    by_cases c4 : start < 1
    · rw [if_pos c4, j1_skip]
    rw [if_neg c4]
    by_cases c5 : start > 3640000
    · rw [if_pos c5, j1_skip]
    rw [if_neg c5]
    by_cases c6 : (l.length : Int) > 4
    · rw [decide_eq_true c6, j1_skip]
    exact absurd ⟨⟨⟨by omega, by omega⟩, hl.1, hl.2.1, hl.2.2, ⟨by omega, by omega⟩, by omega, by omega⟩, by omega, by omega⟩ h
  · rw [decide_eq_false hl, if_neg Bool.false_ne_true, j0_skip]
section
variable {kind pr rate cnt start rule P anchor y mo : Int} {hol : List Int}
variable (hv : VT kind pr rate cnt start rule) (v : Valid y mo anchor) (hs : num y mo anchor = start) (h0 : start ≤ 3640000) (hl : hol.length ≤ 4)
include hv v hs h0 hl
/-- The rows are there, and the law's loop ends with true. -/
theorem in_ev (hLe : Least rate cnt.toNat pr P) : ∃ L, rows (partV kind pr cnt P) (dueV start anchor rule hol) rate cnt.toNat 1 pr [] = (L, true) ∧ 1 ≤ L.length ∧ (L.length : Int) ≤ cnt ∧ (kind = 2 → month pr rate = 0 → L.length = 1) ∧
    Ev (fun k => arrearslaw3_InterestAmortizes.l0 k hol L P (month pr rate) pr start 0 kind pr rate cnt start rule y mo anchor) true := by
  have hvv := hv
  obtain ⟨⟨k0, k1⟩, hpr, ⟨r0, r1⟩, hc, hst, hru⟩ := hvv
  have hds := day_start v hs
  have hlen := rows_len (partV kind pr cnt P) (dueV start anchor rule hol) rate cnt.toNat 1 pr []
  by_cases hB : kind = 2 ∧ month pr rate = 0
  · obtain ⟨D, eD, d0, d1, d2⟩ := due_ok hv v hs h0 hl (m := cnt.toNat) (by omega) (by omega)
    obtain ⟨_, b0, b1⟩ := due_in v hs h0 (m := cnt.toNat) (by omega)
    have ec : ((cnt.toNat : Nat) : Int) = cnt := by omega
    rw [ec] at eD d2 d0 b0
    have hpc : partV kind pr cnt P cnt pr (month pr rate) = pr := by
      unfold partV
      rw [if_neg (by omega), if_neg (by omega), if_neg (by omega)]
    have e : rows (partV kind pr cnt P) (dueV start anchor rule hol) rate cnt.toNat 1 pr [] = ([⟨D, month pr rate, pr, false⟩], true) := by
      obtain ⟨d, hd⟩ : ∃ d, cnt.toNat = d + 1 := ⟨cnt.toNat - 1, by omega⟩
      rw [hd, rows_skip (by omega) hB.2 (cnt := cnt) (fun m hm => by unfold partV; rw [if_neg (by omega), if_neg (by omega), if_pos hm]) [] d 1 (by omega), rows_step 0 [] (by omega) (by rw [hpc]; omega) eD, hpc]
      rfl
    refine ⟨_, e, Nat.le_refl _, by simp only [List.length_singleton]; omega, fun _ _ => rfl, ?_⟩
    have ht : arrearslaw3_turn.f kind pr rate cnt start rule (month pr rate) ((0 : Nat) : Int) = some cnt := by
      unfold arrearslaw3_turn.f
      rw [if_pos hB.1, if_pos hB.2]
    refine round_ev [⟨D, month pr rate, pr, false⟩] (by simp) 0 (by simp) pr start D pr rfl (by omega) (by omega) ⟨r0, r1⟩ ⟨by omega, by omega⟩ (by omega) ?_ _ ht d2 ?_
    · unfold arrearslaw3_share.okp
      refine ⟨by omega, by simp, by simp, ?_⟩
      rw [if_neg (by omega), if_neg (by omega)]
      left
      simp
    · rw [Int.sub_self]
      exact end_ev _ _ (by simp) _
  · have hok := rows_ok (pf := partV kind pr cnt P) (due := dueV start anchor rule hol) (rate := rate) (cnt := cnt) (fun m m0 m1 => by
      obtain ⟨D, eD, _⟩ := due_ok hv v hs h0 hl (m := m.toNat) (by omega) (by omega)
      rw [show ((m.toNat : Nat) : Int) = m by omega] at eD
      rw [eD]) cnt.toNat 1 pr [] (by omega) (by omega)
    obtain ⟨L, e⟩ : ∃ L, rows (partV kind pr cnt P) (dueV start anchor rule hol) rate cnt.toNat 1 pr [] = (L, true) := ⟨(rows (partV kind pr cnt P) (dueV start anchor rule hol) rate cnt.toNat 1 pr []).1, by rw [← hok]⟩
    rw [e] at hlen
    simp only [List.length_nil] at hlen
    have hI := inv_start (kind := kind) (rate := rate) (P := P) hpr.1 hc.1 (fun _ => hLe.2.2.1)
    have hev := loop_ev hv v hs h0 hl (P := P) (first := month pr rate) ⟨hLe.1, hLe.2.1⟩ L (by omega) (fun e2 e3 => hB ⟨e2, e3⟩) rfl cnt.toNat 0 pr start [] (by omega) hI (fun _ => by rw [if_pos (by omega)]) (by
      rw [show 12 * y + mo - 13 + ((0 : Nat) : Int) = 12 * y + mo - 13 by omega, hds]
      omega) rfl e (fun _ i hi => absurd hi (by omega))
    refine ⟨L, e, ?_, by omega, fun e2 e3 => absurd ⟨e2, e3⟩ hB, hev⟩
    cases L with
    | cons x L => simp
    | nil =>
      exfalso
      obtain ⟨K, h⟩ := Ev_out hev
      have h := h (K + 1) (by omega)
      simp only [arrearslaw3_InterestAmortizes.l0] at h
      rw [if_neg (by simp)] at h
      have h := Option.some.inj h
      have := eq_of_beq h
      omega
end
theorem InterestAmortizes_ev (kind pr rate cnt start rule : Int) (l1 : List Int) : ∃ k, arrearslaw3_InterestAmortizes.f k kind pr rate cnt start rule l1 = some true := by
  by_cases h : VT kind pr rate cnt start rule ∧ start ≤ 3640000 ∧ l1.length ≤ 4
  · obtain ⟨hv, h0, hl⟩ := h
    obtain ⟨P, y, mo, anchor, v, hs, hLe, hlev, hplan⟩ := plan_yes hv (show (l1.length : Int) ≤ 64 by omega)
    obtain ⟨L, e, l0, l2, l3, hloop⟩ := in_ev hv v hs h0 hl hLe
    rw [e] at hplan
    have hvv := hv
    obtain ⟨⟨k0, k1⟩, hpr, ⟨r0, r1⟩, hc, hst, hru⟩ := hvv
    obtain ⟨K1, e1⟩ := Ev_out hlev
    obtain ⟨K2, e2⟩ := Ev_out hplan
    obtain ⟨K3, e3⟩ := Ev_out (civil_ev v)
    obtain ⟨K4, e4⟩ := Ev_out (month_ev pr rate (by unfold I64; omega) (by unfold I64; omega))
    obtain ⟨K5, e5⟩ := Ev_out hloop
    obtain ⟨K6, e6⟩ := Ev_out (copied_ev l1 (by omega))
    have em : monthOk pr rate = (month pr rate, true) := if_pos ⟨by omega, r0, r1⟩
    rw [hs] at e3
    obtain ⟨k, hk⟩ : ∃ k, k = K1 + K2 + K3 + K4 + K5 + K6 := ⟨_, rfl⟩
    refine ⟨k + 5, ?_⟩
    simp only [arrearslaw3_InterestAmortizes.f]
    rw [lend_eq, decide_eq_true ⟨hpr, ⟨r0, r1⟩, hc⟩, Option.bind_some, if_pos rfl, if_neg (by omega), if_neg (by omega), if_neg (by omega), decide_eq_false (by omega)]
    simp only [arrearslaw3_InterestAmortizes.j0]
    rw [if_neg Bool.false_ne_true, if_neg (by omega), if_neg (by omega), decide_eq_false (by omega)]
    simp only [arrearslaw3_InterestAmortizes.j1]
    have et : (l1 ++ marks).take ((l1.length : Int)).toNat = l1 := by
      rw [Int.toNat_natCast]
      exact List.take_left
    rw [if_neg Bool.false_ne_true, e6 _ (by omega), Option.bind_some, if_pos (by omega), if_pos (by rw [List.length_append]; omega), et, e2 _ (by omega), Option.bind_some]
    dsimp only
    rw [if_pos rfl, if_neg (by omega), decide_eq_false (by omega)]
    simp only [arrearslaw3_InterestAmortizes.j2]
    rw [if_neg Bool.false_ne_true, e1 _ (by omega), Option.bind_some, e3 _ (by omega), Option.bind_some]
    dsimp only
    rw [if_pos rfl]
    simp only [arrearslaw3_InterestAmortizes.j3]
    rw [if_neg (by simp), e4 _ (by omega), em, Option.bind_some]
    dsimp only
    rw [if_pos rfl]
    have key : arrearslaw3_InterestAmortizes.j4 (k + 1) l1 L P (month pr rate) false kind pr rate cnt start rule y mo anchor = some true := by
      simp only [arrearslaw3_InterestAmortizes.j4]
      rw [if_neg Bool.false_ne_true]
      exact e5 k (by omega)
    by_cases c2 : kind = 2
    · rw [if_pos c2]
      by_cases c3 : month pr rate = 0
      · rw [if_pos c3, l3 c2 c3]
        exact key
      · rw [if_neg c3]
        exact key
    · rw [if_neg c2]
      exact key
  · exact ⟨2, out_ev kind pr rate cnt start rule l1 h 0⟩
end Go.Proofs.YtogmeijmdbgmdaaDoor.PureInterestAmortizes
