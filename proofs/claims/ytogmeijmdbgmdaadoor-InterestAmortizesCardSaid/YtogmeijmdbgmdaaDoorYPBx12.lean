-- Laid by wip/myprint.py, a driver over the kit's print, for this claim: a lemma's text, not read by a person.
import Derived.Test.YtogmeijmdbgmdaaDoorYPBx0
namespace Go.Proofs.YtogmeijmdbgmdaaDoor.PB
open Go.RowKit Go.Proofs.YtogmeijmdbgmdaaDoorW.PrintWords Go.Proofs.YtogmeijmdbgmdaaDoorW.PrintLast Go.Proofs.YtogmeijmdbgmdaaDoorW.PrintMore
attribute [local go_sem] max2_int min2_int max_two min_two max_three min_three max_four min_four   -- for this text's walks alone
set_option linter.unusedVariables false
set_option linter.unusedSimpArgs false

/-! ### arrearslaw3_share: function 15 -/
-- ALONE
def arrearslaw3_share.okp (a0 : Int) (l : List S41) (kk pay : Int) : Prop := 0 ≤ kk ∧ kk < l.length ∧ l.length ≤ 1000 ∧
  (if a0 = 0 then (if kk = (l.length : Int) - 1 then 1 ≤ (rd_T41 l kk).f2 ∧ wrap64 ((rd_T41 l kk).f1 + (rd_T41 l kk).f2) ≤ pay else 1 ≤ (rd_T41 l kk).f2 ∧ wrap64 ((rd_T41 l kk).f1 + (rd_T41 l kk).f2) = pay)
   else if a0 = 1 then 1 ≤ (rd_T41 l kk).f2 ∧ (rd_T41 l kk).f2 ≤ (rd_T41 l 0).f2 ∧ wrap64 ((rd_T41 l 0).f2 - 1) ≤ (rd_T41 l kk).f2 ∧ (kk = 0 ∨ (rd_T41 l kk).f2 ≤ (rd_T41 l (kk - 1)).f2) else (kk = (l.length : Int) - 1 ∨ (rd_T41 l kk).f2 = 0))
instance (a0 : Int) (l : List S41) (kk pay : Int) : Decidable (arrearslaw3_share.okp a0 l kk pay) := by unfold arrearslaw3_share.okp; infer_instance
def arrearslaw3_share.f (a0 a1 a2 a3 a4 a5 : Int) (l : List S41) (kk pay : Int) : Option Bool := if arrearslaw3_share.okp a0 l kk pay then some true else none
def ShRow (w : World) (gt gr : Nat) (T : Array Value) (q : S41) (W : World) : Prop := Below w.heap.size w W ∧ W.heap[gt]? = some (.cells T 23 (0, 0)) ∧ W.heap[gr]? = some (.cells #[.int .i64 q.f0, .int .i64 q.f1, .int .i64 q.f2, .bool q.f3] 41 (0, 0))
theorem sh_row (w : World) (gt gr : Nat) (T : Array Value) (q : S41) (W : World) (hB : Below w.heap.size w W) (hT : W.heap[gt]? = some (.cells T 23 (0, 0))) (hD : W.heap[gr]? = some (.cells #[.int .i64 0, .int .i64 0, .int .i64 0, .bool false] 41 (0, 0))) (hne : gt ≠ gr) (hg : w.heap.size ≤ gr) :
    ShRow w gt gr T q ((((W.setCell ⟨gr, 0, none⟩ (.int .i64 q.f0)).setCell ⟨gr, 1, none⟩ (.int .i64 q.f1)).setCell ⟨gr, 2, none⟩ (.int .i64 q.f2)).setCell ⟨gr, 3, none⟩ (.bool q.f3)) := by
  refine ⟨Below.setCell (p := ⟨gr, 3, none⟩) (Below.setCell (p := ⟨gr, 2, none⟩) (Below.setCell (p := ⟨gr, 1, none⟩) (Below.setCell (p := ⟨gr, 0, none⟩) hB hg _) hg _) hg _) hg _, ?_, ?_⟩
  · exact ((Below.heap_setCell _ _ _ _ hne).trans ((Below.heap_setCell _ _ _ _ hne).trans ((Below.heap_setCell _ _ _ _ hne).trans (Below.heap_setCell _ _ _ _ hne)))).trans hT
  · exact blk_put (cs' := #[.int .i64 q.f0, .int .i64 q.f1, .int .i64 q.f2, .bool q.f3]) (blk_put (cs' := #[.int .i64 q.f0, .int .i64 q.f1, .int .i64 q.f2, .bool false]) (blk_put (cs' := #[.int .i64 q.f0, .int .i64 q.f1, .int .i64 0, .bool false]) (blk_put (cs' := #[.int .i64 q.f0, .int .i64 0, .int .i64 0, .bool false]) hD 0 (.int .i64 q.f0) rfl) 1 (.int .i64 q.f1) rfl) 2 (.int .i64 q.f2) rfl) 3 (.bool q.f3) rfl
theorem sh_sum {P : Program} {c : Code} {a : Act} {Q : Exit → Act → World → Prop} {W : World} {S : World → Prop} (hs : S W) (h : ∀ w', S w' → Code.wp P c Q a w') : Code.wp P c Q a W := h W hs
set_option maxHeartbeats 8000000 in
set_option maxRecDepth 100000 in
theorem arrearslaw3_share.c0l (a0 a1 a2 a3 a4 a5 : Int) (A1 : Option Addr) (c1 : Nat) (l : List S41) (kk pay : Int) (w : World) (hr : Kd.C k41 w A1 l.length l) (hc : l.length ≤ c1) (h0 : 0 ≤ kk) (h1 : kk < l.length) (hlen : l.length ≤ 1000) (ha : a0 = 0) (hk : kk = (l.length : Int) - 1) (g1 : 1 ≤ (rd_T41 l kk).f2) (g2 : wrap64 ((rd_T41 l kk).f1 + (rd_T41 l kk).f2) ≤ pay) :
    Calls Tryd.prog 15 #[.agg #[.int .i64 a0, .int .i64 a1, .int .i64 a2, .int .i64 a3, .int .i64 a4, .int .i64 a5], .slice A1 l.length c1, .int .i64 kk, .int .i64 pay] w fun e w' => e = .returned (.bool true) ∧ Below w.heap.size w w' := by
  have hu23 := Tryd.underlying23
  have hu41 := Tryd.underlying41
  have HR := Aside0.mk hr
  have HB := Aside0.mk (Below.refl w.heap.size w)
  have hwl : wrap64 ((l.length : Int) - 1) = (l.length : Int) - 1 := by unfold wrap64; omega
  obtain ⟨ad, ea, hx0, hx1, hx2, hx3⟩ := at_T41 hr kk h0 h1
  subst ea
  obtain ⟨q, hq⟩ : ∃ q, q = rd_T41 l kk := ⟨_, rfl⟩
  obtain ⟨z, hz⟩ : ∃ z, z = rd_T41 l 0 := ⟨_, rfl⟩
  obtain ⟨p, hp⟩ : ∃ p, p = rd_T41 l (kk - 1) := ⟨_, rfl⟩
  rw [← hq] at hx0 hx1 hx2 hx3
  have t0 : (a0 == 0) = true := beq_iff_eq.2 ha
  rw [← hq] at g1 g2
  have l0 : (kk == (l.length : Int) - 1) = true := beq_iff_eq.2 hk
  have b1 : decide (1 ≤ q.f2) = true := decide_eq_true g1
  have b2 : decide (wrap64 (q.f1 + q.f2) ≤ pay) = true := decide_eq_true g2
  clear ha hk g1 g2
  have HX0 := Aside0.mk hx0
  replace hx0 := hx0
  clear hr hc hq hz hp
  have p0 := eq_true h0
  have p1 := eq_true h1
  have HLEN := Aside0.mk hlen
  clear h0 h1 hlen
  go_enter Tryd.func15, Tryd.ntmps15
  go_upto_region 2 with (first | ((with_reducible refine gate_dst (N := 4) rfl ?_); refine box_event ?hg (N := 4) ?hd (cs := #[.int .i64 a0, .int .i64 a1, .int .i64 a2, .int .i64 a3, .int .i64 a4, .int .i64 a5]) (t := 23) ?hr ?_; (case hd => rfl); (case hg => rfl); (case hr => first | (go_simp; done) | (go_simp; rfl)); intro gt hg w3 hbox hb; have n0_ := Aside0.mk (below_step (by repeat (first | (with_reducible first | exact HB.out | apply below_alloc | apply pw_below_drewN | apply below_drew1) | exact HB.out)) hb); have n1_ := Aside0.mk (hbox); clear HB hb hbox hg; have HB := n0_; have BT := n1_; clear n0_ n1_))
  replace hx0 := (HB.out.cell (World.block_lt_of_cell? w _ hx0)).trans hx0
  replace hx1 := (HB.out.cell (World.block_lt_of_cell? w _ hx1)).trans hx1
  replace hx2 := (HB.out.cell (World.block_lt_of_cell? w _ hx2)).trans hx2
  replace hx3 := (HB.out.cell (World.block_lt_of_cell? w _ hx3)).trans hx3
  go_upto_region 3 with (first | ((with_reducible refine gate_dst (N := 10) rfl ?_); refine box_event ?hg (N := 10) ?hd (cs := #[.int .i64 0, .int .i64 0, .int .i64 0, .bool false]) (t := 41) ?hr ?_; (case hd => rfl); (case hg => rfl); (case hr => first | (go_simp; done) | (go_simp; rfl)); intro gr hg w4 hbox hb; have n0_ := Aside0.mk (blk_below (by (with_reducible repeat (first | refine blk_drewN ?_ _ | refine blk_drew ?_ | refine blk_alloc ?_ _)); exact BT.out) hb); have n1_ := Aside0.mk ((hg ▸ Nat.ne_of_lt (blk_lt (by (with_reducible repeat (first | refine blk_drewN ?_ _ | refine blk_drew ?_ | refine blk_alloc ?_ _)); exact BT.out)) : gt ≠ gr)); have n2_ := Aside0.mk ((hg ▸ below_size (by repeat (first | (with_reducible first | exact HB.out | apply below_alloc | apply pw_below_drewN | apply below_drew1) | exact HB.out)) : w.heap.size ≤ gr)); have n3_ := Aside0.mk (hbox); have n4_ := Aside0.mk (below_step (by repeat (first | (with_reducible first | exact HB.out | apply below_alloc | apply pw_below_drewN | apply below_drew1) | exact HB.out)) hb); clear BT HB hb hbox hg; have BT := n0_; have GNE := n1_; have GR := n2_; have BR := n3_; have HB := n4_; clear n0_ n1_ n2_ n3_ n4_; have hr_0 : w4.cell? ⟨gr, 0, none⟩ = some (.int .i64 0) := (blk_cell BR.out 0).trans rfl; have hfr_0 := blk_frozen BR.out 0; have hr_1 : w4.cell? ⟨gr, 1, none⟩ = some (.int .i64 0) := (blk_cell BR.out 1).trans rfl; have hfr_1 := blk_frozen BR.out 1; have hr_2 : w4.cell? ⟨gr, 2, none⟩ = some (.int .i64 0) := (blk_cell BR.out 2).trans rfl; have hfr_2 := blk_frozen BR.out 2; have hr_3 : w4.cell? ⟨gr, 3, none⟩ = some (.bool false) := (blk_cell BR.out 3).trans rfl; have hfr_3 := blk_frozen BR.out 3))
  refine sh_sum (sh_row w gt gr #[.int .i64 a0, .int .i64 a1, .int .i64 a2, .int .i64 a3, .int .i64 a4, .int .i64 a5] q _ HB.out BT.out BR.out GNE.out GR.out) ?_
  clear HB BT BR hx0 hx1 hx2 hx3
  (try clear hr_0 hfr_0 hr_1 hfr_1 hr_2 hfr_2 hr_3 hfr_3)
  intro w7 hs
  obtain ⟨hs1, hs2, hs3⟩ := hs
  have n0_ := Aside0.mk (hs1)
  have n1_ := Aside0.mk (hs2)
  have n2_ := Aside0.mk (hs3)
  clear hs1 hs2 hs3
  have HB := n0_
  have BT := n1_
  have BR := n2_
  clear n0_ n1_ n2_
  have ht_0 : w7.cell? ⟨gt, 0, none⟩ = some (.int .i64 a0) := (blk_cell BT.out 0).trans rfl
  have hr_1 : w7.cell? ⟨gr, 1, none⟩ = some (.int .i64 q.f1) := (blk_cell BR.out 1).trans rfl
  have hr_2 : w7.cell? ⟨gr, 2, none⟩ = some (.int .i64 q.f2) := (blk_cell BR.out 2).trans rfl
  go_wp2
  go_ret
  exact ⟨rfl, (by repeat (first | (with_reducible first | exact HB.out | apply below_alloc | apply pw_below_drewN | apply below_drew1) | exact HB.out))⟩
set_option maxHeartbeats 8000000 in
set_option maxRecDepth 100000 in
theorem arrearslaw3_share.c0n (a0 a1 a2 a3 a4 a5 : Int) (A1 : Option Addr) (c1 : Nat) (l : List S41) (kk pay : Int) (w : World) (hr : Kd.C k41 w A1 l.length l) (hc : l.length ≤ c1) (h0 : 0 ≤ kk) (h1 : kk < l.length) (hlen : l.length ≤ 1000) (ha : a0 = 0) (hk : kk ≠ (l.length : Int) - 1) (g1 : 1 ≤ (rd_T41 l kk).f2) (g2 : wrap64 ((rd_T41 l kk).f1 + (rd_T41 l kk).f2) = pay) :
    Calls Tryd.prog 15 #[.agg #[.int .i64 a0, .int .i64 a1, .int .i64 a2, .int .i64 a3, .int .i64 a4, .int .i64 a5], .slice A1 l.length c1, .int .i64 kk, .int .i64 pay] w fun e w' => e = .returned (.bool true) ∧ Below w.heap.size w w' := by
  have hu23 := Tryd.underlying23
  have hu41 := Tryd.underlying41
  have HR := Aside0.mk hr
  have HB := Aside0.mk (Below.refl w.heap.size w)
  have hwl : wrap64 ((l.length : Int) - 1) = (l.length : Int) - 1 := by unfold wrap64; omega
  obtain ⟨ad, ea, hx0, hx1, hx2, hx3⟩ := at_T41 hr kk h0 h1
  subst ea
  obtain ⟨q, hq⟩ : ∃ q, q = rd_T41 l kk := ⟨_, rfl⟩
  obtain ⟨z, hz⟩ : ∃ z, z = rd_T41 l 0 := ⟨_, rfl⟩
  obtain ⟨p, hp⟩ : ∃ p, p = rd_T41 l (kk - 1) := ⟨_, rfl⟩
  rw [← hq] at hx0 hx1 hx2 hx3
  have t0 : (a0 == 0) = true := beq_iff_eq.2 ha
  rw [← hq] at g1 g2
  have l0 : (kk == (l.length : Int) - 1) = false := beq_eq_false_iff_ne.2 hk
  have b1 : decide (1 ≤ q.f2) = true := decide_eq_true g1
  have b2 : (wrap64 (q.f1 + q.f2) == pay) = true := beq_iff_eq.2 g2
  clear ha hk g1 g2
  have HX0 := Aside0.mk hx0
  replace hx0 := hx0
  clear hr hc hq hz hp
  have p0 := eq_true h0
  have p1 := eq_true h1
  have HLEN := Aside0.mk hlen
  clear h0 h1 hlen
  go_enter Tryd.func15, Tryd.ntmps15
  go_upto_region 2 with (first | ((with_reducible refine gate_dst (N := 4) rfl ?_); refine box_event ?hg (N := 4) ?hd (cs := #[.int .i64 a0, .int .i64 a1, .int .i64 a2, .int .i64 a3, .int .i64 a4, .int .i64 a5]) (t := 23) ?hr ?_; (case hd => rfl); (case hg => rfl); (case hr => first | (go_simp; done) | (go_simp; rfl)); intro gt hg w3 hbox hb; have n0_ := Aside0.mk (below_step (by repeat (first | (with_reducible first | exact HB.out | apply below_alloc | apply pw_below_drewN | apply below_drew1) | exact HB.out)) hb); have n1_ := Aside0.mk (hbox); clear HB hb hbox hg; have HB := n0_; have BT := n1_; clear n0_ n1_))
  replace hx0 := (HB.out.cell (World.block_lt_of_cell? w _ hx0)).trans hx0
  replace hx1 := (HB.out.cell (World.block_lt_of_cell? w _ hx1)).trans hx1
  replace hx2 := (HB.out.cell (World.block_lt_of_cell? w _ hx2)).trans hx2
  replace hx3 := (HB.out.cell (World.block_lt_of_cell? w _ hx3)).trans hx3
  go_upto_region 3 with (first | ((with_reducible refine gate_dst (N := 10) rfl ?_); refine box_event ?hg (N := 10) ?hd (cs := #[.int .i64 0, .int .i64 0, .int .i64 0, .bool false]) (t := 41) ?hr ?_; (case hd => rfl); (case hg => rfl); (case hr => first | (go_simp; done) | (go_simp; rfl)); intro gr hg w4 hbox hb; have n0_ := Aside0.mk (blk_below (by (with_reducible repeat (first | refine blk_drewN ?_ _ | refine blk_drew ?_ | refine blk_alloc ?_ _)); exact BT.out) hb); have n1_ := Aside0.mk ((hg ▸ Nat.ne_of_lt (blk_lt (by (with_reducible repeat (first | refine blk_drewN ?_ _ | refine blk_drew ?_ | refine blk_alloc ?_ _)); exact BT.out)) : gt ≠ gr)); have n2_ := Aside0.mk ((hg ▸ below_size (by repeat (first | (with_reducible first | exact HB.out | apply below_alloc | apply pw_below_drewN | apply below_drew1) | exact HB.out)) : w.heap.size ≤ gr)); have n3_ := Aside0.mk (hbox); have n4_ := Aside0.mk (below_step (by repeat (first | (with_reducible first | exact HB.out | apply below_alloc | apply pw_below_drewN | apply below_drew1) | exact HB.out)) hb); clear BT HB hb hbox hg; have BT := n0_; have GNE := n1_; have GR := n2_; have BR := n3_; have HB := n4_; clear n0_ n1_ n2_ n3_ n4_; have hr_0 : w4.cell? ⟨gr, 0, none⟩ = some (.int .i64 0) := (blk_cell BR.out 0).trans rfl; have hfr_0 := blk_frozen BR.out 0; have hr_1 : w4.cell? ⟨gr, 1, none⟩ = some (.int .i64 0) := (blk_cell BR.out 1).trans rfl; have hfr_1 := blk_frozen BR.out 1; have hr_2 : w4.cell? ⟨gr, 2, none⟩ = some (.int .i64 0) := (blk_cell BR.out 2).trans rfl; have hfr_2 := blk_frozen BR.out 2; have hr_3 : w4.cell? ⟨gr, 3, none⟩ = some (.bool false) := (blk_cell BR.out 3).trans rfl; have hfr_3 := blk_frozen BR.out 3))
  refine sh_sum (sh_row w gt gr #[.int .i64 a0, .int .i64 a1, .int .i64 a2, .int .i64 a3, .int .i64 a4, .int .i64 a5] q _ HB.out BT.out BR.out GNE.out GR.out) ?_
  clear HB BT BR hx0 hx1 hx2 hx3
  (try clear hr_0 hfr_0 hr_1 hfr_1 hr_2 hfr_2 hr_3 hfr_3)
  intro w7 hs
  obtain ⟨hs1, hs2, hs3⟩ := hs
  have n0_ := Aside0.mk (hs1)
  have n1_ := Aside0.mk (hs2)
  have n2_ := Aside0.mk (hs3)
  clear hs1 hs2 hs3
  have HB := n0_
  have BT := n1_
  have BR := n2_
  clear n0_ n1_ n2_
  have ht_0 : w7.cell? ⟨gt, 0, none⟩ = some (.int .i64 a0) := (blk_cell BT.out 0).trans rfl
  have hr_1 : w7.cell? ⟨gr, 1, none⟩ = some (.int .i64 q.f1) := (blk_cell BR.out 1).trans rfl
  have hr_2 : w7.cell? ⟨gr, 2, none⟩ = some (.int .i64 q.f2) := (blk_cell BR.out 2).trans rfl
  go_wp2
  go_ret
  exact ⟨rfl, (by repeat (first | (with_reducible first | exact HB.out | apply below_alloc | apply pw_below_drewN | apply below_drew1) | exact HB.out))⟩
set_option maxHeartbeats 8000000 in
set_option maxRecDepth 100000 in
theorem arrearslaw3_share.c2l (a0 a1 a2 a3 a4 a5 : Int) (A1 : Option Addr) (c1 : Nat) (l : List S41) (kk pay : Int) (w : World) (hr : Kd.C k41 w A1 l.length l) (hc : l.length ≤ c1) (h0 : 0 ≤ kk) (h1 : kk < l.length) (hlen : l.length ≤ 1000) (ha : a0 ≠ 0) (ha1 : a0 ≠ 1) (hk : kk = (l.length : Int) - 1) :
    Calls Tryd.prog 15 #[.agg #[.int .i64 a0, .int .i64 a1, .int .i64 a2, .int .i64 a3, .int .i64 a4, .int .i64 a5], .slice A1 l.length c1, .int .i64 kk, .int .i64 pay] w fun e w' => e = .returned (.bool true) ∧ Below w.heap.size w w' := by
  have hu23 := Tryd.underlying23
  have hu41 := Tryd.underlying41
  have HR := Aside0.mk hr
  have HB := Aside0.mk (Below.refl w.heap.size w)
  have hwl : wrap64 ((l.length : Int) - 1) = (l.length : Int) - 1 := by unfold wrap64; omega
  obtain ⟨ad, ea, hx0, hx1, hx2, hx3⟩ := at_T41 hr kk h0 h1
  subst ea
  obtain ⟨q, hq⟩ : ∃ q, q = rd_T41 l kk := ⟨_, rfl⟩
  obtain ⟨z, hz⟩ : ∃ z, z = rd_T41 l 0 := ⟨_, rfl⟩
  obtain ⟨p, hp⟩ : ∃ p, p = rd_T41 l (kk - 1) := ⟨_, rfl⟩
  rw [← hq] at hx0 hx1 hx2 hx3
  have t0 : (a0 == 0) = false := beq_eq_false_iff_ne.2 ha
  have t1 : (a0 == 1) = false := beq_eq_false_iff_ne.2 ha1
  have l0 : (kk == (l.length : Int) - 1) = true := beq_iff_eq.2 hk
  clear ha ha1 hk
  have HX0 := Aside0.mk hx0
  replace hx0 := hx0
  clear hr hc hq hz hp
  have p0 := eq_true h0
  have p1 := eq_true h1
  have HLEN := Aside0.mk hlen
  clear h0 h1 hlen
  go_enter Tryd.func15, Tryd.ntmps15
  go_upto_region 2 with (first | ((with_reducible refine gate_dst (N := 4) rfl ?_); refine box_event ?hg (N := 4) ?hd (cs := #[.int .i64 a0, .int .i64 a1, .int .i64 a2, .int .i64 a3, .int .i64 a4, .int .i64 a5]) (t := 23) ?hr ?_; (case hd => rfl); (case hg => rfl); (case hr => first | (go_simp; done) | (go_simp; rfl)); intro gt hg w3 hbox hb; have n0_ := Aside0.mk (below_step (by repeat (first | (with_reducible first | exact HB.out | apply below_alloc | apply pw_below_drewN | apply below_drew1) | exact HB.out)) hb); have n1_ := Aside0.mk (hbox); clear HB hb hbox hg; have HB := n0_; have BT := n1_; clear n0_ n1_))
  replace hx0 := (HB.out.cell (World.block_lt_of_cell? w _ hx0)).trans hx0
  replace hx1 := (HB.out.cell (World.block_lt_of_cell? w _ hx1)).trans hx1
  replace hx2 := (HB.out.cell (World.block_lt_of_cell? w _ hx2)).trans hx2
  replace hx3 := (HB.out.cell (World.block_lt_of_cell? w _ hx3)).trans hx3
  go_upto_region 3 with (first | ((with_reducible refine gate_dst (N := 10) rfl ?_); refine box_event ?hg (N := 10) ?hd (cs := #[.int .i64 0, .int .i64 0, .int .i64 0, .bool false]) (t := 41) ?hr ?_; (case hd => rfl); (case hg => rfl); (case hr => first | (go_simp; done) | (go_simp; rfl)); intro gr hg w4 hbox hb; have n0_ := Aside0.mk (blk_below (by (with_reducible repeat (first | refine blk_drewN ?_ _ | refine blk_drew ?_ | refine blk_alloc ?_ _)); exact BT.out) hb); have n1_ := Aside0.mk ((hg ▸ Nat.ne_of_lt (blk_lt (by (with_reducible repeat (first | refine blk_drewN ?_ _ | refine blk_drew ?_ | refine blk_alloc ?_ _)); exact BT.out)) : gt ≠ gr)); have n2_ := Aside0.mk ((hg ▸ below_size (by repeat (first | (with_reducible first | exact HB.out | apply below_alloc | apply pw_below_drewN | apply below_drew1) | exact HB.out)) : w.heap.size ≤ gr)); have n3_ := Aside0.mk (hbox); have n4_ := Aside0.mk (below_step (by repeat (first | (with_reducible first | exact HB.out | apply below_alloc | apply pw_below_drewN | apply below_drew1) | exact HB.out)) hb); clear BT HB hb hbox hg; have BT := n0_; have GNE := n1_; have GR := n2_; have BR := n3_; have HB := n4_; clear n0_ n1_ n2_ n3_ n4_; have hr_0 : w4.cell? ⟨gr, 0, none⟩ = some (.int .i64 0) := (blk_cell BR.out 0).trans rfl; have hfr_0 := blk_frozen BR.out 0; have hr_1 : w4.cell? ⟨gr, 1, none⟩ = some (.int .i64 0) := (blk_cell BR.out 1).trans rfl; have hfr_1 := blk_frozen BR.out 1; have hr_2 : w4.cell? ⟨gr, 2, none⟩ = some (.int .i64 0) := (blk_cell BR.out 2).trans rfl; have hfr_2 := blk_frozen BR.out 2; have hr_3 : w4.cell? ⟨gr, 3, none⟩ = some (.bool false) := (blk_cell BR.out 3).trans rfl; have hfr_3 := blk_frozen BR.out 3))
  refine sh_sum (sh_row w gt gr #[.int .i64 a0, .int .i64 a1, .int .i64 a2, .int .i64 a3, .int .i64 a4, .int .i64 a5] q _ HB.out BT.out BR.out GNE.out GR.out) ?_
  clear HB BT BR hx0 hx1 hx2 hx3
  (try clear hr_0 hfr_0 hr_1 hfr_1 hr_2 hfr_2 hr_3 hfr_3)
  intro w7 hs
  obtain ⟨hs1, hs2, hs3⟩ := hs
  have n0_ := Aside0.mk (hs1)
  have n1_ := Aside0.mk (hs2)
  have n2_ := Aside0.mk (hs3)
  clear hs1 hs2 hs3
  have HB := n0_
  have BT := n1_
  have BR := n2_
  clear n0_ n1_ n2_
  have ht_0 : w7.cell? ⟨gt, 0, none⟩ = some (.int .i64 a0) := (blk_cell BT.out 0).trans rfl
  have hr_1 : w7.cell? ⟨gr, 1, none⟩ = some (.int .i64 q.f1) := (blk_cell BR.out 1).trans rfl
  have hr_2 : w7.cell? ⟨gr, 2, none⟩ = some (.int .i64 q.f2) := (blk_cell BR.out 2).trans rfl
  go_wp2
  go_ret
  exact ⟨rfl, (by repeat (first | (with_reducible first | exact HB.out | apply below_alloc | apply pw_below_drewN | apply below_drew1) | exact HB.out))⟩
set_option maxHeartbeats 8000000 in
set_option maxRecDepth 100000 in
theorem arrearslaw3_share.c2n (a0 a1 a2 a3 a4 a5 : Int) (A1 : Option Addr) (c1 : Nat) (l : List S41) (kk pay : Int) (w : World) (hr : Kd.C k41 w A1 l.length l) (hc : l.length ≤ c1) (h0 : 0 ≤ kk) (h1 : kk < l.length) (hlen : l.length ≤ 1000) (ha : a0 ≠ 0) (ha1 : a0 ≠ 1) (hk : kk ≠ (l.length : Int) - 1) (g1 : (rd_T41 l kk).f2 = 0) :
    Calls Tryd.prog 15 #[.agg #[.int .i64 a0, .int .i64 a1, .int .i64 a2, .int .i64 a3, .int .i64 a4, .int .i64 a5], .slice A1 l.length c1, .int .i64 kk, .int .i64 pay] w fun e w' => e = .returned (.bool true) ∧ Below w.heap.size w w' := by
  have hu23 := Tryd.underlying23
  have hu41 := Tryd.underlying41
  have HR := Aside0.mk hr
  have HB := Aside0.mk (Below.refl w.heap.size w)
  have hwl : wrap64 ((l.length : Int) - 1) = (l.length : Int) - 1 := by unfold wrap64; omega
  obtain ⟨ad, ea, hx0, hx1, hx2, hx3⟩ := at_T41 hr kk h0 h1
  subst ea
  obtain ⟨q, hq⟩ : ∃ q, q = rd_T41 l kk := ⟨_, rfl⟩
  obtain ⟨z, hz⟩ : ∃ z, z = rd_T41 l 0 := ⟨_, rfl⟩
  obtain ⟨p, hp⟩ : ∃ p, p = rd_T41 l (kk - 1) := ⟨_, rfl⟩
  rw [← hq] at hx0 hx1 hx2 hx3
  have t0 : (a0 == 0) = false := beq_eq_false_iff_ne.2 ha
  have t1 : (a0 == 1) = false := beq_eq_false_iff_ne.2 ha1
  rw [← hq] at g1
  have l0 : (kk == (l.length : Int) - 1) = false := beq_eq_false_iff_ne.2 hk
  have b1 : (q.f2 == 0) = true := beq_iff_eq.2 g1
  clear ha ha1 hk g1
  have HX0 := Aside0.mk hx0
  replace hx0 := hx0
  clear hr hc hq hz hp
  have p0 := eq_true h0
  have p1 := eq_true h1
  have HLEN := Aside0.mk hlen
  clear h0 h1 hlen
  go_enter Tryd.func15, Tryd.ntmps15
  go_upto_region 2 with (first | ((with_reducible refine gate_dst (N := 4) rfl ?_); refine box_event ?hg (N := 4) ?hd (cs := #[.int .i64 a0, .int .i64 a1, .int .i64 a2, .int .i64 a3, .int .i64 a4, .int .i64 a5]) (t := 23) ?hr ?_; (case hd => rfl); (case hg => rfl); (case hr => first | (go_simp; done) | (go_simp; rfl)); intro gt hg w3 hbox hb; have n0_ := Aside0.mk (below_step (by repeat (first | (with_reducible first | exact HB.out | apply below_alloc | apply pw_below_drewN | apply below_drew1) | exact HB.out)) hb); have n1_ := Aside0.mk (hbox); clear HB hb hbox hg; have HB := n0_; have BT := n1_; clear n0_ n1_))
  replace hx0 := (HB.out.cell (World.block_lt_of_cell? w _ hx0)).trans hx0
  replace hx1 := (HB.out.cell (World.block_lt_of_cell? w _ hx1)).trans hx1
  replace hx2 := (HB.out.cell (World.block_lt_of_cell? w _ hx2)).trans hx2
  replace hx3 := (HB.out.cell (World.block_lt_of_cell? w _ hx3)).trans hx3
  go_upto_region 3 with (first | ((with_reducible refine gate_dst (N := 10) rfl ?_); refine box_event ?hg (N := 10) ?hd (cs := #[.int .i64 0, .int .i64 0, .int .i64 0, .bool false]) (t := 41) ?hr ?_; (case hd => rfl); (case hg => rfl); (case hr => first | (go_simp; done) | (go_simp; rfl)); intro gr hg w4 hbox hb; have n0_ := Aside0.mk (blk_below (by (with_reducible repeat (first | refine blk_drewN ?_ _ | refine blk_drew ?_ | refine blk_alloc ?_ _)); exact BT.out) hb); have n1_ := Aside0.mk ((hg ▸ Nat.ne_of_lt (blk_lt (by (with_reducible repeat (first | refine blk_drewN ?_ _ | refine blk_drew ?_ | refine blk_alloc ?_ _)); exact BT.out)) : gt ≠ gr)); have n2_ := Aside0.mk ((hg ▸ below_size (by repeat (first | (with_reducible first | exact HB.out | apply below_alloc | apply pw_below_drewN | apply below_drew1) | exact HB.out)) : w.heap.size ≤ gr)); have n3_ := Aside0.mk (hbox); have n4_ := Aside0.mk (below_step (by repeat (first | (with_reducible first | exact HB.out | apply below_alloc | apply pw_below_drewN | apply below_drew1) | exact HB.out)) hb); clear BT HB hb hbox hg; have BT := n0_; have GNE := n1_; have GR := n2_; have BR := n3_; have HB := n4_; clear n0_ n1_ n2_ n3_ n4_; have hr_0 : w4.cell? ⟨gr, 0, none⟩ = some (.int .i64 0) := (blk_cell BR.out 0).trans rfl; have hfr_0 := blk_frozen BR.out 0; have hr_1 : w4.cell? ⟨gr, 1, none⟩ = some (.int .i64 0) := (blk_cell BR.out 1).trans rfl; have hfr_1 := blk_frozen BR.out 1; have hr_2 : w4.cell? ⟨gr, 2, none⟩ = some (.int .i64 0) := (blk_cell BR.out 2).trans rfl; have hfr_2 := blk_frozen BR.out 2; have hr_3 : w4.cell? ⟨gr, 3, none⟩ = some (.bool false) := (blk_cell BR.out 3).trans rfl; have hfr_3 := blk_frozen BR.out 3))
  refine sh_sum (sh_row w gt gr #[.int .i64 a0, .int .i64 a1, .int .i64 a2, .int .i64 a3, .int .i64 a4, .int .i64 a5] q _ HB.out BT.out BR.out GNE.out GR.out) ?_
  clear HB BT BR hx0 hx1 hx2 hx3
  (try clear hr_0 hfr_0 hr_1 hfr_1 hr_2 hfr_2 hr_3 hfr_3)
  intro w7 hs
  obtain ⟨hs1, hs2, hs3⟩ := hs
  have n0_ := Aside0.mk (hs1)
  have n1_ := Aside0.mk (hs2)
  have n2_ := Aside0.mk (hs3)
  clear hs1 hs2 hs3
  have HB := n0_
  have BT := n1_
  have BR := n2_
  clear n0_ n1_ n2_
  have ht_0 : w7.cell? ⟨gt, 0, none⟩ = some (.int .i64 a0) := (blk_cell BT.out 0).trans rfl
  have hr_1 : w7.cell? ⟨gr, 1, none⟩ = some (.int .i64 q.f1) := (blk_cell BR.out 1).trans rfl
  have hr_2 : w7.cell? ⟨gr, 2, none⟩ = some (.int .i64 q.f2) := (blk_cell BR.out 2).trans rfl
  go_wp2
  go_ret
  exact ⟨rfl, (by repeat (first | (with_reducible first | exact HB.out | apply below_alloc | apply pw_below_drewN | apply below_drew1) | exact HB.out))⟩
set_option maxHeartbeats 8000000 in
set_option maxRecDepth 100000 in
theorem arrearslaw3_share.c1z (a0 a1 a2 a3 a4 a5 : Int) (A1 : Option Addr) (c1 : Nat) (l : List S41) (kk pay : Int) (w : World) (hr : Kd.C k41 w A1 l.length l) (hc : l.length ≤ c1) (h0 : 0 ≤ kk) (h1 : kk < l.length) (hlen : l.length ≤ 1000) (ha : a0 ≠ 0) (ha1 : a0 = 1) (g1 : 1 ≤ (rd_T41 l kk).f2) (g2 : (rd_T41 l kk).f2 ≤ (rd_T41 l 0).f2) (g3 : wrap64 ((rd_T41 l 0).f2 - 1) ≤ (rd_T41 l kk).f2) (hk : kk = 0) :
    Calls Tryd.prog 15 #[.agg #[.int .i64 a0, .int .i64 a1, .int .i64 a2, .int .i64 a3, .int .i64 a4, .int .i64 a5], .slice A1 l.length c1, .int .i64 kk, .int .i64 pay] w fun e w' => e = .returned (.bool true) ∧ Below w.heap.size w w' := by
  have hu23 := Tryd.underlying23
  have hu41 := Tryd.underlying41
  have HR := Aside0.mk hr
  have HB := Aside0.mk (Below.refl w.heap.size w)
  have hwl : wrap64 ((l.length : Int) - 1) = (l.length : Int) - 1 := by unfold wrap64; omega
  obtain ⟨ad, ea, hx0, hx1, hx2, hx3⟩ := at_T41 hr kk h0 h1
  subst ea
  obtain ⟨q, hq⟩ : ∃ q, q = rd_T41 l kk := ⟨_, rfl⟩
  obtain ⟨z, hz⟩ : ∃ z, z = rd_T41 l 0 := ⟨_, rfl⟩
  obtain ⟨p, hp⟩ : ∃ p, p = rd_T41 l (kk - 1) := ⟨_, rfl⟩
  rw [← hq] at hx0 hx1 hx2 hx3
  have t0 : (a0 == 0) = false := beq_eq_false_iff_ne.2 ha
  have t1 : (a0 == 1) = true := beq_iff_eq.2 ha1
  rw [← hq, ← hz] at g2
  rw [← hq, ← hz] at g3
  rw [← hq] at g1
  have b1 : decide (1 ≤ q.f2) = true := decide_eq_true g1
  have b2 : decide (q.f2 ≤ z.f2) = true := decide_eq_true g2
  have b3 : decide (wrap64 (z.f2 - 1) ≤ q.f2) = true := decide_eq_true g3
  obtain ⟨ad', ea', _, _, hz2, _⟩ := at_T41 hr 0 (by omega) (by omega)
  obtain rfl := Option.some.inj ea'
  rw [← hz, show ((0 : Int)).toNat * 4 = 0 from rfl, Addr.add_zero'] at hz2
  have HZ2 := Aside0.mk hz2
  clear hz2
  have pz : ((0 : Int) < (l.length : Int)) = True := eq_true (by omega)
  have pz2 : (0 < l.length) = True := eq_true (by omega)
  have b4 : (kk == 0) = true := beq_iff_eq.2 hk
  clear ha ha1 g1 g2 g3 hk
  have HX0 := Aside0.mk hx0
  replace hx0 := hx0
  clear hr hc hq hz hp
  have p0 := eq_true h0
  have p1 := eq_true h1
  have HLEN := Aside0.mk hlen
  clear h0 h1 hlen
  go_enter Tryd.func15, Tryd.ntmps15
  go_upto_region 2 with (first | ((with_reducible refine gate_dst (N := 4) rfl ?_); refine box_event ?hg (N := 4) ?hd (cs := #[.int .i64 a0, .int .i64 a1, .int .i64 a2, .int .i64 a3, .int .i64 a4, .int .i64 a5]) (t := 23) ?hr ?_; (case hd => rfl); (case hg => rfl); (case hr => first | (go_simp; done) | (go_simp; rfl)); intro gt hg w3 hbox hb; have n0_ := Aside0.mk (below_step (by repeat (first | (with_reducible first | exact HB.out | apply below_alloc | apply pw_below_drewN | apply below_drew1) | exact HB.out)) hb); have n1_ := Aside0.mk (hbox); clear HB hb hbox hg; have HB := n0_; have BT := n1_; clear n0_ n1_))
  replace hx0 := (HB.out.cell (World.block_lt_of_cell? w _ hx0)).trans hx0
  replace hx1 := (HB.out.cell (World.block_lt_of_cell? w _ hx1)).trans hx1
  replace hx2 := (HB.out.cell (World.block_lt_of_cell? w _ hx2)).trans hx2
  replace hx3 := (HB.out.cell (World.block_lt_of_cell? w _ hx3)).trans hx3
  go_upto_region 3 with (first | ((with_reducible refine gate_dst (N := 10) rfl ?_); refine box_event ?hg (N := 10) ?hd (cs := #[.int .i64 0, .int .i64 0, .int .i64 0, .bool false]) (t := 41) ?hr ?_; (case hd => rfl); (case hg => rfl); (case hr => first | (go_simp; done) | (go_simp; rfl)); intro gr hg w4 hbox hb; have n0_ := Aside0.mk (blk_below (by (with_reducible repeat (first | refine blk_drewN ?_ _ | refine blk_drew ?_ | refine blk_alloc ?_ _)); exact BT.out) hb); have n1_ := Aside0.mk ((hg ▸ Nat.ne_of_lt (blk_lt (by (with_reducible repeat (first | refine blk_drewN ?_ _ | refine blk_drew ?_ | refine blk_alloc ?_ _)); exact BT.out)) : gt ≠ gr)); have n2_ := Aside0.mk ((hg ▸ below_size (by repeat (first | (with_reducible first | exact HB.out | apply below_alloc | apply pw_below_drewN | apply below_drew1) | exact HB.out)) : w.heap.size ≤ gr)); have n3_ := Aside0.mk (hbox); have n4_ := Aside0.mk (below_step (by repeat (first | (with_reducible first | exact HB.out | apply below_alloc | apply pw_below_drewN | apply below_drew1) | exact HB.out)) hb); clear BT HB hb hbox hg; have BT := n0_; have GNE := n1_; have GR := n2_; have BR := n3_; have HB := n4_; clear n0_ n1_ n2_ n3_ n4_; have hr_0 : w4.cell? ⟨gr, 0, none⟩ = some (.int .i64 0) := (blk_cell BR.out 0).trans rfl; have hfr_0 := blk_frozen BR.out 0; have hr_1 : w4.cell? ⟨gr, 1, none⟩ = some (.int .i64 0) := (blk_cell BR.out 1).trans rfl; have hfr_1 := blk_frozen BR.out 1; have hr_2 : w4.cell? ⟨gr, 2, none⟩ = some (.int .i64 0) := (blk_cell BR.out 2).trans rfl; have hfr_2 := blk_frozen BR.out 2; have hr_3 : w4.cell? ⟨gr, 3, none⟩ = some (.bool false) := (blk_cell BR.out 3).trans rfl; have hfr_3 := blk_frozen BR.out 3))
  refine sh_sum (sh_row w gt gr #[.int .i64 a0, .int .i64 a1, .int .i64 a2, .int .i64 a3, .int .i64 a4, .int .i64 a5] q _ HB.out BT.out BR.out GNE.out GR.out) ?_
  clear HB BT BR hx0 hx1 hx2 hx3
  (try clear hr_0 hfr_0 hr_1 hfr_1 hr_2 hfr_2 hr_3 hfr_3)
  intro w7 hs
  obtain ⟨hs1, hs2, hs3⟩ := hs
  have n0_ := Aside0.mk (hs1)
  have n1_ := Aside0.mk (hs2)
  have n2_ := Aside0.mk (hs3)
  clear hs1 hs2 hs3
  have HB := n0_
  have BT := n1_
  have BR := n2_
  clear n0_ n1_ n2_
  have ht_0 : w7.cell? ⟨gt, 0, none⟩ = some (.int .i64 a0) := (blk_cell BT.out 0).trans rfl
  have hr_1 : w7.cell? ⟨gr, 1, none⟩ = some (.int .i64 q.f1) := (blk_cell BR.out 1).trans rfl
  have hr_2 : w7.cell? ⟨gr, 2, none⟩ = some (.int .i64 q.f2) := (blk_cell BR.out 2).trans rfl
  go_upto_region 8 with (fail)
  have hz2 := (HB.out.cell (World.block_lt_of_cell? w _ HZ2.out)).trans HZ2.out
  refine start_ (n := 38) (S := fun w' => w'.cell? ⟨gr, 2, none⟩ = some (.int .i64 q.f2) ∧ w'.cell? ⟨ad.block, ad.off + 2, none⟩ = some (.int .i64 z.f2)) (ds := []) #[false, false, false, false, false, false, false, false, false, false, false, false, false, false, false, false, false, false, false, false, false, false, false, false, false, false, false, false, false, false, false, false, false, false, false, false, false, false] (by kernel_rfl) rfl rfl ⟨(blk_cell BR.out 2).trans rfl, hz2⟩ (fun hHeld => ?_)
  refine pure_ (i := 0) (N := some 51) (v := ?_) (a' := ?_) #[true, false, false, false, false, false, false, false, false, false, false, false, false, false, false, false, false, false, false, false, false, false, false, false, false, false, false, false, false, false, false, false, false, false, false, false, false, false] rfl rfl (by kernel_rfl) (fun _ _ _ h => h) (Or.inl ⟨by rfl, ?_⟩) ?_ ?_
  rotate_left
  · intro w'
    go_simp
    with_reducible rfl
  rotate_left
  · simp only [Act.put, List.setIfInBounds_toArray, List.set_cons_zero, List.set_cons_succ, i64_w, i32_w]
    rfl
  refine take_ (i := 1) (N := some 52) (v := ?_) (a' := ?_) #[true, true, false, false, false, false, false, false, false, false, false, false, false, false, false, false, false, false, false, false, false, false, false, false, false, false, false, false, false, false, false, false, false, false, false, false, false, false] rfl rfl (by kernel_rfl) (fun _ _ _ h => h) (Or.inl ⟨by rfl, ?_⟩) hHeld ?_ ?_
  rotate_left
  · rintro w' ⟨s0, s1⟩
    go_simp
    with_reducible rfl
  rotate_left
  · simp only [Act.put, List.setIfInBounds_toArray, List.set_cons_zero, List.set_cons_succ, i64_w, i32_w]
    rfl
  refine pure_ (i := 2) (N := some 53) (v := ?_) (a' := ?_) #[true, true, true, false, false, false, false, false, false, false, false, false, false, false, false, false, false, false, false, false, false, false, false, false, false, false, false, false, false, false, false, false, false, false, false, false, false, false] rfl rfl (by kernel_rfl) (fun _ _ _ h => h) (Or.inl ⟨by rfl, ?_⟩) ?_ ?_
  rotate_left
  · intro w'
    go_simp
    with_reducible rfl
  rotate_left
  · simp only [Act.put, List.setIfInBounds_toArray, List.set_cons_zero, List.set_cons_succ, i64_w, i32_w]
    rfl
  refine pure_ (i := 3) (N := some 54) (v := ?_) (a' := ?_) #[true, true, true, true, false, false, false, false, false, false, false, false, false, false, false, false, false, false, false, false, false, false, false, false, false, false, false, false, false, false, false, false, false, false, false, false, false, false] rfl rfl (by kernel_rfl) (fun _ _ _ h => h) (Or.inl ⟨by rfl, ?_⟩) ?_ ?_
  rotate_left
  · intro w'
    go_simp
    with_reducible rfl
  rotate_left
  · simp only [Act.put, List.setIfInBounds_toArray, List.set_cons_zero, List.set_cons_succ, i64_w, i32_w]
    rfl
  refine pure_ (i := 4) (N := some 55) (v := ?_) (a' := ?_) #[true, true, true, true, true, false, false, false, false, false, false, false, false, false, false, false, false, false, false, false, false, false, false, false, false, false, false, false, false, false, false, false, false, false, false, false, false, false] rfl rfl (by kernel_rfl) (fun _ _ _ h => h) (Or.inl ⟨by rfl, ?_⟩) ?_ ?_
  rotate_left
  · intro w'
    go_simp
    with_reducible rfl
  rotate_left
  · simp only [Act.put, List.setIfInBounds_toArray, List.set_cons_zero, List.set_cons_succ, i64_w, i32_w]
    rfl
  refine pure_ (i := 6) (N := some 57) (v := ?_) (a' := ?_) #[true, true, true, true, true, false, true, false, false, false, false, false, false, false, false, false, false, false, false, false, false, false, false, false, false, false, false, false, false, false, false, false, false, false, false, false, false, false] rfl rfl (by kernel_rfl) (fun _ _ _ h => h) (Or.inl ⟨by rfl, ?_⟩) ?_ ?_
  rotate_left
  · intro w'
    go_simp
    with_reducible rfl
  rotate_left
  · simp only [Act.put, List.setIfInBounds_toArray, List.set_cons_zero, List.set_cons_succ, i64_w, i32_w]
    rfl
  refine pure_ (i := 7) (N := some 58) (v := ?_) (a' := ?_) #[true, true, true, true, true, false, true, true, false, false, false, false, false, false, false, false, false, false, false, false, false, false, false, false, false, false, false, false, false, false, false, false, false, false, false, false, false, false] rfl rfl (by kernel_rfl) (fun _ _ _ h => h) (Or.inl ⟨by rfl, ?_⟩) ?_ ?_
  rotate_left
  · intro w'
    go_simp
    with_reducible rfl
  rotate_left
  · simp only [Act.put, List.setIfInBounds_toArray, List.set_cons_zero, List.set_cons_succ, i64_w, i32_w]
    rfl
  refine pure_ (i := 8) (N := some 59) (v := ?_) (a' := ?_) #[true, true, true, true, true, false, true, true, true, false, false, false, false, false, false, false, false, false, false, false, false, false, false, false, false, false, false, false, false, false, false, false, false, false, false, false, false, false] rfl rfl (by kernel_rfl) (fun _ _ _ h => h) (Or.inl ⟨by rfl, ?_⟩) ?_ ?_
  rotate_left
  · intro w'
    go_simp
    with_reducible rfl
  rotate_left
  · simp only [Act.put, List.setIfInBounds_toArray, List.set_cons_zero, List.set_cons_succ, i64_w, i32_w]
    rfl
  refine take_ (i := 5) (N := some 56) (v := ?_) (a' := ?_) #[true, true, true, true, true, true, true, true, true, false, false, false, false, false, false, false, false, false, false, false, false, false, false, false, false, false, false, false, false, false, false, false, false, false, false, false, false, false] rfl rfl (by kernel_rfl) (fun _ _ _ h => h) (Or.inl ⟨by rfl, ?_⟩) hHeld ?_ ?_
  rotate_left
  · rintro w' ⟨s0, s1⟩
    go_simp
    with_reducible rfl
  rotate_left
  · simp only [Act.put, List.setIfInBounds_toArray, List.set_cons_zero, List.set_cons_succ, i64_w, i32_w]
    rfl
  refine take_ (i := 9) (N := some 60) (v := ?_) (a' := ?_) #[true, true, true, true, true, true, true, true, true, true, false, false, false, false, false, false, false, false, false, false, false, false, false, false, false, false, false, false, false, false, false, false, false, false, false, false, false, false] rfl rfl (by kernel_rfl) (fun _ _ _ h => h) (Or.inl ⟨by rfl, ?_⟩) hHeld ?_ ?_
  rotate_left
  · rintro w' ⟨s0, s1⟩
    go_simp
    with_reducible rfl
  rotate_left
  · simp only [Act.put, List.setIfInBounds_toArray, List.set_cons_zero, List.set_cons_succ, i64_w, i32_w]
    rfl
  refine pure_ (i := 10) (N := some 61) (v := ?_) (a' := ?_) #[true, true, true, true, true, true, true, true, true, true, true, false, false, false, false, false, false, false, false, false, false, false, false, false, false, false, false, false, false, false, false, false, false, false, false, false, false, false] rfl rfl (by kernel_rfl) (fun _ _ _ h => h) (Or.inl ⟨by rfl, ?_⟩) ?_ ?_
  rotate_left
  · intro w'
    go_simp
    with_reducible rfl
  rotate_left
  · simp only [Act.put, List.setIfInBounds_toArray, List.set_cons_zero, List.set_cons_succ, i64_w, i32_w]
    rfl
  refine pure_ (i := 11) (N := some 62) (v := ?_) (a' := ?_) #[true, true, true, true, true, true, true, true, true, true, true, true, false, false, false, false, false, false, false, false, false, false, false, false, false, false, false, false, false, false, false, false, false, false, false, false, false, false] rfl rfl (by kernel_rfl) (fun _ _ _ h => h) (Or.inl ⟨by rfl, ?_⟩) ?_ ?_
  rotate_left
  · intro w'
    go_simp
    with_reducible rfl
  rotate_left
  · simp only [Act.put, List.setIfInBounds_toArray, List.set_cons_zero, List.set_cons_succ, i64_w, i32_w]
    rfl
  refine pure_ (i := 12) (N := some 63) (v := ?_) (a' := ?_) #[true, true, true, true, true, true, true, true, true, true, true, true, true, false, false, false, false, false, false, false, false, false, false, false, false, false, false, false, false, false, false, false, false, false, false, false, false, false] rfl rfl (by kernel_rfl) (fun _ _ _ h => h) (Or.inl ⟨by rfl, ?_⟩) ?_ ?_
  rotate_left
  · intro w'
    go_simp
    with_reducible rfl
  rotate_left
  · simp only [Act.put, List.setIfInBounds_toArray, List.set_cons_zero, List.set_cons_succ, i64_w, i32_w]
    rfl
  refine pure_ (i := 13) (N := some 64) (v := ?_) (a' := ?_) #[true, true, true, true, true, true, true, true, true, true, true, true, true, true, false, false, false, false, false, false, false, false, false, false, false, false, false, false, false, false, false, false, false, false, false, false, false, false] rfl rfl (by kernel_rfl) (fun _ _ _ h => h) (Or.inl ⟨by rfl, ?_⟩) ?_ ?_
  rotate_left
  · intro w'
    go_simp
    with_reducible rfl
  rotate_left
  · simp only [Act.put, List.setIfInBounds_toArray, List.set_cons_zero, List.set_cons_succ, i64_w, i32_w]
    rfl
  refine pure_ (i := 15) (N := some 66) (v := ?_) (a' := ?_) #[true, true, true, true, true, true, true, true, true, true, true, true, true, true, false, true, false, false, false, false, false, false, false, false, false, false, false, false, false, false, false, false, false, false, false, false, false, false] rfl rfl (by kernel_rfl) (fun _ _ _ h => h) (Or.inl ⟨by rfl, ?_⟩) ?_ ?_
  rotate_left
  · intro w'
    go_simp
    with_reducible rfl
  rotate_left
  · simp only [Act.put, List.setIfInBounds_toArray, List.set_cons_zero, List.set_cons_succ, i64_w, i32_w]
    rfl
  refine pure_ (i := 16) (N := some 67) (v := ?_) (a' := ?_) #[true, true, true, true, true, true, true, true, true, true, true, true, true, true, false, true, true, false, false, false, false, false, false, false, false, false, false, false, false, false, false, false, false, false, false, false, false, false] rfl rfl (by kernel_rfl) (fun _ _ _ h => h) (Or.inl ⟨by rfl, ?_⟩) ?_ ?_
  rotate_left
  · intro w'
    go_simp
    with_reducible rfl
  rotate_left
  · simp only [Act.put, List.setIfInBounds_toArray, List.set_cons_zero, List.set_cons_succ, i64_w, i32_w]
    rfl
  refine pure_ (i := 17) (N := some 68) (v := ?_) (a' := ?_) #[true, true, true, true, true, true, true, true, true, true, true, true, true, true, false, true, true, true, false, false, false, false, false, false, false, false, false, false, false, false, false, false, false, false, false, false, false, false] rfl rfl (by kernel_rfl) (fun _ _ _ h => h) (Or.inl ⟨by rfl, ?_⟩) ?_ ?_
  rotate_left
  · intro w'
    go_simp
    with_reducible rfl
  rotate_left
  · simp only [Act.put, List.setIfInBounds_toArray, List.set_cons_zero, List.set_cons_succ, i64_w, i32_w]
    rfl
  refine take_ (i := 14) (N := some 65) (v := ?_) (a' := ?_) #[true, true, true, true, true, true, true, true, true, true, true, true, true, true, true, true, true, true, false, false, false, false, false, false, false, false, false, false, false, false, false, false, false, false, false, false, false, false] rfl rfl (by kernel_rfl) (fun _ _ _ h => h) (Or.inl ⟨by rfl, ?_⟩) hHeld ?_ ?_
  rotate_left
  · rintro w' ⟨s0, s1⟩
    go_simp
    with_reducible rfl
  rotate_left
  · simp only [Act.put, List.setIfInBounds_toArray, List.set_cons_zero, List.set_cons_succ, i64_w, i32_w]
    rfl
  refine take_ (i := 18) (N := some 69) (v := ?_) (a' := ?_) #[true, true, true, true, true, true, true, true, true, true, true, true, true, true, true, true, true, true, true, false, false, false, false, false, false, false, false, false, false, false, false, false, false, false, false, false, false, false] rfl rfl (by kernel_rfl) (fun _ _ _ h => h) (Or.inl ⟨by rfl, ?_⟩) hHeld ?_ ?_
  rotate_left
  · rintro w' ⟨s0, s1⟩
    go_simp
    with_reducible rfl
  rotate_left
  · simp only [Act.put, List.setIfInBounds_toArray, List.set_cons_zero, List.set_cons_succ, i64_w, i32_w]
    rfl
  refine pure_ (i := 19) (N := some 70) (v := ?_) (a' := ?_) #[true, true, true, true, true, true, true, true, true, true, true, true, true, true, true, true, true, true, true, true, false, false, false, false, false, false, false, false, false, false, false, false, false, false, false, false, false, false] rfl rfl (by kernel_rfl) (fun _ _ _ h => h) (Or.inl ⟨by rfl, ?_⟩) ?_ ?_
  rotate_left
  · intro w'
    go_simp
    with_reducible rfl
  rotate_left
  · simp only [Act.put, List.setIfInBounds_toArray, List.set_cons_zero, List.set_cons_succ, i64_w, i32_w]
    rfl
  refine pure_ (i := 20) (N := some 71) (v := ?_) (a' := ?_) #[true, true, true, true, true, true, true, true, true, true, true, true, true, true, true, true, true, true, true, true, true, false, false, false, false, false, false, false, false, false, false, false, false, false, false, false, false, false] rfl rfl (by kernel_rfl) (fun _ _ _ h => h) (Or.inl ⟨by rfl, ?_⟩) ?_ ?_
  rotate_left
  · intro w'
    go_simp
    with_reducible rfl
  rotate_left
  · simp only [Act.put, List.setIfInBounds_toArray, List.set_cons_zero, List.set_cons_succ, i64_w, i32_w]
    rfl
  refine pure_ (i := 21) (N := some 72) (v := ?_) (a' := ?_) #[true, true, true, true, true, true, true, true, true, true, true, true, true, true, true, true, true, true, true, true, true, true, false, false, false, false, false, false, false, false, false, false, false, false, false, false, false, false] rfl rfl (by kernel_rfl) (fun _ _ _ h => h) (Or.inl ⟨by rfl, ?_⟩) ?_ ?_
  rotate_left
  · intro w'
    go_simp
    with_reducible rfl
  rotate_left
  · simp only [Act.put, List.setIfInBounds_toArray, List.set_cons_zero, List.set_cons_succ, i64_w, i32_w]
    rfl
  refine pure_ (i := 22) (N := some 73) (v := ?_) (a' := ?_) #[true, true, true, true, true, true, true, true, true, true, true, true, true, true, true, true, true, true, true, true, true, true, true, false, false, false, false, false, false, false, false, false, false, false, false, false, false, false] rfl rfl (by kernel_rfl) (fun _ _ _ h => h) (Or.inl ⟨by rfl, ?_⟩) ?_ ?_
  rotate_left
  · intro w'
    go_simp
    with_reducible rfl
  rotate_left
  · simp only [Act.put, List.setIfInBounds_toArray, List.set_cons_zero, List.set_cons_succ, i64_w, i32_w]
    rfl
  refine pure_ (i := 23) (N := some 74) (v := ?_) (a' := ?_) #[true, true, true, true, true, true, true, true, true, true, true, true, true, true, true, true, true, true, true, true, true, true, true, true, false, false, false, false, false, false, false, false, false, false, false, false, false, false] rfl rfl (by kernel_rfl) (fun _ _ _ h => h) (Or.inl ⟨by rfl, ?_⟩) ?_ ?_
  rotate_left
  · intro w'
    go_simp
    with_reducible rfl
  rotate_left
  · simp only [Act.put, List.setIfInBounds_toArray, List.set_cons_zero, List.set_cons_succ, i64_w, i32_w]
    rfl
  refine pure_ (i := 24) (N := some 75) (v := ?_) (a' := ?_) #[true, true, true, true, true, true, true, true, true, true, true, true, true, true, true, true, true, true, true, true, true, true, true, true, true, false, false, false, false, false, false, false, false, false, false, false, false, false] rfl rfl (by kernel_rfl) (fun _ _ _ h => h) (Or.inl ⟨by rfl, ?_⟩) ?_ ?_
  rotate_left
  · intro w'
    go_simp
    with_reducible rfl
  rotate_left
  · simp only [Act.put, List.setIfInBounds_toArray, List.set_cons_zero, List.set_cons_succ, i64_w, i32_w]
    rfl
  refine pure_ (i := 25) (N := some 76) (v := ?_) (a' := ?_) #[true, true, true, true, true, true, true, true, true, true, true, true, true, true, true, true, true, true, true, true, true, true, true, true, true, true, false, false, false, false, false, false, false, false, false, false, false, false] rfl rfl (by kernel_rfl) (fun _ _ _ h => h) (Or.inl ⟨by rfl, ?_⟩) ?_ ?_
  rotate_left
  · intro w'
    go_simp
    with_reducible rfl
  rotate_left
  · simp only [Act.put, List.setIfInBounds_toArray, List.set_cons_zero, List.set_cons_succ, i64_w, i32_w]
    rfl
  refine pure_ (i := 26) (N := some 77) (v := undef) (a' := ?_) #[true, true, true, true, true, true, true, true, true, true, true, true, true, true, true, true, true, true, true, true, true, true, true, true, true, true, true, false, false, false, false, false, false, false, false, false, false, false] rfl rfl (by kernel_rfl) (fun _ _ _ h => h) (Or.inr ⟨by rfl, rfl⟩) ?_ ?_
  rotate_left
  · simp only [Act.put, List.setIfInBounds_toArray, List.set_cons_zero, List.set_cons_succ, i64_w, i32_w]
    rfl
  refine pure_ (i := 27) (N := some 78) (v := undef) (a' := ?_) #[true, true, true, true, true, true, true, true, true, true, true, true, true, true, true, true, true, true, true, true, true, true, true, true, true, true, true, true, false, false, false, false, false, false, false, false, false, false] rfl rfl (by kernel_rfl) (fun _ _ _ h => h) (Or.inr ⟨by rfl, rfl⟩) ?_ ?_
  rotate_left
  · simp only [Act.put, List.setIfInBounds_toArray, List.set_cons_zero, List.set_cons_succ, i64_w, i32_w]
    rfl
  refine pure_ (i := 28) (N := some 79) (v := undef) (a' := ?_) #[true, true, true, true, true, true, true, true, true, true, true, true, true, true, true, true, true, true, true, true, true, true, true, true, true, true, true, true, true, false, false, false, false, false, false, false, false, false] rfl rfl (by kernel_rfl) (fun _ _ _ h => h) (Or.inr ⟨by rfl, rfl⟩) ?_ ?_
  rotate_left
  · simp only [Act.put, List.setIfInBounds_toArray, List.set_cons_zero, List.set_cons_succ, i64_w, i32_w]
    rfl
  refine pure_ (i := 29) (N := some 80) (v := undef) (a' := ?_) #[true, true, true, true, true, true, true, true, true, true, true, true, true, true, true, true, true, true, true, true, true, true, true, true, true, true, true, true, true, true, false, false, false, false, false, false, false, false] rfl rfl (by kernel_rfl) (fun _ _ _ h => h) (Or.inr ⟨by rfl, rfl⟩) ?_ ?_
  rotate_left
  · simp only [Act.put, List.setIfInBounds_toArray, List.set_cons_zero, List.set_cons_succ, i64_w, i32_w]
    rfl
  refine pure_ (i := 30) (N := some 81) (v := undef) (a' := ?_) #[true, true, true, true, true, true, true, true, true, true, true, true, true, true, true, true, true, true, true, true, true, true, true, true, true, true, true, true, true, true, true, false, false, false, false, false, false, false] rfl rfl (by kernel_rfl) (fun _ _ _ h => h) (Or.inr ⟨by rfl, rfl⟩) ?_ ?_
  rotate_left
  · simp only [Act.put, List.setIfInBounds_toArray, List.set_cons_zero, List.set_cons_succ, i64_w, i32_w]
    rfl
  refine pure_ (i := 31) (N := some 82) (v := undef) (a' := ?_) #[true, true, true, true, true, true, true, true, true, true, true, true, true, true, true, true, true, true, true, true, true, true, true, true, true, true, true, true, true, true, true, true, false, false, false, false, false, false] rfl rfl (by kernel_rfl) (fun _ _ _ h => h) (Or.inr ⟨by rfl, rfl⟩) ?_ ?_
  rotate_left
  · simp only [Act.put, List.setIfInBounds_toArray, List.set_cons_zero, List.set_cons_succ, i64_w, i32_w]
    rfl
  refine pure_ (i := 32) (N := some 83) (v := undef) (a' := ?_) #[true, true, true, true, true, true, true, true, true, true, true, true, true, true, true, true, true, true, true, true, true, true, true, true, true, true, true, true, true, true, true, true, true, false, false, false, false, false] rfl rfl (by kernel_rfl) (fun _ _ _ h => h) (Or.inr ⟨by rfl, rfl⟩) ?_ ?_
  rotate_left
  · simp only [Act.put, List.setIfInBounds_toArray, List.set_cons_zero, List.set_cons_succ, i64_w, i32_w]
    rfl
  refine pure_ (i := 33) (N := some 84) (v := undef) (a' := ?_) #[true, true, true, true, true, true, true, true, true, true, true, true, true, true, true, true, true, true, true, true, true, true, true, true, true, true, true, true, true, true, true, true, true, true, false, false, false, false] rfl rfl (by kernel_rfl) (fun _ _ _ h => h) (Or.inr ⟨by rfl, rfl⟩) ?_ ?_
  rotate_left
  · simp only [Act.put, List.setIfInBounds_toArray, List.set_cons_zero, List.set_cons_succ, i64_w, i32_w]
    rfl
  refine pure_ (i := 34) (N := some 85) (v := undef) (a' := ?_) #[true, true, true, true, true, true, true, true, true, true, true, true, true, true, true, true, true, true, true, true, true, true, true, true, true, true, true, true, true, true, true, true, true, true, true, false, false, false] rfl rfl (by kernel_rfl) (fun _ _ _ h => h) (Or.inr ⟨by rfl, rfl⟩) ?_ ?_
  rotate_left
  · simp only [Act.put, List.setIfInBounds_toArray, List.set_cons_zero, List.set_cons_succ, i64_w, i32_w]
    rfl
  refine pure_ (i := 35) (N := some 86) (v := ?_) (a' := ?_) #[true, true, true, true, true, true, true, true, true, true, true, true, true, true, true, true, true, true, true, true, true, true, true, true, true, true, true, true, true, true, true, true, true, true, true, true, false, false] rfl rfl (by kernel_rfl) (fun _ _ _ h => h) (Or.inl ⟨by rfl, ?_⟩) ?_ ?_
  rotate_left
  · intro w'
    go_simp
    with_reducible rfl
  rotate_left
  · simp only [Act.put, List.setIfInBounds_toArray, List.set_cons_zero, List.set_cons_succ, i64_w, i32_w]
    rfl
  refine pure_ (i := 36) (N := some 87) (v := ?_) (a' := ?_) #[true, true, true, true, true, true, true, true, true, true, true, true, true, true, true, true, true, true, true, true, true, true, true, true, true, true, true, true, true, true, true, true, true, true, true, true, true, false] rfl rfl (by kernel_rfl) (fun _ _ _ h => h) (Or.inl ⟨by rfl, ?_⟩) ?_ ?_
  rotate_left
  · intro w'
    go_simp
    with_reducible rfl
  rotate_left
  · simp only [Act.put, List.setIfInBounds_toArray, List.set_cons_zero, List.set_cons_succ, i64_w, i32_w]
    rfl
  refine pure_ (i := 37) (N := some 8) (v := ?_) (a' := ?_) #[true, true, true, true, true, true, true, true, true, true, true, true, true, true, true, true, true, true, true, true, true, true, true, true, true, true, true, true, true, true, true, true, true, true, true, true, true, true] rfl rfl (by kernel_rfl) (fun _ _ _ h => h) (Or.inl ⟨by rfl, ?_⟩) ?_ ?_
  rotate_left
  · intro w'
    go_simp
    with_reducible rfl
  rotate_left
  · simp only [Act.put, List.setIfInBounds_toArray, List.set_cons_zero, List.set_cons_succ, i64_w, i32_w]
    rfl
  refine done_ (by kernel_rfl) ?_
  go_wp2
  go_ret
  exact ⟨rfl, (by repeat (first | (with_reducible first | exact HB.out | apply below_alloc | apply pw_below_drewN | apply below_drew1) | exact HB.out))⟩
set_option maxHeartbeats 8000000 in
set_option maxRecDepth 100000 in
theorem arrearslaw3_share.c1n (a0 a1 a2 a3 a4 a5 : Int) (A1 : Option Addr) (c1 : Nat) (l : List S41) (kk pay : Int) (w : World) (hr : Kd.C k41 w A1 l.length l) (hc : l.length ≤ c1) (h0 : 0 ≤ kk) (h1 : kk < l.length) (hlen : l.length ≤ 1000) (ha : a0 ≠ 0) (ha1 : a0 = 1) (g1 : 1 ≤ (rd_T41 l kk).f2) (g2 : (rd_T41 l kk).f2 ≤ (rd_T41 l 0).f2) (g3 : wrap64 ((rd_T41 l 0).f2 - 1) ≤ (rd_T41 l kk).f2) (hk : kk ≠ 0) (g4 : (rd_T41 l kk).f2 ≤ (rd_T41 l (kk - 1)).f2) :
    Calls Tryd.prog 15 #[.agg #[.int .i64 a0, .int .i64 a1, .int .i64 a2, .int .i64 a3, .int .i64 a4, .int .i64 a5], .slice A1 l.length c1, .int .i64 kk, .int .i64 pay] w fun e w' => e = .returned (.bool true) ∧ Below w.heap.size w w' := by
  have hu23 := Tryd.underlying23
  have hu41 := Tryd.underlying41
  have HR := Aside0.mk hr
  have HB := Aside0.mk (Below.refl w.heap.size w)
  have hwl : wrap64 ((l.length : Int) - 1) = (l.length : Int) - 1 := by unfold wrap64; omega
  obtain ⟨ad, ea, hx0, hx1, hx2, hx3⟩ := at_T41 hr kk h0 h1
  subst ea
  obtain ⟨q, hq⟩ : ∃ q, q = rd_T41 l kk := ⟨_, rfl⟩
  obtain ⟨z, hz⟩ : ∃ z, z = rd_T41 l 0 := ⟨_, rfl⟩
  obtain ⟨p, hp⟩ : ∃ p, p = rd_T41 l (kk - 1) := ⟨_, rfl⟩
  rw [← hq] at hx0 hx1 hx2 hx3
  have t0 : (a0 == 0) = false := beq_eq_false_iff_ne.2 ha
  have t1 : (a0 == 1) = true := beq_iff_eq.2 ha1
  rw [← hq, ← hz] at g2
  rw [← hq, ← hz] at g3
  rw [← hq] at g1
  have b1 : decide (1 ≤ q.f2) = true := decide_eq_true g1
  have b2 : decide (q.f2 ≤ z.f2) = true := decide_eq_true g2
  have b3 : decide (wrap64 (z.f2 - 1) ≤ q.f2) = true := decide_eq_true g3
  obtain ⟨ad', ea', _, _, hz2, _⟩ := at_T41 hr 0 (by omega) (by omega)
  obtain rfl := Option.some.inj ea'
  rw [← hz, show ((0 : Int)).toNat * 4 = 0 from rfl, Addr.add_zero'] at hz2
  have HZ2 := Aside0.mk hz2
  clear hz2
  have pz : ((0 : Int) < (l.length : Int)) = True := eq_true (by omega)
  have pz2 : (0 < l.length) = True := eq_true (by omega)
  have b4 : (kk == 0) = false := beq_eq_false_iff_ne.2 hk
  obtain ⟨kk1, hkk⟩ : ∃ x, x = kk - 1 := ⟨_, rfl⟩
  obtain ⟨ad'', ea'', _, _, hp2, _⟩ := at_T41 hr kk1 (by omega) (by omega)
  obtain rfl := Option.some.inj ea''
  rw [hkk, ← hp, ← hkk] at hp2
  have HP2 := Aside0.mk hp2
  clear hp2
  rw [← hq, ← hp] at g4
  have b5 : decide (q.f2 ≤ p.f2) = true := decide_eq_true g4
  have hw1 : wrap64 (kk - 1) = kk1 := by unfold wrap64; omega
  have p2 : (0 ≤ kk1) = True := eq_true (by omega)
  have p3 : (kk1 < (l.length : Int)) = True := eq_true (by omega)
  clear ha ha1 g1 g2 g3 g4 hk hkk
  have HX0 := Aside0.mk hx0
  replace hx0 := hx0
  clear hr hc hq hz hp
  have p0 := eq_true h0
  have p1 := eq_true h1
  have HLEN := Aside0.mk hlen
  clear h0 h1 hlen
  go_enter Tryd.func15, Tryd.ntmps15
  go_upto_region 2 with (first | ((with_reducible refine gate_dst (N := 4) rfl ?_); refine box_event ?hg (N := 4) ?hd (cs := #[.int .i64 a0, .int .i64 a1, .int .i64 a2, .int .i64 a3, .int .i64 a4, .int .i64 a5]) (t := 23) ?hr ?_; (case hd => rfl); (case hg => rfl); (case hr => first | (go_simp; done) | (go_simp; rfl)); intro gt hg w3 hbox hb; have n0_ := Aside0.mk (below_step (by repeat (first | (with_reducible first | exact HB.out | apply below_alloc | apply pw_below_drewN | apply below_drew1) | exact HB.out)) hb); have n1_ := Aside0.mk (hbox); clear HB hb hbox hg; have HB := n0_; have BT := n1_; clear n0_ n1_))
  replace hx0 := (HB.out.cell (World.block_lt_of_cell? w _ hx0)).trans hx0
  replace hx1 := (HB.out.cell (World.block_lt_of_cell? w _ hx1)).trans hx1
  replace hx2 := (HB.out.cell (World.block_lt_of_cell? w _ hx2)).trans hx2
  replace hx3 := (HB.out.cell (World.block_lt_of_cell? w _ hx3)).trans hx3
  go_upto_region 3 with (first | ((with_reducible refine gate_dst (N := 10) rfl ?_); refine box_event ?hg (N := 10) ?hd (cs := #[.int .i64 0, .int .i64 0, .int .i64 0, .bool false]) (t := 41) ?hr ?_; (case hd => rfl); (case hg => rfl); (case hr => first | (go_simp; done) | (go_simp; rfl)); intro gr hg w4 hbox hb; have n0_ := Aside0.mk (blk_below (by (with_reducible repeat (first | refine blk_drewN ?_ _ | refine blk_drew ?_ | refine blk_alloc ?_ _)); exact BT.out) hb); have n1_ := Aside0.mk ((hg ▸ Nat.ne_of_lt (blk_lt (by (with_reducible repeat (first | refine blk_drewN ?_ _ | refine blk_drew ?_ | refine blk_alloc ?_ _)); exact BT.out)) : gt ≠ gr)); have n2_ := Aside0.mk ((hg ▸ below_size (by repeat (first | (with_reducible first | exact HB.out | apply below_alloc | apply pw_below_drewN | apply below_drew1) | exact HB.out)) : w.heap.size ≤ gr)); have n3_ := Aside0.mk (hbox); have n4_ := Aside0.mk (below_step (by repeat (first | (with_reducible first | exact HB.out | apply below_alloc | apply pw_below_drewN | apply below_drew1) | exact HB.out)) hb); clear BT HB hb hbox hg; have BT := n0_; have GNE := n1_; have GR := n2_; have BR := n3_; have HB := n4_; clear n0_ n1_ n2_ n3_ n4_; have hr_0 : w4.cell? ⟨gr, 0, none⟩ = some (.int .i64 0) := (blk_cell BR.out 0).trans rfl; have hfr_0 := blk_frozen BR.out 0; have hr_1 : w4.cell? ⟨gr, 1, none⟩ = some (.int .i64 0) := (blk_cell BR.out 1).trans rfl; have hfr_1 := blk_frozen BR.out 1; have hr_2 : w4.cell? ⟨gr, 2, none⟩ = some (.int .i64 0) := (blk_cell BR.out 2).trans rfl; have hfr_2 := blk_frozen BR.out 2; have hr_3 : w4.cell? ⟨gr, 3, none⟩ = some (.bool false) := (blk_cell BR.out 3).trans rfl; have hfr_3 := blk_frozen BR.out 3))
  refine sh_sum (sh_row w gt gr #[.int .i64 a0, .int .i64 a1, .int .i64 a2, .int .i64 a3, .int .i64 a4, .int .i64 a5] q _ HB.out BT.out BR.out GNE.out GR.out) ?_
  clear HB BT BR hx0 hx1 hx2 hx3
  (try clear hr_0 hfr_0 hr_1 hfr_1 hr_2 hfr_2 hr_3 hfr_3)
  intro w7 hs
  obtain ⟨hs1, hs2, hs3⟩ := hs
  have n0_ := Aside0.mk (hs1)
  have n1_ := Aside0.mk (hs2)
  have n2_ := Aside0.mk (hs3)
  clear hs1 hs2 hs3
  have HB := n0_
  have BT := n1_
  have BR := n2_
  clear n0_ n1_ n2_
  have ht_0 : w7.cell? ⟨gt, 0, none⟩ = some (.int .i64 a0) := (blk_cell BT.out 0).trans rfl
  have hr_1 : w7.cell? ⟨gr, 1, none⟩ = some (.int .i64 q.f1) := (blk_cell BR.out 1).trans rfl
  have hr_2 : w7.cell? ⟨gr, 2, none⟩ = some (.int .i64 q.f2) := (blk_cell BR.out 2).trans rfl
  go_upto_region 8 with (fail)
  have hz2 := (HB.out.cell (World.block_lt_of_cell? w _ HZ2.out)).trans HZ2.out
  have hp2 := (HB.out.cell (World.block_lt_of_cell? w _ HP2.out)).trans HP2.out
  refine start_ (n := 38) (S := fun w' => w'.cell? ⟨gr, 2, none⟩ = some (.int .i64 q.f2) ∧ w'.cell? ⟨ad.block, ad.off + 2, none⟩ = some (.int .i64 z.f2) ∧ w'.cell? ⟨(ad.add (kk1.toNat * 4)).block, (ad.add (kk1.toNat * 4)).off + 2, none⟩ = some (.int .i64 p.f2)) (ds := []) #[false, false, false, false, false, false, false, false, false, false, false, false, false, false, false, false, false, false, false, false, false, false, false, false, false, false, false, false, false, false, false, false, false, false, false, false, false, false] (by kernel_rfl) rfl rfl ⟨(blk_cell BR.out 2).trans rfl, hz2, hp2⟩ (fun hHeld => ?_)
  refine pure_ (i := 0) (N := some 51) (v := ?_) (a' := ?_) #[true, false, false, false, false, false, false, false, false, false, false, false, false, false, false, false, false, false, false, false, false, false, false, false, false, false, false, false, false, false, false, false, false, false, false, false, false, false] rfl rfl (by kernel_rfl) (fun _ _ _ h => h) (Or.inl ⟨by rfl, ?_⟩) ?_ ?_
  rotate_left
  · intro w'
    go_simp
    with_reducible rfl
  rotate_left
  · simp only [Act.put, List.setIfInBounds_toArray, List.set_cons_zero, List.set_cons_succ, i64_w, i32_w]
    rfl
  refine take_ (i := 1) (N := some 52) (v := ?_) (a' := ?_) #[true, true, false, false, false, false, false, false, false, false, false, false, false, false, false, false, false, false, false, false, false, false, false, false, false, false, false, false, false, false, false, false, false, false, false, false, false, false] rfl rfl (by kernel_rfl) (fun _ _ _ h => h) (Or.inl ⟨by rfl, ?_⟩) hHeld ?_ ?_
  rotate_left
  · rintro w' ⟨s0, s1, s2⟩
    go_simp
    with_reducible rfl
  rotate_left
  · simp only [Act.put, List.setIfInBounds_toArray, List.set_cons_zero, List.set_cons_succ, i64_w, i32_w]
    rfl
  refine pure_ (i := 2) (N := some 53) (v := ?_) (a' := ?_) #[true, true, true, false, false, false, false, false, false, false, false, false, false, false, false, false, false, false, false, false, false, false, false, false, false, false, false, false, false, false, false, false, false, false, false, false, false, false] rfl rfl (by kernel_rfl) (fun _ _ _ h => h) (Or.inl ⟨by rfl, ?_⟩) ?_ ?_
  rotate_left
  · intro w'
    go_simp
    with_reducible rfl
  rotate_left
  · simp only [Act.put, List.setIfInBounds_toArray, List.set_cons_zero, List.set_cons_succ, i64_w, i32_w]
    rfl
  refine pure_ (i := 3) (N := some 54) (v := ?_) (a' := ?_) #[true, true, true, true, false, false, false, false, false, false, false, false, false, false, false, false, false, false, false, false, false, false, false, false, false, false, false, false, false, false, false, false, false, false, false, false, false, false] rfl rfl (by kernel_rfl) (fun _ _ _ h => h) (Or.inl ⟨by rfl, ?_⟩) ?_ ?_
  rotate_left
  · intro w'
    go_simp
    with_reducible rfl
  rotate_left
  · simp only [Act.put, List.setIfInBounds_toArray, List.set_cons_zero, List.set_cons_succ, i64_w, i32_w]
    rfl
  refine pure_ (i := 4) (N := some 55) (v := ?_) (a' := ?_) #[true, true, true, true, true, false, false, false, false, false, false, false, false, false, false, false, false, false, false, false, false, false, false, false, false, false, false, false, false, false, false, false, false, false, false, false, false, false] rfl rfl (by kernel_rfl) (fun _ _ _ h => h) (Or.inl ⟨by rfl, ?_⟩) ?_ ?_
  rotate_left
  · intro w'
    go_simp
    with_reducible rfl
  rotate_left
  · simp only [Act.put, List.setIfInBounds_toArray, List.set_cons_zero, List.set_cons_succ, i64_w, i32_w]
    rfl
  refine pure_ (i := 6) (N := some 57) (v := ?_) (a' := ?_) #[true, true, true, true, true, false, true, false, false, false, false, false, false, false, false, false, false, false, false, false, false, false, false, false, false, false, false, false, false, false, false, false, false, false, false, false, false, false] rfl rfl (by kernel_rfl) (fun _ _ _ h => h) (Or.inl ⟨by rfl, ?_⟩) ?_ ?_
  rotate_left
  · intro w'
    go_simp
    with_reducible rfl
  rotate_left
  · simp only [Act.put, List.setIfInBounds_toArray, List.set_cons_zero, List.set_cons_succ, i64_w, i32_w]
    rfl
  refine pure_ (i := 7) (N := some 58) (v := ?_) (a' := ?_) #[true, true, true, true, true, false, true, true, false, false, false, false, false, false, false, false, false, false, false, false, false, false, false, false, false, false, false, false, false, false, false, false, false, false, false, false, false, false] rfl rfl (by kernel_rfl) (fun _ _ _ h => h) (Or.inl ⟨by rfl, ?_⟩) ?_ ?_
  rotate_left
  · intro w'
    go_simp
    with_reducible rfl
  rotate_left
  · simp only [Act.put, List.setIfInBounds_toArray, List.set_cons_zero, List.set_cons_succ, i64_w, i32_w]
    rfl
  refine pure_ (i := 8) (N := some 59) (v := ?_) (a' := ?_) #[true, true, true, true, true, false, true, true, true, false, false, false, false, false, false, false, false, false, false, false, false, false, false, false, false, false, false, false, false, false, false, false, false, false, false, false, false, false] rfl rfl (by kernel_rfl) (fun _ _ _ h => h) (Or.inl ⟨by rfl, ?_⟩) ?_ ?_
  rotate_left
  · intro w'
    go_simp
    with_reducible rfl
  rotate_left
  · simp only [Act.put, List.setIfInBounds_toArray, List.set_cons_zero, List.set_cons_succ, i64_w, i32_w]
    rfl
  refine take_ (i := 5) (N := some 56) (v := ?_) (a' := ?_) #[true, true, true, true, true, true, true, true, true, false, false, false, false, false, false, false, false, false, false, false, false, false, false, false, false, false, false, false, false, false, false, false, false, false, false, false, false, false] rfl rfl (by kernel_rfl) (fun _ _ _ h => h) (Or.inl ⟨by rfl, ?_⟩) hHeld ?_ ?_
  rotate_left
  · rintro w' ⟨s0, s1, s2⟩
    go_simp
    with_reducible rfl
  rotate_left
  · simp only [Act.put, List.setIfInBounds_toArray, List.set_cons_zero, List.set_cons_succ, i64_w, i32_w]
    rfl
  refine take_ (i := 9) (N := some 60) (v := ?_) (a' := ?_) #[true, true, true, true, true, true, true, true, true, true, false, false, false, false, false, false, false, false, false, false, false, false, false, false, false, false, false, false, false, false, false, false, false, false, false, false, false, false] rfl rfl (by kernel_rfl) (fun _ _ _ h => h) (Or.inl ⟨by rfl, ?_⟩) hHeld ?_ ?_
  rotate_left
  · rintro w' ⟨s0, s1, s2⟩
    go_simp
    with_reducible rfl
  rotate_left
  · simp only [Act.put, List.setIfInBounds_toArray, List.set_cons_zero, List.set_cons_succ, i64_w, i32_w]
    rfl
  refine pure_ (i := 10) (N := some 61) (v := ?_) (a' := ?_) #[true, true, true, true, true, true, true, true, true, true, true, false, false, false, false, false, false, false, false, false, false, false, false, false, false, false, false, false, false, false, false, false, false, false, false, false, false, false] rfl rfl (by kernel_rfl) (fun _ _ _ h => h) (Or.inl ⟨by rfl, ?_⟩) ?_ ?_
  rotate_left
  · intro w'
    go_simp
    with_reducible rfl
  rotate_left
  · simp only [Act.put, List.setIfInBounds_toArray, List.set_cons_zero, List.set_cons_succ, i64_w, i32_w]
    rfl
  refine pure_ (i := 11) (N := some 62) (v := ?_) (a' := ?_) #[true, true, true, true, true, true, true, true, true, true, true, true, false, false, false, false, false, false, false, false, false, false, false, false, false, false, false, false, false, false, false, false, false, false, false, false, false, false] rfl rfl (by kernel_rfl) (fun _ _ _ h => h) (Or.inl ⟨by rfl, ?_⟩) ?_ ?_
  rotate_left
  · intro w'
    go_simp
    with_reducible rfl
  rotate_left
  · simp only [Act.put, List.setIfInBounds_toArray, List.set_cons_zero, List.set_cons_succ, i64_w, i32_w]
    rfl
  refine pure_ (i := 12) (N := some 63) (v := ?_) (a' := ?_) #[true, true, true, true, true, true, true, true, true, true, true, true, true, false, false, false, false, false, false, false, false, false, false, false, false, false, false, false, false, false, false, false, false, false, false, false, false, false] rfl rfl (by kernel_rfl) (fun _ _ _ h => h) (Or.inl ⟨by rfl, ?_⟩) ?_ ?_
  rotate_left
  · intro w'
    go_simp
    with_reducible rfl
  rotate_left
  · simp only [Act.put, List.setIfInBounds_toArray, List.set_cons_zero, List.set_cons_succ, i64_w, i32_w]
    rfl
  refine pure_ (i := 13) (N := some 64) (v := ?_) (a' := ?_) #[true, true, true, true, true, true, true, true, true, true, true, true, true, true, false, false, false, false, false, false, false, false, false, false, false, false, false, false, false, false, false, false, false, false, false, false, false, false] rfl rfl (by kernel_rfl) (fun _ _ _ h => h) (Or.inl ⟨by rfl, ?_⟩) ?_ ?_
  rotate_left
  · intro w'
    go_simp
    with_reducible rfl
  rotate_left
  · simp only [Act.put, List.setIfInBounds_toArray, List.set_cons_zero, List.set_cons_succ, i64_w, i32_w]
    rfl
  refine pure_ (i := 15) (N := some 66) (v := ?_) (a' := ?_) #[true, true, true, true, true, true, true, true, true, true, true, true, true, true, false, true, false, false, false, false, false, false, false, false, false, false, false, false, false, false, false, false, false, false, false, false, false, false] rfl rfl (by kernel_rfl) (fun _ _ _ h => h) (Or.inl ⟨by rfl, ?_⟩) ?_ ?_
  rotate_left
  · intro w'
    go_simp
    with_reducible rfl
  rotate_left
  · simp only [Act.put, List.setIfInBounds_toArray, List.set_cons_zero, List.set_cons_succ, i64_w, i32_w]
    rfl
  refine pure_ (i := 16) (N := some 67) (v := ?_) (a' := ?_) #[true, true, true, true, true, true, true, true, true, true, true, true, true, true, false, true, true, false, false, false, false, false, false, false, false, false, false, false, false, false, false, false, false, false, false, false, false, false] rfl rfl (by kernel_rfl) (fun _ _ _ h => h) (Or.inl ⟨by rfl, ?_⟩) ?_ ?_
  rotate_left
  · intro w'
    go_simp
    with_reducible rfl
  rotate_left
  · simp only [Act.put, List.setIfInBounds_toArray, List.set_cons_zero, List.set_cons_succ, i64_w, i32_w]
    rfl
  refine pure_ (i := 17) (N := some 68) (v := ?_) (a' := ?_) #[true, true, true, true, true, true, true, true, true, true, true, true, true, true, false, true, true, true, false, false, false, false, false, false, false, false, false, false, false, false, false, false, false, false, false, false, false, false] rfl rfl (by kernel_rfl) (fun _ _ _ h => h) (Or.inl ⟨by rfl, ?_⟩) ?_ ?_
  rotate_left
  · intro w'
    go_simp
    with_reducible rfl
  rotate_left
  · simp only [Act.put, List.setIfInBounds_toArray, List.set_cons_zero, List.set_cons_succ, i64_w, i32_w]
    rfl
  refine take_ (i := 14) (N := some 65) (v := ?_) (a' := ?_) #[true, true, true, true, true, true, true, true, true, true, true, true, true, true, true, true, true, true, false, false, false, false, false, false, false, false, false, false, false, false, false, false, false, false, false, false, false, false] rfl rfl (by kernel_rfl) (fun _ _ _ h => h) (Or.inl ⟨by rfl, ?_⟩) hHeld ?_ ?_
  rotate_left
  · rintro w' ⟨s0, s1, s2⟩
    go_simp
    with_reducible rfl
  rotate_left
  · simp only [Act.put, List.setIfInBounds_toArray, List.set_cons_zero, List.set_cons_succ, i64_w, i32_w]
    rfl
  refine take_ (i := 18) (N := some 69) (v := ?_) (a' := ?_) #[true, true, true, true, true, true, true, true, true, true, true, true, true, true, true, true, true, true, true, false, false, false, false, false, false, false, false, false, false, false, false, false, false, false, false, false, false, false] rfl rfl (by kernel_rfl) (fun _ _ _ h => h) (Or.inl ⟨by rfl, ?_⟩) hHeld ?_ ?_
  rotate_left
  · rintro w' ⟨s0, s1, s2⟩
    go_simp
    with_reducible rfl
  rotate_left
  · simp only [Act.put, List.setIfInBounds_toArray, List.set_cons_zero, List.set_cons_succ, i64_w, i32_w]
    rfl
  refine pure_ (i := 19) (N := some 70) (v := ?_) (a' := ?_) #[true, true, true, true, true, true, true, true, true, true, true, true, true, true, true, true, true, true, true, true, false, false, false, false, false, false, false, false, false, false, false, false, false, false, false, false, false, false] rfl rfl (by kernel_rfl) (fun _ _ _ h => h) (Or.inl ⟨by rfl, ?_⟩) ?_ ?_
  rotate_left
  · intro w'
    go_simp
    with_reducible rfl
  rotate_left
  · simp only [Act.put, List.setIfInBounds_toArray, List.set_cons_zero, List.set_cons_succ, i64_w, i32_w]
    rfl
  refine pure_ (i := 20) (N := some 71) (v := ?_) (a' := ?_) #[true, true, true, true, true, true, true, true, true, true, true, true, true, true, true, true, true, true, true, true, true, false, false, false, false, false, false, false, false, false, false, false, false, false, false, false, false, false] rfl rfl (by kernel_rfl) (fun _ _ _ h => h) (Or.inl ⟨by rfl, ?_⟩) ?_ ?_
  rotate_left
  · intro w'
    go_simp
    with_reducible rfl
  rotate_left
  · simp only [Act.put, List.setIfInBounds_toArray, List.set_cons_zero, List.set_cons_succ, i64_w, i32_w]
    rfl
  refine pure_ (i := 21) (N := some 72) (v := ?_) (a' := ?_) #[true, true, true, true, true, true, true, true, true, true, true, true, true, true, true, true, true, true, true, true, true, true, false, false, false, false, false, false, false, false, false, false, false, false, false, false, false, false] rfl rfl (by kernel_rfl) (fun _ _ _ h => h) (Or.inl ⟨by rfl, ?_⟩) ?_ ?_
  rotate_left
  · intro w'
    go_simp
    with_reducible rfl
  rotate_left
  · simp only [Act.put, List.setIfInBounds_toArray, List.set_cons_zero, List.set_cons_succ, i64_w, i32_w]
    rfl
  refine pure_ (i := 22) (N := some 73) (v := ?_) (a' := ?_) #[true, true, true, true, true, true, true, true, true, true, true, true, true, true, true, true, true, true, true, true, true, true, true, false, false, false, false, false, false, false, false, false, false, false, false, false, false, false] rfl rfl (by kernel_rfl) (fun _ _ _ h => h) (Or.inl ⟨by rfl, ?_⟩) ?_ ?_
  rotate_left
  · intro w'
    go_simp
    with_reducible rfl
  rotate_left
  · simp only [Act.put, List.setIfInBounds_toArray, List.set_cons_zero, List.set_cons_succ, i64_w, i32_w]
    rfl
  refine pure_ (i := 23) (N := some 74) (v := ?_) (a' := ?_) #[true, true, true, true, true, true, true, true, true, true, true, true, true, true, true, true, true, true, true, true, true, true, true, true, false, false, false, false, false, false, false, false, false, false, false, false, false, false] rfl rfl (by kernel_rfl) (fun _ _ _ h => h) (Or.inl ⟨by rfl, ?_⟩) ?_ ?_
  rotate_left
  · intro w'
    go_simp
    with_reducible rfl
  rotate_left
  · simp only [Act.put, List.setIfInBounds_toArray, List.set_cons_zero, List.set_cons_succ, i64_w, i32_w]
    rfl
  refine pure_ (i := 24) (N := some 75) (v := ?_) (a' := ?_) #[true, true, true, true, true, true, true, true, true, true, true, true, true, true, true, true, true, true, true, true, true, true, true, true, true, false, false, false, false, false, false, false, false, false, false, false, false, false] rfl rfl (by kernel_rfl) (fun _ _ _ h => h) (Or.inl ⟨by rfl, ?_⟩) ?_ ?_
  rotate_left
  · intro w'
    go_simp
    with_reducible rfl
  rotate_left
  · simp only [Act.put, List.setIfInBounds_toArray, List.set_cons_zero, List.set_cons_succ, i64_w, i32_w]
    rfl
  refine pure_ (i := 25) (N := some 76) (v := ?_) (a' := ?_) #[true, true, true, true, true, true, true, true, true, true, true, true, true, true, true, true, true, true, true, true, true, true, true, true, true, true, false, false, false, false, false, false, false, false, false, false, false, false] rfl rfl (by kernel_rfl) (fun _ _ _ h => h) (Or.inl ⟨by rfl, ?_⟩) ?_ ?_
  rotate_left
  · intro w'
    go_simp
    with_reducible rfl
  rotate_left
  · simp only [Act.put, List.setIfInBounds_toArray, List.set_cons_zero, List.set_cons_succ, i64_w, i32_w]
    rfl
  refine pure_ (i := 26) (N := some 77) (v := ?_) (a' := ?_) #[true, true, true, true, true, true, true, true, true, true, true, true, true, true, true, true, true, true, true, true, true, true, true, true, true, true, true, false, false, false, false, false, false, false, false, false, false, false] rfl rfl (by kernel_rfl) (fun _ _ _ h => h) (Or.inl ⟨by rfl, ?_⟩) ?_ ?_
  rotate_left
  · intro w'
    go_simp
    with_reducible rfl
  rotate_left
  · simp only [Act.put, List.setIfInBounds_toArray, List.set_cons_zero, List.set_cons_succ, i64_w, i32_w]
    rfl
  refine pure_ (i := 28) (N := some 79) (v := ?_) (a' := ?_) #[true, true, true, true, true, true, true, true, true, true, true, true, true, true, true, true, true, true, true, true, true, true, true, true, true, true, true, false, true, false, false, false, false, false, false, false, false, false] rfl rfl (by kernel_rfl) (fun _ _ _ h => h) (Or.inl ⟨by rfl, ?_⟩) ?_ ?_
  rotate_left
  · intro w'
    go_simp
    with_reducible rfl
  rotate_left
  · simp only [Act.put, List.setIfInBounds_toArray, List.set_cons_zero, List.set_cons_succ, i64_w, i32_w]
    rfl
  refine pure_ (i := 29) (N := some 80) (v := ?_) (a' := ?_) #[true, true, true, true, true, true, true, true, true, true, true, true, true, true, true, true, true, true, true, true, true, true, true, true, true, true, true, false, true, true, false, false, false, false, false, false, false, false] rfl rfl (by kernel_rfl) (fun _ _ _ h => h) (Or.inl ⟨by rfl, ?_⟩) ?_ ?_
  rotate_left
  · intro w'
    go_simp
    with_reducible rfl
  rotate_left
  · simp only [Act.put, List.setIfInBounds_toArray, List.set_cons_zero, List.set_cons_succ, i64_w, i32_w]
    rfl
  refine pure_ (i := 30) (N := some 81) (v := ?_) (a' := ?_) #[true, true, true, true, true, true, true, true, true, true, true, true, true, true, true, true, true, true, true, true, true, true, true, true, true, true, true, false, true, true, true, false, false, false, false, false, false, false] rfl rfl (by kernel_rfl) (fun _ _ _ h => h) (Or.inl ⟨by rfl, ?_⟩) ?_ ?_
  rotate_left
  · intro w'
    go_simp
    with_reducible rfl
  rotate_left
  · simp only [Act.put, List.setIfInBounds_toArray, List.set_cons_zero, List.set_cons_succ, i64_w, i32_w]
    rfl
  refine pure_ (i := 31) (N := some 82) (v := ?_) (a' := ?_) #[true, true, true, true, true, true, true, true, true, true, true, true, true, true, true, true, true, true, true, true, true, true, true, true, true, true, true, false, true, true, true, true, false, false, false, false, false, false] rfl rfl (by kernel_rfl) (fun _ _ _ h => h) (Or.inl ⟨by rfl, ?_⟩) ?_ ?_
  rotate_left
  · intro w'
    go_simp
    with_reducible rfl
  rotate_left
  · simp only [Act.put, List.setIfInBounds_toArray, List.set_cons_zero, List.set_cons_succ, i64_w, i32_w]
    rfl
  refine pure_ (i := 32) (N := some 83) (v := ?_) (a' := ?_) #[true, true, true, true, true, true, true, true, true, true, true, true, true, true, true, true, true, true, true, true, true, true, true, true, true, true, true, false, true, true, true, true, true, false, false, false, false, false] rfl rfl (by kernel_rfl) (fun _ _ _ h => h) (Or.inl ⟨by rfl, ?_⟩) ?_ ?_
  rotate_left
  · intro w'
    go_simp
    with_reducible rfl
  rotate_left
  · simp only [Act.put, List.setIfInBounds_toArray, List.set_cons_zero, List.set_cons_succ, i64_w, i32_w]
    rfl
  refine take_ (i := 27) (N := some 78) (v := ?_) (a' := ?_) #[true, true, true, true, true, true, true, true, true, true, true, true, true, true, true, true, true, true, true, true, true, true, true, true, true, true, true, true, true, true, true, true, true, false, false, false, false, false] rfl rfl (by kernel_rfl) (fun _ _ _ h => h) (Or.inl ⟨by rfl, ?_⟩) hHeld ?_ ?_
  rotate_left
  · rintro w' ⟨s0, s1, s2⟩
    go_simp
    with_reducible rfl
  rotate_left
  · simp only [Act.put, List.setIfInBounds_toArray, List.set_cons_zero, List.set_cons_succ, i64_w, i32_w]
    rfl
  refine take_ (i := 33) (N := some 84) (v := ?_) (a' := ?_) #[true, true, true, true, true, true, true, true, true, true, true, true, true, true, true, true, true, true, true, true, true, true, true, true, true, true, true, true, true, true, true, true, true, true, false, false, false, false] rfl rfl (by kernel_rfl) (fun _ _ _ h => h) (Or.inl ⟨by rfl, ?_⟩) hHeld ?_ ?_
  rotate_left
  · rintro w' ⟨s0, s1, s2⟩
    go_simp
    with_reducible rfl
  rotate_left
  · simp only [Act.put, List.setIfInBounds_toArray, List.set_cons_zero, List.set_cons_succ, i64_w, i32_w]
    rfl
  refine pure_ (i := 34) (N := some 85) (v := ?_) (a' := ?_) #[true, true, true, true, true, true, true, true, true, true, true, true, true, true, true, true, true, true, true, true, true, true, true, true, true, true, true, true, true, true, true, true, true, true, true, false, false, false] rfl rfl (by kernel_rfl) (fun _ _ _ h => h) (Or.inl ⟨by rfl, ?_⟩) ?_ ?_
  rotate_left
  · intro w'
    go_simp
    with_reducible rfl
  rotate_left
  · simp only [Act.put, List.setIfInBounds_toArray, List.set_cons_zero, List.set_cons_succ, i64_w, i32_w]
    rfl
  refine pure_ (i := 35) (N := some 86) (v := ?_) (a' := ?_) #[true, true, true, true, true, true, true, true, true, true, true, true, true, true, true, true, true, true, true, true, true, true, true, true, true, true, true, true, true, true, true, true, true, true, true, true, false, false] rfl rfl (by kernel_rfl) (fun _ _ _ h => h) (Or.inl ⟨by rfl, ?_⟩) ?_ ?_
  rotate_left
  · intro w'
    go_simp
    with_reducible rfl
  rotate_left
  · simp only [Act.put, List.setIfInBounds_toArray, List.set_cons_zero, List.set_cons_succ, i64_w, i32_w]
    rfl
  refine pure_ (i := 36) (N := some 87) (v := ?_) (a' := ?_) #[true, true, true, true, true, true, true, true, true, true, true, true, true, true, true, true, true, true, true, true, true, true, true, true, true, true, true, true, true, true, true, true, true, true, true, true, true, false] rfl rfl (by kernel_rfl) (fun _ _ _ h => h) (Or.inl ⟨by rfl, ?_⟩) ?_ ?_
  rotate_left
  · intro w'
    go_simp
    with_reducible rfl
  rotate_left
  · simp only [Act.put, List.setIfInBounds_toArray, List.set_cons_zero, List.set_cons_succ, i64_w, i32_w]
    rfl
  refine pure_ (i := 37) (N := some 8) (v := ?_) (a' := ?_) #[true, true, true, true, true, true, true, true, true, true, true, true, true, true, true, true, true, true, true, true, true, true, true, true, true, true, true, true, true, true, true, true, true, true, true, true, true, true] rfl rfl (by kernel_rfl) (fun _ _ _ h => h) (Or.inl ⟨by rfl, ?_⟩) ?_ ?_
  rotate_left
  · intro w'
    go_simp
    with_reducible rfl
  rotate_left
  · simp only [Act.put, List.setIfInBounds_toArray, List.set_cons_zero, List.set_cons_succ, i64_w, i32_w]
    rfl
  refine done_ (by kernel_rfl) ?_
  go_wp2
  go_ret
  exact ⟨rfl, (by repeat (first | (with_reducible first | exact HB.out | apply below_alloc | apply pw_below_drewN | apply below_drew1) | exact HB.out))⟩
set_option maxHeartbeats 8000000 in
set_option maxRecDepth 100000 in
theorem arrearslaw3_share.calls (a0 a1 a2 a3 a4 a5 : Int) (A1 : Option Addr) (c1 : Nat) (l : List S41) (kk pay : Int) (r : Bool) (w : World) (hr : Kd.C k41 w A1 l.length l) (hc : l.length ≤ c1) (h : arrearslaw3_share.f a0 a1 a2 a3 a4 a5 l kk pay = some r) :
    Calls Tryd.prog 15 #[.agg #[.int .i64 a0, .int .i64 a1, .int .i64 a2, .int .i64 a3, .int .i64 a4, .int .i64 a5], .slice A1 l.length c1, .int .i64 kk, .int .i64 pay] w fun e w' => e = .returned (.bool r) ∧ Below w.heap.size w w' := by
  unfold arrearslaw3_share.f at h
  by_cases hok : arrearslaw3_share.okp a0 l kk pay
  · rw [if_pos hok] at h
    obtain rfl := Option.some.inj h
    obtain ⟨h0, h1, hlen, hh⟩ := hok
    by_cases ha : a0 = 0
    · rw [if_pos ha] at hh
      by_cases hk : kk = (l.length : Int) - 1
      · rw [if_pos hk] at hh
        exact arrearslaw3_share.c0l a0 a1 a2 a3 a4 a5 A1 c1 l kk pay w hr hc h0 h1 hlen ha hk hh.1 hh.2
      · rw [if_neg hk] at hh
        exact arrearslaw3_share.c0n a0 a1 a2 a3 a4 a5 A1 c1 l kk pay w hr hc h0 h1 hlen ha hk hh.1 hh.2
    · rw [if_neg ha] at hh
      by_cases ha1 : a0 = 1
      · rw [if_pos ha1] at hh
        obtain ⟨g1, g2, g3, g4⟩ := hh
        by_cases hk : kk = 0
        · exact arrearslaw3_share.c1z a0 a1 a2 a3 a4 a5 A1 c1 l kk pay w hr hc h0 h1 hlen ha ha1 g1 g2 g3 hk
        · exact arrearslaw3_share.c1n a0 a1 a2 a3 a4 a5 A1 c1 l kk pay w hr hc h0 h1 hlen ha ha1 g1 g2 g3 hk (g4.resolve_left hk)
      · rw [if_neg ha1] at hh
        by_cases hk : kk = (l.length : Int) - 1
        · exact arrearslaw3_share.c2l a0 a1 a2 a3 a4 a5 A1 c1 l kk pay w hr hc h0 h1 hlen ha ha1 hk
        · exact arrearslaw3_share.c2n a0 a1 a2 a3 a4 a5 A1 c1 l kk pay w hr hc h0 h1 hlen ha ha1 hk (hh.resolve_left hk)
  · rw [if_neg hok] at h
    cases h

end Go.Proofs.YtogmeijmdbgmdaaDoor.PB
