-- Laid by wip/myprint.py, a driver over the kit's print, for this claim: a lemma's text, not read by a person.
import Derived.Test.YtogmeijmdbgmdaaDoorVPFx0
import Derived.Test.YtogmeijmdbgmdaaDoorVPFx3
import Derived.Test.YtogmeijmdbgmdaaDoorVPFx4
import Derived.Test.YtogmeijmdbgmdaaDoorVPFx8
import Derived.Test.YtogmeijmdbgmdaaDoorVPFx9
namespace Go.Proofs.YtogmeijmdbgmdaaDoor.PF
open Go.RowKit Go.Proofs.YtogmeijmdbgmdaaDoorW.PrintWords Go.Proofs.YtogmeijmdbgmdaaDoorW.PrintLast Go.Proofs.YtogmeijmdbgmdaaDoorW.PrintMore
attribute [local go_sem] max2_int min2_int max_two min_two max_three min_three max_four min_four   -- for this text's walks alone
set_option linter.unusedVariables false
set_option linter.unusedSimpArgs false

/-! ### interest_Plan: function 7 -/
-- ALONE
theorem pl_store_func (P : Program) (w : World) (a : Addr) (m : Mode) (f : Fn) (bs cs : Array Value) : (store a (.func f bs cs) m).run P w = stored P w a (.func f bs cs) m := run_store P w a _ m rfl
attribute [local go_sem] pl_store_func
def PlDate (w : World) (gt gd : Nat) (T : Array Value) (y1 y2 y3 : Int) (W : World) : Prop := Below w.heap.size w W ∧ W.heap[gt]? = some (.cells T 23 (0, 0)) ∧ W.heap[gd]? = some (.cells #[.int .i64 y1, .int .i64 y2, .int .i64 y3] 36 (0, 0))
theorem pl_date (w : World) (gt gd : Nat) (T : Array Value) (y1 y2 y3 : Int) (W : World) (hB : Below w.heap.size w W) (hT : W.heap[gt]? = some (.cells T 23 (0, 0))) (hD : W.heap[gd]? = some (.cells #[.int .i64 0, .int .i64 0, .int .i64 0] 36 (0, 0))) (hne : gt ≠ gd) (hg : w.heap.size ≤ gd) :
    PlDate w gt gd T y1 y2 y3 (((W.setCell ⟨gd, 0, none⟩ (.int .i64 y1)).setCell ⟨gd, 1, none⟩ (.int .i64 y2)).setCell ⟨gd, 2, none⟩ (.int .i64 y3)) := by
  refine ⟨Below.setCell (p := ⟨gd, 2, none⟩) (Below.setCell (p := ⟨gd, 1, none⟩) (Below.setCell (p := ⟨gd, 0, none⟩) hB hg _) hg _) hg _, ?_, ?_⟩
  · exact ((Below.heap_setCell _ _ _ _ hne).trans ((Below.heap_setCell _ _ _ _ hne).trans (Below.heap_setCell _ _ _ _ hne))).trans hT
  · exact blk_put (cs' := #[.int .i64 y1, .int .i64 y2, .int .i64 y3]) (blk_put (cs' := #[.int .i64 y1, .int .i64 y2, .int .i64 0]) (blk_put (cs' := #[.int .i64 y1, .int .i64 0, .int .i64 0]) hD 0 (.int .i64 y1) rfl) 1 (.int .i64 y2) rfl) 2 (.int .i64 y3) rfl
set_option maxHeartbeats 8000000 in
set_option maxRecDepth 100000 in
theorem interest_Plan.bad1 (k : Nat) (a0 a1 a2 a3 a4 a5 : Int) (A1 : Option Addr) (c1 : Nat) (l1 : List Int) (r1 : List S41) (r2 : Bool) (w : World) (hr : Kd.C (Kd.int .i64) w A1 l1.length l1) (hc : l1.length ≤ c1) (hrT : AheadAt w) (hv : interest_valid.f a0 a1 a2 a3 a4 a5 = some false) (h1 : r1 = []) (h2 : r2 = false) :
    Calls Tryd.prog 7 #[.agg #[.int .i64 a0, .int .i64 a1, .int .i64 a2, .int .i64 a3, .int .i64 a4, .int .i64 a5], .slice A1 l1.length c1] w fun e w' => ∃ v0_ : Value, e = .returned (.tuple #[v0_, .bool r2]) ∧ Kd.R k41 41 w' w.heap.size (fun _ => True) v0_ r1 ∧ Below w.heap.size w w' := by
  have hu51 := Tryd.underlying51
  have hu23 := Tryd.underlying23
  have hu36 := Tryd.underlying36
  have HR := Aside0.mk hr
  have HC := Aside0.mk hc
  have HT := Aside0.mk hrT
  have HB := Aside0.mk (Below.refl w.heap.size w)
  clear hr hc hrT
  subst h1 h2
  have HV := Aside0.mk hv
  clear hv
  go_enter Tryd.func7, Tryd.ntmps7
  go_wp2_with (first | ((with_reducible refine gate_dst (N := 2) rfl ?_); refine box_event ?hg (N := 2) ?hd (cs := #[.int .i64 a0, .int .i64 a1, .int .i64 a2, .int .i64 a3, .int .i64 a4, .int .i64 a5]) (t := 23) ?hr ?_; (case hd => rfl); (case hg => rfl); (case hr => first | (go_simp; done) | (go_simp; rfl)); intro gt hg w3 hbox hb; have n0_ := Aside0.mk (below_step (by repeat (first | (with_reducible first | exact HB.out | apply below_alloc | apply pw_below_drewN | apply below_drew1) | exact HB.out)) hb); have n1_ := Aside0.mk (hbox); clear HB hb hbox hg; have HB := n0_; have BT := n1_; clear n0_ n1_; have ht_0 : w3.cell? ⟨gt, 0, none⟩ = some (.int .i64 a0) := (blk_cell BT.out 0).trans rfl; have ht_1 : w3.cell? ⟨gt, 1, none⟩ = some (.int .i64 a1) := (blk_cell BT.out 1).trans rfl; have ht_2 : w3.cell? ⟨gt, 2, none⟩ = some (.int .i64 a2) := (blk_cell BT.out 2).trans rfl; have ht_3 : w3.cell? ⟨gt, 3, none⟩ = some (.int .i64 a3) := (blk_cell BT.out 3).trans rfl; have ht_4 : w3.cell? ⟨gt, 4, none⟩ = some (.int .i64 a4) := (blk_cell BT.out 4).trans rfl; have ht_5 : w3.cell? ⟨gt, 5, none⟩ = some (.int .i64 a5) := (blk_cell BT.out 5).trans rfl) | (go_at_call 19; ((with_reducible refine (interest_valid.calls a0 a1 a2 a3 a4 a5 _ _ HV.out).mono ?_); rintro e w4 ⟨rfl, hb⟩); have n0_ := Aside0.mk (blk_below (by (with_reducible repeat (first | refine blk_drewN ?_ _ | refine blk_drew ?_ | refine blk_alloc ?_ _)); exact BT.out) hb); have n1_ := Aside0.mk (below_step (by repeat (first | (with_reducible first | exact HB.out | apply below_alloc | apply pw_below_drewN | apply below_drew1) | exact HB.out)) hb); clear BT HB hb; have BT := n0_; have HB := n1_; clear n0_ n1_; (try clear ht_0 ht_1 ht_2 ht_3 ht_4 ht_5); have ht_0 : w4.cell? ⟨gt, 0, none⟩ = some (.int .i64 a0) := (blk_cell BT.out 0).trans rfl; have ht_1 : w4.cell? ⟨gt, 1, none⟩ = some (.int .i64 a1) := (blk_cell BT.out 1).trans rfl; have ht_2 : w4.cell? ⟨gt, 2, none⟩ = some (.int .i64 a2) := (blk_cell BT.out 2).trans rfl; have ht_3 : w4.cell? ⟨gt, 3, none⟩ = some (.int .i64 a3) := (blk_cell BT.out 3).trans rfl; have ht_4 : w4.cell? ⟨gt, 4, none⟩ = some (.int .i64 a4) := (blk_cell BT.out 4).trans rfl; have ht_5 : w4.cell? ⟨gt, 5, none⟩ = some (.int .i64 a5) := (blk_cell BT.out 5).trans rfl))
  go_ret2
  exact ⟨_, rfl, Kd.R_nil _ _ _ _ _, (by repeat (first | (with_reducible first | exact HB.out | apply below_alloc | apply pw_below_drewN | apply below_drew1 | refine below_set ?_ GD.out | refine below_set ?_ GB.out) | exact HB.out))⟩
set_option maxHeartbeats 8000000 in
set_option maxRecDepth 100000 in
theorem interest_Plan.bad2 (k : Nat) (a0 a1 a2 a3 a4 a5 : Int) (A1 : Option Addr) (c1 : Nat) (l1 : List Int) (r1 : List S41) (r2 : Bool) (w : World) (hr : Kd.C (Kd.int .i64) w A1 l1.length l1) (hc : l1.length ≤ c1) (hrT : AheadAt w) (hv : interest_valid.f a0 a1 a2 a3 a4 a5 = some true) (hl : ¬ (l1.length : Int) ≤ 64) (h1 : r1 = []) (h2 : r2 = false) :
    Calls Tryd.prog 7 #[.agg #[.int .i64 a0, .int .i64 a1, .int .i64 a2, .int .i64 a3, .int .i64 a4, .int .i64 a5], .slice A1 l1.length c1] w fun e w' => ∃ v0_ : Value, e = .returned (.tuple #[v0_, .bool r2]) ∧ Kd.R k41 41 w' w.heap.size (fun _ => True) v0_ r1 ∧ Below w.heap.size w w' := by
  have hu51 := Tryd.underlying51
  have hu23 := Tryd.underlying23
  have hu36 := Tryd.underlying36
  have HR := Aside0.mk hr
  have HC := Aside0.mk hc
  have HT := Aside0.mk hrT
  have HB := Aside0.mk (Below.refl w.heap.size w)
  clear hr hc hrT
  subst h1 h2
  have HV := Aside0.mk hv
  have b1 : decide ((64 : Int) < (l1.length : Int)) = true := decide_eq_true (by omega)
  have b2 : decide (64 < l1.length) = true := decide_eq_true (by omega)
  clear hv hl
  go_enter Tryd.func7, Tryd.ntmps7
  go_wp2_with (first | ((with_reducible refine gate_dst (N := 2) rfl ?_); refine box_event ?hg (N := 2) ?hd (cs := #[.int .i64 a0, .int .i64 a1, .int .i64 a2, .int .i64 a3, .int .i64 a4, .int .i64 a5]) (t := 23) ?hr ?_; (case hd => rfl); (case hg => rfl); (case hr => first | (go_simp; done) | (go_simp; rfl)); intro gt hg w3 hbox hb; have n0_ := Aside0.mk (below_step (by repeat (first | (with_reducible first | exact HB.out | apply below_alloc | apply pw_below_drewN | apply below_drew1) | exact HB.out)) hb); have n1_ := Aside0.mk (hbox); clear HB hb hbox hg; have HB := n0_; have BT := n1_; clear n0_ n1_; have ht_0 : w3.cell? ⟨gt, 0, none⟩ = some (.int .i64 a0) := (blk_cell BT.out 0).trans rfl; have ht_1 : w3.cell? ⟨gt, 1, none⟩ = some (.int .i64 a1) := (blk_cell BT.out 1).trans rfl; have ht_2 : w3.cell? ⟨gt, 2, none⟩ = some (.int .i64 a2) := (blk_cell BT.out 2).trans rfl; have ht_3 : w3.cell? ⟨gt, 3, none⟩ = some (.int .i64 a3) := (blk_cell BT.out 3).trans rfl; have ht_4 : w3.cell? ⟨gt, 4, none⟩ = some (.int .i64 a4) := (blk_cell BT.out 4).trans rfl; have ht_5 : w3.cell? ⟨gt, 5, none⟩ = some (.int .i64 a5) := (blk_cell BT.out 5).trans rfl) | (go_at_call 19; ((with_reducible refine (interest_valid.calls a0 a1 a2 a3 a4 a5 _ _ HV.out).mono ?_); rintro e w4 ⟨rfl, hb⟩); have n0_ := Aside0.mk (blk_below (by (with_reducible repeat (first | refine blk_drewN ?_ _ | refine blk_drew ?_ | refine blk_alloc ?_ _)); exact BT.out) hb); have n1_ := Aside0.mk (below_step (by repeat (first | (with_reducible first | exact HB.out | apply below_alloc | apply pw_below_drewN | apply below_drew1) | exact HB.out)) hb); clear BT HB hb; have BT := n0_; have HB := n1_; clear n0_ n1_; (try clear ht_0 ht_1 ht_2 ht_3 ht_4 ht_5); have ht_0 : w4.cell? ⟨gt, 0, none⟩ = some (.int .i64 a0) := (blk_cell BT.out 0).trans rfl; have ht_1 : w4.cell? ⟨gt, 1, none⟩ = some (.int .i64 a1) := (blk_cell BT.out 1).trans rfl; have ht_2 : w4.cell? ⟨gt, 2, none⟩ = some (.int .i64 a2) := (blk_cell BT.out 2).trans rfl; have ht_3 : w4.cell? ⟨gt, 3, none⟩ = some (.int .i64 a3) := (blk_cell BT.out 3).trans rfl; have ht_4 : w4.cell? ⟨gt, 4, none⟩ = some (.int .i64 a4) := (blk_cell BT.out 4).trans rfl; have ht_5 : w4.cell? ⟨gt, 5, none⟩ = some (.int .i64 a5) := (blk_cell BT.out 5).trans rfl))
  go_ret2
  exact ⟨_, rfl, Kd.R_nil _ _ _ _ _, (by repeat (first | (with_reducible first | exact HB.out | apply below_alloc | apply pw_below_drewN | apply below_drew1 | refine below_set ?_ GD.out | refine below_set ?_ GB.out) | exact HB.out))⟩
set_option maxHeartbeats 8000000 in
set_option maxRecDepth 100000 in
theorem interest_Plan.bad3 (k : Nat) (a0 a1 a2 a3 a4 a5 : Int) (A1 : Option Addr) (c1 : Nat) (l1 : List Int) (r1 : List S41) (r2 : Bool) (w : World) (hr : Kd.C (Kd.int .i64) w A1 l1.length l1) (hc : l1.length ≤ c1) (hrT : AheadAt w) (hv : interest_valid.f a0 a1 a2 a3 a4 a5 = some true) (hl : (l1.length : Int) ≤ 64) (y1 y2 y3 : Int) (hy : calendar_Civil.f k a4 = some (y1, y2, y3, false)) (h1 : r1 = []) (h2 : r2 = false) :
    Calls Tryd.prog 7 #[.agg #[.int .i64 a0, .int .i64 a1, .int .i64 a2, .int .i64 a3, .int .i64 a4, .int .i64 a5], .slice A1 l1.length c1] w fun e w' => ∃ v0_ : Value, e = .returned (.tuple #[v0_, .bool r2]) ∧ Kd.R k41 41 w' w.heap.size (fun _ => True) v0_ r1 ∧ Below w.heap.size w w' := by
  have hu51 := Tryd.underlying51
  have hu23 := Tryd.underlying23
  have hu36 := Tryd.underlying36
  have HR := Aside0.mk hr
  have HC := Aside0.mk hc
  have HT := Aside0.mk hrT
  have HB := Aside0.mk (Below.refl w.heap.size w)
  clear hr hc hrT
  subst h1 h2
  have HV := Aside0.mk hv
  have HC4 := Aside0.mk hy
  have b1 : decide ((64 : Int) < (l1.length : Int)) = false := decide_eq_false (by omega)
  have b2 : decide (64 < l1.length) = false := decide_eq_false (by omega)
  clear hv hl hy
  go_enter Tryd.func7, Tryd.ntmps7
  go_wp2_with (first | ((with_reducible refine gate_dst (N := 2) rfl ?_); refine box_event ?hg (N := 2) ?hd (cs := #[.int .i64 a0, .int .i64 a1, .int .i64 a2, .int .i64 a3, .int .i64 a4, .int .i64 a5]) (t := 23) ?hr ?_; (case hd => rfl); (case hg => rfl); (case hr => first | (go_simp; done) | (go_simp; rfl)); intro gt hg w3 hbox hb; have n0_ := Aside0.mk (below_step (by repeat (first | (with_reducible first | exact HB.out | apply below_alloc | apply pw_below_drewN | apply below_drew1) | exact HB.out)) hb); have n1_ := Aside0.mk (hbox); clear HB hb hbox hg; have HB := n0_; have BT := n1_; clear n0_ n1_; have ht_0 : w3.cell? ⟨gt, 0, none⟩ = some (.int .i64 a0) := (blk_cell BT.out 0).trans rfl; have ht_1 : w3.cell? ⟨gt, 1, none⟩ = some (.int .i64 a1) := (blk_cell BT.out 1).trans rfl; have ht_2 : w3.cell? ⟨gt, 2, none⟩ = some (.int .i64 a2) := (blk_cell BT.out 2).trans rfl; have ht_3 : w3.cell? ⟨gt, 3, none⟩ = some (.int .i64 a3) := (blk_cell BT.out 3).trans rfl; have ht_4 : w3.cell? ⟨gt, 4, none⟩ = some (.int .i64 a4) := (blk_cell BT.out 4).trans rfl; have ht_5 : w3.cell? ⟨gt, 5, none⟩ = some (.int .i64 a5) := (blk_cell BT.out 5).trans rfl) | (go_at_call 19; ((with_reducible refine (interest_valid.calls a0 a1 a2 a3 a4 a5 _ _ HV.out).mono ?_); rintro e w4 ⟨rfl, hb⟩); have n0_ := Aside0.mk (blk_below (by (with_reducible repeat (first | refine blk_drewN ?_ _ | refine blk_drew ?_ | refine blk_alloc ?_ _)); exact BT.out) hb); have n1_ := Aside0.mk (below_step (by repeat (first | (with_reducible first | exact HB.out | apply below_alloc | apply pw_below_drewN | apply below_drew1) | exact HB.out)) hb); clear BT HB hb; have BT := n0_; have HB := n1_; clear n0_ n1_; (try clear ht_0 ht_1 ht_2 ht_3 ht_4 ht_5); have ht_0 : w4.cell? ⟨gt, 0, none⟩ = some (.int .i64 a0) := (blk_cell BT.out 0).trans rfl; have ht_1 : w4.cell? ⟨gt, 1, none⟩ = some (.int .i64 a1) := (blk_cell BT.out 1).trans rfl; have ht_2 : w4.cell? ⟨gt, 2, none⟩ = some (.int .i64 a2) := (blk_cell BT.out 2).trans rfl; have ht_3 : w4.cell? ⟨gt, 3, none⟩ = some (.int .i64 a3) := (blk_cell BT.out 3).trans rfl; have ht_4 : w4.cell? ⟨gt, 4, none⟩ = some (.int .i64 a4) := (blk_cell BT.out 4).trans rfl; have ht_5 : w4.cell? ⟨gt, 5, none⟩ = some (.int .i64 a5) := (blk_cell BT.out 5).trans rfl) | (go_at_call 13; ((with_reducible refine (calendar_Civil.calls k a4 y1 y2 y3 _ _ (Kd.C_below HT.out (by repeat (first | (with_reducible first | exact HB.out | apply below_alloc | apply pw_below_drewN | apply below_drew1) | exact HB.out))) HC4.out).mono ?_); rintro e w5 ⟨rfl, hb⟩); have n0_ := Aside0.mk (blk_below (by (with_reducible repeat (first | refine blk_drewN ?_ _ | refine blk_drew ?_ | refine blk_alloc ?_ _)); exact BT.out) hb); have n1_ := Aside0.mk (below_step (by repeat (first | (with_reducible first | exact HB.out | apply below_alloc | apply pw_below_drewN | apply below_drew1) | exact HB.out)) hb); clear BT HB hb; have BT := n0_; have HB := n1_; clear n0_ n1_; (try clear ht_0 ht_1 ht_2 ht_3 ht_4 ht_5); have ht_0 : w5.cell? ⟨gt, 0, none⟩ = some (.int .i64 a0) := (blk_cell BT.out 0).trans rfl; have ht_1 : w5.cell? ⟨gt, 1, none⟩ = some (.int .i64 a1) := (blk_cell BT.out 1).trans rfl; have ht_2 : w5.cell? ⟨gt, 2, none⟩ = some (.int .i64 a2) := (blk_cell BT.out 2).trans rfl; have ht_3 : w5.cell? ⟨gt, 3, none⟩ = some (.int .i64 a3) := (blk_cell BT.out 3).trans rfl; have ht_4 : w5.cell? ⟨gt, 4, none⟩ = some (.int .i64 a4) := (blk_cell BT.out 4).trans rfl; have ht_5 : w5.cell? ⟨gt, 5, none⟩ = some (.int .i64 a5) := (blk_cell BT.out 5).trans rfl) | ((with_reducible refine gate_dst (N := 6) rfl ?_); refine box_event ?hg (N := 6) ?hd (cs := #[.int .i64 0, .int .i64 0, .int .i64 0]) (t := 36) ?hr ?_; (case hd => rfl); (case hg => rfl); (case hr => first | (go_simp; done) | (go_simp; rfl)); intro gd hg w6 hbox hb; have n0_ := Aside0.mk (blk_below (by (with_reducible repeat (first | refine blk_drewN ?_ _ | refine blk_drew ?_ | refine blk_alloc ?_ _)); exact BT.out) hb); have n1_ := Aside0.mk ((hg ▸ Nat.ne_of_lt (blk_lt (by (with_reducible repeat (first | refine blk_drewN ?_ _ | refine blk_drew ?_ | refine blk_alloc ?_ _)); exact BT.out)) : gt ≠ gd)); have n2_ := Aside0.mk ((hg ▸ below_size (by repeat (first | (with_reducible first | exact HB.out | apply below_alloc | apply pw_below_drewN | apply below_drew1) | exact HB.out)) : w.heap.size ≤ gd)); have n3_ := Aside0.mk (hbox); have n4_ := Aside0.mk (below_step (by repeat (first | (with_reducible first | exact HB.out | apply below_alloc | apply pw_below_drewN | apply below_drew1) | exact HB.out)) hb); clear BT HB hb hbox hg; have BT := n0_; have GNE := n1_; have GD := n2_; have BD := n3_; have HB := n4_; clear n0_ n1_ n2_ n3_ n4_; (try clear ht_0 ht_1 ht_2 ht_3 ht_4 ht_5); have ht_0 : w6.cell? ⟨gt, 0, none⟩ = some (.int .i64 a0) := (blk_cell BT.out 0).trans rfl; have ht_1 : w6.cell? ⟨gt, 1, none⟩ = some (.int .i64 a1) := (blk_cell BT.out 1).trans rfl; have ht_2 : w6.cell? ⟨gt, 2, none⟩ = some (.int .i64 a2) := (blk_cell BT.out 2).trans rfl; have ht_3 : w6.cell? ⟨gt, 3, none⟩ = some (.int .i64 a3) := (blk_cell BT.out 3).trans rfl; have ht_4 : w6.cell? ⟨gt, 4, none⟩ = some (.int .i64 a4) := (blk_cell BT.out 4).trans rfl; have ht_5 : w6.cell? ⟨gt, 5, none⟩ = some (.int .i64 a5) := (blk_cell BT.out 5).trans rfl; have hd_0 : w6.cell? ⟨gd, 0, none⟩ = some (.int .i64 0) := (blk_cell BD.out 0).trans rfl; have hd_1 : w6.cell? ⟨gd, 1, none⟩ = some (.int .i64 0) := (blk_cell BD.out 1).trans rfl; have hd_2 : w6.cell? ⟨gd, 2, none⟩ = some (.int .i64 0) := (blk_cell BD.out 2).trans rfl; have hfd_0 := blk_frozen BD.out 0; have hfd_1 := blk_frozen BD.out 1; have hfd_2 := blk_frozen BD.out 2))
  go_ret2
  exact ⟨_, rfl, Kd.R_nil _ _ _ _ _, (by repeat (first | (with_reducible first | exact HB.out | apply below_alloc | apply pw_below_drewN | apply below_drew1 | refine below_set ?_ GD.out | refine below_set ?_ GB.out) | exact HB.out))⟩
def PlReady (w : World) (gt b : Nat) (a0 a1 a2 a3 a4 a5 : Int) (A1 : Option Addr) (c1 : Nat) (l1 : List Int) (anchor pay bal : Int) (fv : Value) (W : World) : Prop := Below w.heap.size w W ∧ W.heap[b]? = some (.cells #[.int .i64 a0, .int .i64 a1, .int .i64 a2, .int .i64 a3, .int .i64 a4, .int .i64 a5, .slice A1 l1.length c1, .int .i64 anchor, .int .i64 pay, .int .i64 bal, fv] 51 (0, 0)) ∧ W.heap[gt]? = some (.cells #[.int .i64 a0, .int .i64 a1, .int .i64 a2, .int .i64 a3, .int .i64 a4, .int .i64 a5] 23 (0, 0))
theorem pl_set8 {w : World} {gt b : Nat} {a0 a1 a2 a3 a4 a5 : Int} {A1 : Option Addr} {c1 : Nat} {l1 : List Int} {anchor pay bal : Int} {fv : Value} {W : World} (h : PlReady w gt b a0 a1 a2 a3 a4 a5 A1 c1 l1 anchor pay bal fv W) (hg : w.heap.size ≤ b) (hne : gt ≠ b) (x : Int) : PlReady w gt b a0 a1 a2 a3 a4 a5 A1 c1 l1 anchor x bal fv (W.setCell ⟨b, 8, none⟩ (.int .i64 x)) :=
  ⟨Below.setCell (p := ⟨b, 8, none⟩) h.1 hg _, blk_put (cs' := #[.int .i64 a0, .int .i64 a1, .int .i64 a2, .int .i64 a3, .int .i64 a4, .int .i64 a5, .slice A1 l1.length c1, .int .i64 anchor, .int .i64 x, .int .i64 bal, fv]) h.2.1 8 (.int .i64 x) rfl, (Below.heap_setCell _ _ _ _ hne).trans h.2.2⟩
theorem pl_set10 {w : World} {gt b : Nat} {a0 a1 a2 a3 a4 a5 : Int} {A1 : Option Addr} {c1 : Nat} {l1 : List Int} {anchor pay bal : Int} {fv : Value} {W : World} (h : PlReady w gt b a0 a1 a2 a3 a4 a5 A1 c1 l1 anchor pay bal fv W) (hg : w.heap.size ≤ b) (hne : gt ≠ b) (x : Value) : PlReady w gt b a0 a1 a2 a3 a4 a5 A1 c1 l1 anchor pay bal x (W.setCell ⟨b, 10, none⟩ x) :=
  ⟨Below.setCell (p := ⟨b, 10, none⟩) h.1 hg _, blk_put (cs' := #[.int .i64 a0, .int .i64 a1, .int .i64 a2, .int .i64 a3, .int .i64 a4, .int .i64 a5, .slice A1 l1.length c1, .int .i64 anchor, .int .i64 pay, .int .i64 bal, x]) h.2.1 10 x rfl, (Below.heap_setCell _ _ _ _ hne).trans h.2.2⟩
set_option maxHeartbeats 8000000 in
set_option maxRecDepth 100000 in
theorem interest_Plan.main20 (k : Nat) (a0 a1 a2 a3 a4 a5 : Int) (A1 : Option Addr) (c1 : Nat) (l1 : List Int) (r1 : List S41) (r2 : Bool) (w : World) (hr : Kd.C (Kd.int .i64) w A1 l1.length l1) (hc : l1.length ≤ c1) (hrT : AheadAt w) (hv : interest_valid.f a0 a1 a2 a3 a4 a5 = some true) (hl : (l1.length : Int) ≤ 64) (y1 y2 anchor : Int) (hy : calendar_Civil.f k a4 = some (y1, y2, anchor, true)) (hF : PlF a0 20) (L1 : Int) (L2 : Bool) (hLV : interest_Level.f k a1 a2 a3 = some (L1, L2)) (h : interest_Plan.l0 k a0 a1 a2 a3 a4 a5 l1 anchor L1 L2 a1 [] 1 = some (r1, r2)) :
    Calls Tryd.prog 7 #[.agg #[.int .i64 a0, .int .i64 a1, .int .i64 a2, .int .i64 a3, .int .i64 a4, .int .i64 a5], .slice A1 l1.length c1] w fun e w' => ∃ v0_ : Value, e = .returned (.tuple #[v0_, .bool r2]) ∧ Kd.R k41 41 w' w.heap.size (fun _ => True) v0_ r1 ∧ Below w.heap.size w w' := by
  have hu51 := Tryd.underlying51
  have hu23 := Tryd.underlying23
  have hu36 := Tryd.underlying36
  have HR := Aside0.mk hr
  have HC := Aside0.mk hc
  have HT := Aside0.mk hrT
  have HB := Aside0.mk (Below.refl w.heap.size w)
  clear hr hc hrT
  have HV := Aside0.mk hv
  have HC4 := Aside0.mk hy
  have z0 : (a0 == 0) = true := by unfold PlF at hF; exact beq_iff_eq.2 (by omega)
  have b1 : decide ((64 : Int) < (l1.length : Int)) = false := decide_eq_false (by omega)
  have b2 : decide (64 < l1.length) = false := decide_eq_false (by omega)
  have HF := Aside0.mk hF
  have HLV := Aside0.mk hLV
  clear hLV
  have HL0 := Aside0.mk h
  clear hv hl hy hF h
  go_enter Tryd.func7, Tryd.ntmps7
  go_upto_region 4 with (first | ((with_reducible refine gate_dst (N := 2) rfl ?_); refine box_event ?hg (N := 2) ?hd (cs := #[.int .i64 a0, .int .i64 a1, .int .i64 a2, .int .i64 a3, .int .i64 a4, .int .i64 a5]) (t := 23) ?hr ?_; (case hd => rfl); (case hg => rfl); (case hr => first | (go_simp; done) | (go_simp; rfl)); intro gt hg w3 hbox hb; have n0_ := Aside0.mk (below_step (by repeat (first | (with_reducible first | exact HB.out | apply below_alloc | apply pw_below_drewN | apply below_drew1) | exact HB.out)) hb); have n1_ := Aside0.mk (hbox); clear HB hb hbox hg; have HB := n0_; have BT := n1_; clear n0_ n1_; have ht_0 : w3.cell? ⟨gt, 0, none⟩ = some (.int .i64 a0) := (blk_cell BT.out 0).trans rfl; have ht_1 : w3.cell? ⟨gt, 1, none⟩ = some (.int .i64 a1) := (blk_cell BT.out 1).trans rfl; have ht_2 : w3.cell? ⟨gt, 2, none⟩ = some (.int .i64 a2) := (blk_cell BT.out 2).trans rfl; have ht_3 : w3.cell? ⟨gt, 3, none⟩ = some (.int .i64 a3) := (blk_cell BT.out 3).trans rfl; have ht_4 : w3.cell? ⟨gt, 4, none⟩ = some (.int .i64 a4) := (blk_cell BT.out 4).trans rfl; have ht_5 : w3.cell? ⟨gt, 5, none⟩ = some (.int .i64 a5) := (blk_cell BT.out 5).trans rfl) | (go_at_call 19; ((with_reducible refine (interest_valid.calls a0 a1 a2 a3 a4 a5 _ _ HV.out).mono ?_); rintro e w4 ⟨rfl, hb⟩); have n0_ := Aside0.mk (blk_below (by (with_reducible repeat (first | refine blk_drewN ?_ _ | refine blk_drew ?_ | refine blk_alloc ?_ _)); exact BT.out) hb); have n1_ := Aside0.mk (below_step (by repeat (first | (with_reducible first | exact HB.out | apply below_alloc | apply pw_below_drewN | apply below_drew1) | exact HB.out)) hb); clear BT HB hb; have BT := n0_; have HB := n1_; clear n0_ n1_; (try clear ht_0 ht_1 ht_2 ht_3 ht_4 ht_5); have ht_0 : w4.cell? ⟨gt, 0, none⟩ = some (.int .i64 a0) := (blk_cell BT.out 0).trans rfl; have ht_1 : w4.cell? ⟨gt, 1, none⟩ = some (.int .i64 a1) := (blk_cell BT.out 1).trans rfl; have ht_2 : w4.cell? ⟨gt, 2, none⟩ = some (.int .i64 a2) := (blk_cell BT.out 2).trans rfl; have ht_3 : w4.cell? ⟨gt, 3, none⟩ = some (.int .i64 a3) := (blk_cell BT.out 3).trans rfl; have ht_4 : w4.cell? ⟨gt, 4, none⟩ = some (.int .i64 a4) := (blk_cell BT.out 4).trans rfl; have ht_5 : w4.cell? ⟨gt, 5, none⟩ = some (.int .i64 a5) := (blk_cell BT.out 5).trans rfl) | (go_at_call 13; ((with_reducible refine (calendar_Civil.calls k a4 y1 y2 anchor _ _ (Kd.C_below HT.out (by repeat (first | (with_reducible first | exact HB.out | apply below_alloc | apply pw_below_drewN | apply below_drew1) | exact HB.out))) HC4.out).mono ?_); rintro e w5 ⟨rfl, hb⟩); have n0_ := Aside0.mk (blk_below (by (with_reducible repeat (first | refine blk_drewN ?_ _ | refine blk_drew ?_ | refine blk_alloc ?_ _)); exact BT.out) hb); have n1_ := Aside0.mk (below_step (by repeat (first | (with_reducible first | exact HB.out | apply below_alloc | apply pw_below_drewN | apply below_drew1) | exact HB.out)) hb); clear BT HB hb; have BT := n0_; have HB := n1_; clear n0_ n1_; (try clear ht_0 ht_1 ht_2 ht_3 ht_4 ht_5); have ht_0 : w5.cell? ⟨gt, 0, none⟩ = some (.int .i64 a0) := (blk_cell BT.out 0).trans rfl; have ht_1 : w5.cell? ⟨gt, 1, none⟩ = some (.int .i64 a1) := (blk_cell BT.out 1).trans rfl; have ht_2 : w5.cell? ⟨gt, 2, none⟩ = some (.int .i64 a2) := (blk_cell BT.out 2).trans rfl; have ht_3 : w5.cell? ⟨gt, 3, none⟩ = some (.int .i64 a3) := (blk_cell BT.out 3).trans rfl; have ht_4 : w5.cell? ⟨gt, 4, none⟩ = some (.int .i64 a4) := (blk_cell BT.out 4).trans rfl; have ht_5 : w5.cell? ⟨gt, 5, none⟩ = some (.int .i64 a5) := (blk_cell BT.out 5).trans rfl) | ((with_reducible refine gate_dst (N := 6) rfl ?_); refine box_event ?hg (N := 6) ?hd (cs := #[.int .i64 0, .int .i64 0, .int .i64 0]) (t := 36) ?hr ?_; (case hd => rfl); (case hg => rfl); (case hr => first | (go_simp; done) | (go_simp; rfl)); intro gd hg w6 hbox hb; have n0_ := Aside0.mk (blk_below (by (with_reducible repeat (first | refine blk_drewN ?_ _ | refine blk_drew ?_ | refine blk_alloc ?_ _)); exact BT.out) hb); have n1_ := Aside0.mk ((hg ▸ Nat.ne_of_lt (blk_lt (by (with_reducible repeat (first | refine blk_drewN ?_ _ | refine blk_drew ?_ | refine blk_alloc ?_ _)); exact BT.out)) : gt ≠ gd)); have n2_ := Aside0.mk ((hg ▸ below_size (by repeat (first | (with_reducible first | exact HB.out | apply below_alloc | apply pw_below_drewN | apply below_drew1) | exact HB.out)) : w.heap.size ≤ gd)); have n3_ := Aside0.mk (hbox); have n4_ := Aside0.mk (below_step (by repeat (first | (with_reducible first | exact HB.out | apply below_alloc | apply pw_below_drewN | apply below_drew1) | exact HB.out)) hb); clear BT HB hb hbox hg; have BT := n0_; have GNE := n1_; have GD := n2_; have BD := n3_; have HB := n4_; clear n0_ n1_ n2_ n3_ n4_; (try clear ht_0 ht_1 ht_2 ht_3 ht_4 ht_5); have ht_0 : w6.cell? ⟨gt, 0, none⟩ = some (.int .i64 a0) := (blk_cell BT.out 0).trans rfl; have ht_1 : w6.cell? ⟨gt, 1, none⟩ = some (.int .i64 a1) := (blk_cell BT.out 1).trans rfl; have ht_2 : w6.cell? ⟨gt, 2, none⟩ = some (.int .i64 a2) := (blk_cell BT.out 2).trans rfl; have ht_3 : w6.cell? ⟨gt, 3, none⟩ = some (.int .i64 a3) := (blk_cell BT.out 3).trans rfl; have ht_4 : w6.cell? ⟨gt, 4, none⟩ = some (.int .i64 a4) := (blk_cell BT.out 4).trans rfl; have ht_5 : w6.cell? ⟨gt, 5, none⟩ = some (.int .i64 a5) := (blk_cell BT.out 5).trans rfl; have hd_0 : w6.cell? ⟨gd, 0, none⟩ = some (.int .i64 0) := (blk_cell BD.out 0).trans rfl; have hd_1 : w6.cell? ⟨gd, 1, none⟩ = some (.int .i64 0) := (blk_cell BD.out 1).trans rfl; have hd_2 : w6.cell? ⟨gd, 2, none⟩ = some (.int .i64 0) := (blk_cell BD.out 2).trans rfl; have hfd_0 := blk_frozen BD.out 0; have hfd_1 := blk_frozen BD.out 1; have hfd_2 := blk_frozen BD.out 2))
  refine pl_sum (pl_date w gt gd #[.int .i64 a0, .int .i64 a1, .int .i64 a2, .int .i64 a3, .int .i64 a4, .int .i64 a5] y1 y2 anchor _ HB.out BT.out BD.out GNE.out GD.out) ?_
  clear HB BT BD
  clear hd_0 hd_1 hd_2 hfd_0 hfd_1 hfd_2
  (try clear ht_0 ht_1 ht_2 ht_3 ht_4 ht_5)
  intro w7 hs
  obtain ⟨hs1, hs2, hs3⟩ := hs
  have n0_ := Aside0.mk (hs1)
  have n1_ := Aside0.mk (hs2)
  have n2_ := Aside0.mk (hs3)
  clear hs1 hs2 hs3
  have HB := n0_
  have BT := n1_
  have BD := n2_
  clear n0_ n1_ n2_
  have ht_0 : w7.cell? ⟨gt, 0, none⟩ = some (.int .i64 a0) := (blk_cell BT.out 0).trans rfl
  have ht_1 : w7.cell? ⟨gt, 1, none⟩ = some (.int .i64 a1) := (blk_cell BT.out 1).trans rfl
  have ht_2 : w7.cell? ⟨gt, 2, none⟩ = some (.int .i64 a2) := (blk_cell BT.out 2).trans rfl
  have ht_3 : w7.cell? ⟨gt, 3, none⟩ = some (.int .i64 a3) := (blk_cell BT.out 3).trans rfl
  have ht_4 : w7.cell? ⟨gt, 4, none⟩ = some (.int .i64 a4) := (blk_cell BT.out 4).trans rfl
  have ht_5 : w7.cell? ⟨gt, 5, none⟩ = some (.int .i64 a5) := (blk_cell BT.out 5).trans rfl
  have hd_2 : w7.cell? ⟨gd, 2, none⟩ = some (.int .i64 anchor) := (blk_cell BD.out 2).trans rfl
  go_upto_region 14 with (first | ((with_reducible refine gate_dst (N := 34) rfl ?_); refine box_event ?hg (N := 34) ?hd (cs := #[.int .i64 a0, .int .i64 a1, .int .i64 a2, .int .i64 a3, .int .i64 a4, .int .i64 a5, .slice A1 l1.length c1, .int .i64 anchor, .int .i64 0, .int .i64 a1, .nilFunc]) (t := 51) ?hr ?_; (case hd => rfl); (case hg => rfl); (case hr => first | (go_simp; done) | (go_simp; rfl)); intro b hg w8 hbox hb; have n0_ := Aside0.mk (blk_below (by (with_reducible repeat (first | refine blk_drewN ?_ _ | refine blk_drew ?_ | refine blk_alloc ?_ _)); exact BT.out) hb); have n1_ := Aside0.mk ((hg ▸ below_size (by repeat (first | (with_reducible first | exact HB.out | apply below_alloc | apply pw_below_drewN | apply below_drew1) | exact HB.out)) : w.heap.size ≤ b)); have n2_ := Aside0.mk ((hg ▸ Nat.ne_of_lt (blk_lt (by (with_reducible repeat (first | refine blk_drewN ?_ _ | refine blk_drew ?_ | refine blk_alloc ?_ _)); exact BT.out)) : gt ≠ b)); have n3_ := Aside0.mk (hbox); have n4_ := Aside0.mk (below_step (by repeat (first | (with_reducible first | exact HB.out | apply below_alloc | apply pw_below_drewN | apply below_drew1) | exact HB.out)) hb); clear BT HB hb hbox hg; have BT := n0_; have GB := n1_; have GTB := n2_; have BP := n3_; have HB := n4_; clear n0_ n1_ n2_ n3_ n4_; (try clear ht_0 ht_1 ht_2 ht_3 ht_4 ht_5); have ht_0 : w8.cell? ⟨gt, 0, none⟩ = some (.int .i64 a0) := (blk_cell BT.out 0).trans rfl; have ht_1 : w8.cell? ⟨gt, 1, none⟩ = some (.int .i64 a1) := (blk_cell BT.out 1).trans rfl; have ht_2 : w8.cell? ⟨gt, 2, none⟩ = some (.int .i64 a2) := (blk_cell BT.out 2).trans rfl; have ht_3 : w8.cell? ⟨gt, 3, none⟩ = some (.int .i64 a3) := (blk_cell BT.out 3).trans rfl; have ht_4 : w8.cell? ⟨gt, 4, none⟩ = some (.int .i64 a4) := (blk_cell BT.out 4).trans rfl; have ht_5 : w8.cell? ⟨gt, 5, none⟩ = some (.int .i64 a5) := (blk_cell BT.out 5).trans rfl; have hb_8 : w8.cell? ⟨b, 8, none⟩ = some (.int .i64 0) := (blk_cell BP.out 8).trans rfl; have hb_10 : w8.cell? ⟨b, 10, none⟩ = some .nilFunc := (blk_cell BP.out 10).trans rfl; have hfb_8 := blk_frozen BP.out 8; have hfb_10 := blk_frozen BP.out 10) | (go_at_call 12; ((with_reducible refine (interest_Level.calls k a1 a2 a3 L1 L2 _ HLV.out).mono ?_); rintro e w9 ⟨rfl, hb⟩); have n0_ := Aside0.mk (blk_below (by (with_reducible repeat (first | refine blk_drewN ?_ _ | refine blk_drew ?_ | refine blk_alloc ?_ _)); exact BT.out) hb); have n1_ := Aside0.mk (blk_below (by (with_reducible repeat (first | refine blk_drewN ?_ _ | refine blk_drew ?_ | refine blk_alloc ?_ _)); exact BP.out) hb); have n2_ := Aside0.mk (below_step (by repeat (first | (with_reducible first | exact HB.out | apply below_alloc | apply pw_below_drewN | apply below_drew1) | exact HB.out)) hb); clear BT BP HB hb; have BT := n0_; have BP := n1_; have HB := n2_; clear n0_ n1_ n2_; (try clear ht_0 ht_1 ht_2 ht_3 ht_4 ht_5); (try clear hb_8 hb_10 hfb_8 hfb_10); have ht_0 : w9.cell? ⟨gt, 0, none⟩ = some (.int .i64 a0) := (blk_cell BT.out 0).trans rfl; have ht_1 : w9.cell? ⟨gt, 1, none⟩ = some (.int .i64 a1) := (blk_cell BT.out 1).trans rfl; have ht_2 : w9.cell? ⟨gt, 2, none⟩ = some (.int .i64 a2) := (blk_cell BT.out 2).trans rfl; have ht_3 : w9.cell? ⟨gt, 3, none⟩ = some (.int .i64 a3) := (blk_cell BT.out 3).trans rfl; have ht_4 : w9.cell? ⟨gt, 4, none⟩ = some (.int .i64 a4) := (blk_cell BT.out 4).trans rfl; have ht_5 : w9.cell? ⟨gt, 5, none⟩ = some (.int .i64 a5) := (blk_cell BT.out 5).trans rfl; have hb_8 : w9.cell? ⟨b, 8, none⟩ = some (.int .i64 0) := (blk_cell BP.out 8).trans rfl; have hb_10 : w9.cell? ⟨b, 10, none⟩ = some .nilFunc := (blk_cell BP.out 10).trans rfl; have hfb_8 := blk_frozen BP.out 8; have hfb_10 := blk_frozen BP.out 10))
  refine pl_sum (pl_set10 (pl_set8 (⟨HB.out, BP.out, BT.out⟩ : PlReady w gt b a0 a1 a2 a3 a4 a5 A1 c1 l1 anchor 0 a1 .nilFunc _) GB.out GTB.out L1) GB.out GTB.out (.func (.func 20) #[.pointer (some ⟨b, 0, none⟩)] #[])) ?_
  clear HB BP BT
  (try clear hd_2 hb_8 hb_10 hfb_8 hfb_10)
  (try clear ht_0 ht_1 ht_2 ht_3 ht_4 ht_5)
  intro w10 hs
  obtain ⟨hs1, hs2, hs3⟩ := hs
  have n0_ := Aside0.mk (hs1)
  have n1_ := Aside0.mk (hs2)
  have n2_ := Aside0.mk (hs3)
  clear hs1 hs2 hs3
  have HB := n0_
  have BK := n1_
  have BT := n2_
  clear n0_ n1_ n2_
  go_wp2
  go_loopg [7, 9, 10] k (fun kq v7 v9 v10 w' => ∃ (ok : Bool) (plan : List S41) (m bal : Int), v7 = .bool ok ∧ v10 = .int .i64 m ∧ Aside0 (interest_Plan.l0 kq a0 a1 a2 a3 a4 a5 l1 anchor L1 ok bal plan m = some (r1, r2)) ∧ Aside0 (kq ≤ k) ∧ Aside0 (Kd.R k41 41 w' w.heap.size (fun _ => True) v9 plan) ∧ Aside0 (w'.heap[b]? = some (.cells #[.int .i64 a0, .int .i64 a1, .int .i64 a2, .int .i64 a3, .int .i64 a4, .int .i64 a5, .slice A1 l1.length c1, .int .i64 anchor, .int .i64 L1, .int .i64 bal, .func (.func 20) #[.pointer (some ⟨b, 0, none⟩)] #[]] 51 (0, 0))) ∧ Aside0 (w'.heap[gt]? = some (.cells #[.int .i64 a0, .int .i64 a1, .int .i64 a2, .int .i64 a3, .int .i64 a4, .int .i64 a5] 23 (0, 0))) ∧ Aside0 (Below w.heap.size w w'))
  case atStart => exact ⟨L2, [], 1, a1, rfl, rfl, HL0, ⟨Nat.le_refl _⟩, ⟨Kd.R_nil _ _ _ _ _⟩, ⟨(by (with_reducible repeat (first | refine blk_drewN ?_ _ | refine blk_drew ?_ | refine blk_alloc ?_ _)); exact BK.out)⟩, ⟨(by (with_reducible repeat (first | refine blk_drewN ?_ _ | refine blk_drew ?_ | refine blk_alloc ?_ _)); exact BT.out)⟩, ⟨(by repeat (first | (with_reducible first | exact HB.out | apply below_alloc | apply pw_below_drewN | apply below_drew1) | exact HB.out))⟩⟩
  case round =>
    clear HL0 BK BT HB
    obtain ⟨ok, plan, m, bal, rfl, rfl, HA, HK1, HO, BK, BT, HB⟩ := hrel
    have hc_9 : wr.cell? ⟨b, 9, none⟩ = some (.int .i64 bal) := (blk_cell BK.out 9).trans rfl
    have ht_3 : wr.cell? ⟨gt, 3, none⟩ = some (.int .i64 a3) := (blk_cell BT.out 3).trans rfl
    cases gk with
    | zero => exact absurd HA.out (by simp [interest_Plan.l0])
    | succ k1 =>
      have H := HA.out
      clear HA
      simp only [interest_Plan.l0] at H
      by_cases hcond : ok = true ∧ 0 < bal ∧ m ≤ a3
      · rw [if_pos hcond] at H
        obtain ⟨rfl, hb0, hm0⟩ := hcond
        have c0 : decide (0 < bal) = true := decide_eq_true hb0
        have c1' : decide (m ≤ a3) = true := decide_eq_true hm0
        obtain ⟨⟨plan', bal', ok'⟩, hN, H⟩ := Option.bind_eq_some_iff.1 H
        have HN := Aside0.mk hN
        have HL := Aside0.mk (show interest_Plan.l0 k1 a0 a1 a2 a3 a4 a5 l1 anchor L1 ok' bal' plan' (wrap64 (m + 1)) = some (r1, r2) from H)
        clear hN H hb0 hm0
        go_wp2_with (first | (go_at_call 23; ((with_reducible refine (pl_next20 a0 a1 a2 a3 a4 a5 A1 c1 l1 anchor L1 bal k1 w _ b gt #[.int .i64 a0, .int .i64 a1, .int .i64 a2, .int .i64 a3, .int .i64 a4, .int .i64 a5] m u9 plan plan' bal' ok' GB.out (by repeat (first | (with_reducible first | exact HB.out | apply below_alloc | apply pw_below_drewN | apply below_drew1) | exact HB.out)) (by (with_reducible repeat (first | refine blk_drewN ?_ _ | refine blk_drew ?_ | refine blk_alloc ?_ _)); exact BK.out) (by (with_reducible repeat (first | refine blk_drewN ?_ _ | refine blk_drew ?_ | refine blk_alloc ?_ _)); exact BT.out) (by (with_reducible repeat (first | apply Kd.R_alloc | apply Kd.R_drewN | apply Kd.R_drew)); exact HO.out) HR.out HC.out HT.out HF.out HN.out).mono ?_); rintro e w12 ⟨v', rfl, hb1, hb2, hb3, hb4⟩); clear HB BK BT HO; have HB := Aside0.mk hb1; have BK := Aside0.mk hb2; have BT := Aside0.mk hb3; have HO := Aside0.mk hb4; clear hb1 hb2 hb3 hb4))
        go_roundg k1
        case measure => have := HK1.out; omega
        case rel => exact ⟨ok', plan', wrap64 (m + 1), bal', (by first | rfl | (simp; done) | (simp [*]; done)), (by first | rfl | (simp; done) | (simp [*]; done)), HL, ⟨by have := HK1.out; omega⟩, ⟨(by (with_reducible repeat (first | apply Kd.R_alloc | apply Kd.R_drewN | apply Kd.R_drew)); exact HO.out)⟩, ⟨(by (with_reducible repeat (first | refine blk_drewN ?_ _ | refine blk_drew ?_ | refine blk_alloc ?_ _)); exact BK.out)⟩, ⟨(by (with_reducible repeat (first | refine blk_drewN ?_ _ | refine blk_drew ?_ | refine blk_alloc ?_ _)); exact BT.out)⟩, ⟨(by repeat (first | (with_reducible first | exact HB.out | apply below_alloc | apply pw_below_drewN | apply below_drew1) | exact HB.out))⟩⟩
      · rw [if_neg hcond] at H
        have H1 := Aside0.mk (Option.some.inj H)
        clear H
        cases ok with
        | false =>
          have h1 := H1.out
          rw [if_neg (by simp)] at h1
          simp only [Prod.mk.injEq] at h1
          obtain ⟨rfl, rfl⟩ := h1
          clear hcond H1
          go_wp2
          go_ret2
          exact ⟨_, rfl, Kd.R_nil _ _ _ _ _, (by repeat (first | (with_reducible first | exact HB.out | apply below_alloc | apply pw_below_drewN | apply below_drew1) | exact HB.out))⟩
        | true =>
          have h1 := H1.out
          rw [if_pos rfl] at h1
          simp only [Prod.mk.injEq] at h1
          obtain ⟨rfl, rfl⟩ := h1
          clear H1
          by_cases hb0 : 0 < bal
          · have c0 : decide (0 < bal) = true := decide_eq_true hb0
            have c1' : decide (m ≤ a3) = false := decide_eq_false (fun hm => hcond ⟨rfl, hb0, hm⟩)
            clear hcond hb0
            go_wp2
            go_ret2
            exact ⟨_, rfl, (by (with_reducible repeat (first | apply Kd.R_alloc | apply Kd.R_drewN | apply Kd.R_drew)); exact HO.out), (by repeat (first | (with_reducible first | exact HB.out | apply below_alloc | apply pw_below_drewN | apply below_drew1) | exact HB.out))⟩
          · have c0 : decide (0 < bal) = false := decide_eq_false hb0
            clear hcond hb0
            go_wp2
            go_ret2
            exact ⟨_, rfl, (by (with_reducible repeat (first | apply Kd.R_alloc | apply Kd.R_drewN | apply Kd.R_drew)); exact HO.out), (by repeat (first | (with_reducible first | exact HB.out | apply below_alloc | apply pw_below_drewN | apply below_drew1) | exact HB.out))⟩
set_option maxHeartbeats 8000000 in
set_option maxRecDepth 100000 in
theorem interest_Plan.main21 (k : Nat) (a0 a1 a2 a3 a4 a5 : Int) (A1 : Option Addr) (c1 : Nat) (l1 : List Int) (r1 : List S41) (r2 : Bool) (w : World) (hr : Kd.C (Kd.int .i64) w A1 l1.length l1) (hc : l1.length ≤ c1) (hrT : AheadAt w) (hv : interest_valid.f a0 a1 a2 a3 a4 a5 = some true) (hl : (l1.length : Int) ≤ 64) (y1 y2 anchor : Int) (hy : calendar_Civil.f k a4 = some (y1, y2, anchor, true)) (hF : PlF a0 21) (h : interest_Plan.l0 k a0 a1 a2 a3 a4 a5 l1 anchor 0 true a1 [] 1 = some (r1, r2)) :
    Calls Tryd.prog 7 #[.agg #[.int .i64 a0, .int .i64 a1, .int .i64 a2, .int .i64 a3, .int .i64 a4, .int .i64 a5], .slice A1 l1.length c1] w fun e w' => ∃ v0_ : Value, e = .returned (.tuple #[v0_, .bool r2]) ∧ Kd.R k41 41 w' w.heap.size (fun _ => True) v0_ r1 ∧ Below w.heap.size w w' := by
  have hu51 := Tryd.underlying51
  have hu23 := Tryd.underlying23
  have hu36 := Tryd.underlying36
  have HR := Aside0.mk hr
  have HC := Aside0.mk hc
  have HT := Aside0.mk hrT
  have HB := Aside0.mk (Below.refl w.heap.size w)
  clear hr hc hrT
  have HV := Aside0.mk hv
  have HC4 := Aside0.mk hy
  have z0 : (a0 == 0) = false := by unfold PlF at hF; exact beq_eq_false_iff_ne.2 (by omega)
  have z1 : (a0 == 1) = true := by unfold PlF at hF; exact beq_iff_eq.2 (by omega)
  have b1 : decide ((64 : Int) < (l1.length : Int)) = false := decide_eq_false (by omega)
  have b2 : decide (64 < l1.length) = false := decide_eq_false (by omega)
  have HF := Aside0.mk hF
  have HL0 := Aside0.mk h
  clear hv hl hy hF h
  go_enter Tryd.func7, Tryd.ntmps7
  go_upto_region 4 with (first | ((with_reducible refine gate_dst (N := 2) rfl ?_); refine box_event ?hg (N := 2) ?hd (cs := #[.int .i64 a0, .int .i64 a1, .int .i64 a2, .int .i64 a3, .int .i64 a4, .int .i64 a5]) (t := 23) ?hr ?_; (case hd => rfl); (case hg => rfl); (case hr => first | (go_simp; done) | (go_simp; rfl)); intro gt hg w3 hbox hb; have n0_ := Aside0.mk (below_step (by repeat (first | (with_reducible first | exact HB.out | apply below_alloc | apply pw_below_drewN | apply below_drew1) | exact HB.out)) hb); have n1_ := Aside0.mk (hbox); clear HB hb hbox hg; have HB := n0_; have BT := n1_; clear n0_ n1_; have ht_0 : w3.cell? ⟨gt, 0, none⟩ = some (.int .i64 a0) := (blk_cell BT.out 0).trans rfl; have ht_1 : w3.cell? ⟨gt, 1, none⟩ = some (.int .i64 a1) := (blk_cell BT.out 1).trans rfl; have ht_2 : w3.cell? ⟨gt, 2, none⟩ = some (.int .i64 a2) := (blk_cell BT.out 2).trans rfl; have ht_3 : w3.cell? ⟨gt, 3, none⟩ = some (.int .i64 a3) := (blk_cell BT.out 3).trans rfl; have ht_4 : w3.cell? ⟨gt, 4, none⟩ = some (.int .i64 a4) := (blk_cell BT.out 4).trans rfl; have ht_5 : w3.cell? ⟨gt, 5, none⟩ = some (.int .i64 a5) := (blk_cell BT.out 5).trans rfl) | (go_at_call 19; ((with_reducible refine (interest_valid.calls a0 a1 a2 a3 a4 a5 _ _ HV.out).mono ?_); rintro e w4 ⟨rfl, hb⟩); have n0_ := Aside0.mk (blk_below (by (with_reducible repeat (first | refine blk_drewN ?_ _ | refine blk_drew ?_ | refine blk_alloc ?_ _)); exact BT.out) hb); have n1_ := Aside0.mk (below_step (by repeat (first | (with_reducible first | exact HB.out | apply below_alloc | apply pw_below_drewN | apply below_drew1) | exact HB.out)) hb); clear BT HB hb; have BT := n0_; have HB := n1_; clear n0_ n1_; (try clear ht_0 ht_1 ht_2 ht_3 ht_4 ht_5); have ht_0 : w4.cell? ⟨gt, 0, none⟩ = some (.int .i64 a0) := (blk_cell BT.out 0).trans rfl; have ht_1 : w4.cell? ⟨gt, 1, none⟩ = some (.int .i64 a1) := (blk_cell BT.out 1).trans rfl; have ht_2 : w4.cell? ⟨gt, 2, none⟩ = some (.int .i64 a2) := (blk_cell BT.out 2).trans rfl; have ht_3 : w4.cell? ⟨gt, 3, none⟩ = some (.int .i64 a3) := (blk_cell BT.out 3).trans rfl; have ht_4 : w4.cell? ⟨gt, 4, none⟩ = some (.int .i64 a4) := (blk_cell BT.out 4).trans rfl; have ht_5 : w4.cell? ⟨gt, 5, none⟩ = some (.int .i64 a5) := (blk_cell BT.out 5).trans rfl) | (go_at_call 13; ((with_reducible refine (calendar_Civil.calls k a4 y1 y2 anchor _ _ (Kd.C_below HT.out (by repeat (first | (with_reducible first | exact HB.out | apply below_alloc | apply pw_below_drewN | apply below_drew1) | exact HB.out))) HC4.out).mono ?_); rintro e w5 ⟨rfl, hb⟩); have n0_ := Aside0.mk (blk_below (by (with_reducible repeat (first | refine blk_drewN ?_ _ | refine blk_drew ?_ | refine blk_alloc ?_ _)); exact BT.out) hb); have n1_ := Aside0.mk (below_step (by repeat (first | (with_reducible first | exact HB.out | apply below_alloc | apply pw_below_drewN | apply below_drew1) | exact HB.out)) hb); clear BT HB hb; have BT := n0_; have HB := n1_; clear n0_ n1_; (try clear ht_0 ht_1 ht_2 ht_3 ht_4 ht_5); have ht_0 : w5.cell? ⟨gt, 0, none⟩ = some (.int .i64 a0) := (blk_cell BT.out 0).trans rfl; have ht_1 : w5.cell? ⟨gt, 1, none⟩ = some (.int .i64 a1) := (blk_cell BT.out 1).trans rfl; have ht_2 : w5.cell? ⟨gt, 2, none⟩ = some (.int .i64 a2) := (blk_cell BT.out 2).trans rfl; have ht_3 : w5.cell? ⟨gt, 3, none⟩ = some (.int .i64 a3) := (blk_cell BT.out 3).trans rfl; have ht_4 : w5.cell? ⟨gt, 4, none⟩ = some (.int .i64 a4) := (blk_cell BT.out 4).trans rfl; have ht_5 : w5.cell? ⟨gt, 5, none⟩ = some (.int .i64 a5) := (blk_cell BT.out 5).trans rfl) | ((with_reducible refine gate_dst (N := 6) rfl ?_); refine box_event ?hg (N := 6) ?hd (cs := #[.int .i64 0, .int .i64 0, .int .i64 0]) (t := 36) ?hr ?_; (case hd => rfl); (case hg => rfl); (case hr => first | (go_simp; done) | (go_simp; rfl)); intro gd hg w6 hbox hb; have n0_ := Aside0.mk (blk_below (by (with_reducible repeat (first | refine blk_drewN ?_ _ | refine blk_drew ?_ | refine blk_alloc ?_ _)); exact BT.out) hb); have n1_ := Aside0.mk ((hg ▸ Nat.ne_of_lt (blk_lt (by (with_reducible repeat (first | refine blk_drewN ?_ _ | refine blk_drew ?_ | refine blk_alloc ?_ _)); exact BT.out)) : gt ≠ gd)); have n2_ := Aside0.mk ((hg ▸ below_size (by repeat (first | (with_reducible first | exact HB.out | apply below_alloc | apply pw_below_drewN | apply below_drew1) | exact HB.out)) : w.heap.size ≤ gd)); have n3_ := Aside0.mk (hbox); have n4_ := Aside0.mk (below_step (by repeat (first | (with_reducible first | exact HB.out | apply below_alloc | apply pw_below_drewN | apply below_drew1) | exact HB.out)) hb); clear BT HB hb hbox hg; have BT := n0_; have GNE := n1_; have GD := n2_; have BD := n3_; have HB := n4_; clear n0_ n1_ n2_ n3_ n4_; (try clear ht_0 ht_1 ht_2 ht_3 ht_4 ht_5); have ht_0 : w6.cell? ⟨gt, 0, none⟩ = some (.int .i64 a0) := (blk_cell BT.out 0).trans rfl; have ht_1 : w6.cell? ⟨gt, 1, none⟩ = some (.int .i64 a1) := (blk_cell BT.out 1).trans rfl; have ht_2 : w6.cell? ⟨gt, 2, none⟩ = some (.int .i64 a2) := (blk_cell BT.out 2).trans rfl; have ht_3 : w6.cell? ⟨gt, 3, none⟩ = some (.int .i64 a3) := (blk_cell BT.out 3).trans rfl; have ht_4 : w6.cell? ⟨gt, 4, none⟩ = some (.int .i64 a4) := (blk_cell BT.out 4).trans rfl; have ht_5 : w6.cell? ⟨gt, 5, none⟩ = some (.int .i64 a5) := (blk_cell BT.out 5).trans rfl; have hd_0 : w6.cell? ⟨gd, 0, none⟩ = some (.int .i64 0) := (blk_cell BD.out 0).trans rfl; have hd_1 : w6.cell? ⟨gd, 1, none⟩ = some (.int .i64 0) := (blk_cell BD.out 1).trans rfl; have hd_2 : w6.cell? ⟨gd, 2, none⟩ = some (.int .i64 0) := (blk_cell BD.out 2).trans rfl; have hfd_0 := blk_frozen BD.out 0; have hfd_1 := blk_frozen BD.out 1; have hfd_2 := blk_frozen BD.out 2))
  refine pl_sum (pl_date w gt gd #[.int .i64 a0, .int .i64 a1, .int .i64 a2, .int .i64 a3, .int .i64 a4, .int .i64 a5] y1 y2 anchor _ HB.out BT.out BD.out GNE.out GD.out) ?_
  clear HB BT BD
  clear hd_0 hd_1 hd_2 hfd_0 hfd_1 hfd_2
  (try clear ht_0 ht_1 ht_2 ht_3 ht_4 ht_5)
  intro w7 hs
  obtain ⟨hs1, hs2, hs3⟩ := hs
  have n0_ := Aside0.mk (hs1)
  have n1_ := Aside0.mk (hs2)
  have n2_ := Aside0.mk (hs3)
  clear hs1 hs2 hs3
  have HB := n0_
  have BT := n1_
  have BD := n2_
  clear n0_ n1_ n2_
  have ht_0 : w7.cell? ⟨gt, 0, none⟩ = some (.int .i64 a0) := (blk_cell BT.out 0).trans rfl
  have ht_1 : w7.cell? ⟨gt, 1, none⟩ = some (.int .i64 a1) := (blk_cell BT.out 1).trans rfl
  have ht_2 : w7.cell? ⟨gt, 2, none⟩ = some (.int .i64 a2) := (blk_cell BT.out 2).trans rfl
  have ht_3 : w7.cell? ⟨gt, 3, none⟩ = some (.int .i64 a3) := (blk_cell BT.out 3).trans rfl
  have ht_4 : w7.cell? ⟨gt, 4, none⟩ = some (.int .i64 a4) := (blk_cell BT.out 4).trans rfl
  have ht_5 : w7.cell? ⟨gt, 5, none⟩ = some (.int .i64 a5) := (blk_cell BT.out 5).trans rfl
  have hd_2 : w7.cell? ⟨gd, 2, none⟩ = some (.int .i64 anchor) := (blk_cell BD.out 2).trans rfl
  go_upto_region 14 with (first | ((with_reducible refine gate_dst (N := 34) rfl ?_); refine box_event ?hg (N := 34) ?hd (cs := #[.int .i64 a0, .int .i64 a1, .int .i64 a2, .int .i64 a3, .int .i64 a4, .int .i64 a5, .slice A1 l1.length c1, .int .i64 anchor, .int .i64 0, .int .i64 a1, .nilFunc]) (t := 51) ?hr ?_; (case hd => rfl); (case hg => rfl); (case hr => first | (go_simp; done) | (go_simp; rfl)); intro b hg w8 hbox hb; have n0_ := Aside0.mk (blk_below (by (with_reducible repeat (first | refine blk_drewN ?_ _ | refine blk_drew ?_ | refine blk_alloc ?_ _)); exact BT.out) hb); have n1_ := Aside0.mk ((hg ▸ below_size (by repeat (first | (with_reducible first | exact HB.out | apply below_alloc | apply pw_below_drewN | apply below_drew1) | exact HB.out)) : w.heap.size ≤ b)); have n2_ := Aside0.mk ((hg ▸ Nat.ne_of_lt (blk_lt (by (with_reducible repeat (first | refine blk_drewN ?_ _ | refine blk_drew ?_ | refine blk_alloc ?_ _)); exact BT.out)) : gt ≠ b)); have n3_ := Aside0.mk (hbox); have n4_ := Aside0.mk (below_step (by repeat (first | (with_reducible first | exact HB.out | apply below_alloc | apply pw_below_drewN | apply below_drew1) | exact HB.out)) hb); clear BT HB hb hbox hg; have BT := n0_; have GB := n1_; have GTB := n2_; have BP := n3_; have HB := n4_; clear n0_ n1_ n2_ n3_ n4_; (try clear ht_0 ht_1 ht_2 ht_3 ht_4 ht_5); have ht_0 : w8.cell? ⟨gt, 0, none⟩ = some (.int .i64 a0) := (blk_cell BT.out 0).trans rfl; have ht_1 : w8.cell? ⟨gt, 1, none⟩ = some (.int .i64 a1) := (blk_cell BT.out 1).trans rfl; have ht_2 : w8.cell? ⟨gt, 2, none⟩ = some (.int .i64 a2) := (blk_cell BT.out 2).trans rfl; have ht_3 : w8.cell? ⟨gt, 3, none⟩ = some (.int .i64 a3) := (blk_cell BT.out 3).trans rfl; have ht_4 : w8.cell? ⟨gt, 4, none⟩ = some (.int .i64 a4) := (blk_cell BT.out 4).trans rfl; have ht_5 : w8.cell? ⟨gt, 5, none⟩ = some (.int .i64 a5) := (blk_cell BT.out 5).trans rfl; have hb_8 : w8.cell? ⟨b, 8, none⟩ = some (.int .i64 0) := (blk_cell BP.out 8).trans rfl; have hb_10 : w8.cell? ⟨b, 10, none⟩ = some .nilFunc := (blk_cell BP.out 10).trans rfl; have hfb_8 := blk_frozen BP.out 8; have hfb_10 := blk_frozen BP.out 10) | fail)
  refine pl_sum (pl_set10 (⟨HB.out, BP.out, BT.out⟩ : PlReady w gt b a0 a1 a2 a3 a4 a5 A1 c1 l1 anchor 0 a1 .nilFunc _) GB.out GTB.out (.func (.func 21) #[.pointer (some ⟨b, 0, none⟩)] #[])) ?_
  clear HB BP BT
  (try clear hd_2 hb_8 hb_10 hfb_8 hfb_10)
  (try clear ht_0 ht_1 ht_2 ht_3 ht_4 ht_5)
  intro w10 hs
  obtain ⟨hs1, hs2, hs3⟩ := hs
  have n0_ := Aside0.mk (hs1)
  have n1_ := Aside0.mk (hs2)
  have n2_ := Aside0.mk (hs3)
  clear hs1 hs2 hs3
  have HB := n0_
  have BK := n1_
  have BT := n2_
  clear n0_ n1_ n2_
  go_wp2
  go_loopg [7, 9, 10] k (fun kq v7 v9 v10 w' => ∃ (ok : Bool) (plan : List S41) (m bal : Int), v7 = .bool ok ∧ v10 = .int .i64 m ∧ Aside0 (interest_Plan.l0 kq a0 a1 a2 a3 a4 a5 l1 anchor 0 ok bal plan m = some (r1, r2)) ∧ Aside0 (kq ≤ k) ∧ Aside0 (Kd.R k41 41 w' w.heap.size (fun _ => True) v9 plan) ∧ Aside0 (w'.heap[b]? = some (.cells #[.int .i64 a0, .int .i64 a1, .int .i64 a2, .int .i64 a3, .int .i64 a4, .int .i64 a5, .slice A1 l1.length c1, .int .i64 anchor, .int .i64 0, .int .i64 bal, .func (.func 21) #[.pointer (some ⟨b, 0, none⟩)] #[]] 51 (0, 0))) ∧ Aside0 (w'.heap[gt]? = some (.cells #[.int .i64 a0, .int .i64 a1, .int .i64 a2, .int .i64 a3, .int .i64 a4, .int .i64 a5] 23 (0, 0))) ∧ Aside0 (Below w.heap.size w w'))
  case atStart => exact ⟨true, [], 1, a1, rfl, rfl, HL0, ⟨Nat.le_refl _⟩, ⟨Kd.R_nil _ _ _ _ _⟩, ⟨(by (with_reducible repeat (first | refine blk_drewN ?_ _ | refine blk_drew ?_ | refine blk_alloc ?_ _)); exact BK.out)⟩, ⟨(by (with_reducible repeat (first | refine blk_drewN ?_ _ | refine blk_drew ?_ | refine blk_alloc ?_ _)); exact BT.out)⟩, ⟨(by repeat (first | (with_reducible first | exact HB.out | apply below_alloc | apply pw_below_drewN | apply below_drew1) | exact HB.out))⟩⟩
  case round =>
    clear HL0 BK BT HB
    obtain ⟨ok, plan, m, bal, rfl, rfl, HA, HK1, HO, BK, BT, HB⟩ := hrel
    have hc_9 : wr.cell? ⟨b, 9, none⟩ = some (.int .i64 bal) := (blk_cell BK.out 9).trans rfl
    have ht_3 : wr.cell? ⟨gt, 3, none⟩ = some (.int .i64 a3) := (blk_cell BT.out 3).trans rfl
    cases gk with
    | zero => exact absurd HA.out (by simp [interest_Plan.l0])
    | succ k1 =>
      have H := HA.out
      clear HA
      simp only [interest_Plan.l0] at H
      by_cases hcond : ok = true ∧ 0 < bal ∧ m ≤ a3
      · rw [if_pos hcond] at H
        obtain ⟨rfl, hb0, hm0⟩ := hcond
        have c0 : decide (0 < bal) = true := decide_eq_true hb0
        have c1' : decide (m ≤ a3) = true := decide_eq_true hm0
        obtain ⟨⟨plan', bal', ok'⟩, hN, H⟩ := Option.bind_eq_some_iff.1 H
        have HN := Aside0.mk hN
        have HL := Aside0.mk (show interest_Plan.l0 k1 a0 a1 a2 a3 a4 a5 l1 anchor 0 ok' bal' plan' (wrap64 (m + 1)) = some (r1, r2) from H)
        clear hN H hb0 hm0
        go_wp2_with (first | (go_at_call 23; ((with_reducible refine (pl_next21 a0 a1 a2 a3 a4 a5 A1 c1 l1 anchor 0 bal k1 w _ b gt #[.int .i64 a0, .int .i64 a1, .int .i64 a2, .int .i64 a3, .int .i64 a4, .int .i64 a5] m u9 plan plan' bal' ok' GB.out (by repeat (first | (with_reducible first | exact HB.out | apply below_alloc | apply pw_below_drewN | apply below_drew1) | exact HB.out)) (by (with_reducible repeat (first | refine blk_drewN ?_ _ | refine blk_drew ?_ | refine blk_alloc ?_ _)); exact BK.out) (by (with_reducible repeat (first | refine blk_drewN ?_ _ | refine blk_drew ?_ | refine blk_alloc ?_ _)); exact BT.out) (by (with_reducible repeat (first | apply Kd.R_alloc | apply Kd.R_drewN | apply Kd.R_drew)); exact HO.out) HR.out HC.out HT.out HF.out HN.out).mono ?_); rintro e w12 ⟨v', rfl, hb1, hb2, hb3, hb4⟩); clear HB BK BT HO; have HB := Aside0.mk hb1; have BK := Aside0.mk hb2; have BT := Aside0.mk hb3; have HO := Aside0.mk hb4; clear hb1 hb2 hb3 hb4))
        go_roundg k1
        case measure => have := HK1.out; omega
        case rel => exact ⟨ok', plan', wrap64 (m + 1), bal', (by first | rfl | (simp; done) | (simp [*]; done)), (by first | rfl | (simp; done) | (simp [*]; done)), HL, ⟨by have := HK1.out; omega⟩, ⟨(by (with_reducible repeat (first | apply Kd.R_alloc | apply Kd.R_drewN | apply Kd.R_drew)); exact HO.out)⟩, ⟨(by (with_reducible repeat (first | refine blk_drewN ?_ _ | refine blk_drew ?_ | refine blk_alloc ?_ _)); exact BK.out)⟩, ⟨(by (with_reducible repeat (first | refine blk_drewN ?_ _ | refine blk_drew ?_ | refine blk_alloc ?_ _)); exact BT.out)⟩, ⟨(by repeat (first | (with_reducible first | exact HB.out | apply below_alloc | apply pw_below_drewN | apply below_drew1) | exact HB.out))⟩⟩
      · rw [if_neg hcond] at H
        have H1 := Aside0.mk (Option.some.inj H)
        clear H
        cases ok with
        | false =>
          have h1 := H1.out
          rw [if_neg (by simp)] at h1
          simp only [Prod.mk.injEq] at h1
          obtain ⟨rfl, rfl⟩ := h1
          clear hcond H1
          go_wp2
          go_ret2
          exact ⟨_, rfl, Kd.R_nil _ _ _ _ _, (by repeat (first | (with_reducible first | exact HB.out | apply below_alloc | apply pw_below_drewN | apply below_drew1) | exact HB.out))⟩
        | true =>
          have h1 := H1.out
          rw [if_pos rfl] at h1
          simp only [Prod.mk.injEq] at h1
          obtain ⟨rfl, rfl⟩ := h1
          clear H1
          by_cases hb0 : 0 < bal
          · have c0 : decide (0 < bal) = true := decide_eq_true hb0
            have c1' : decide (m ≤ a3) = false := decide_eq_false (fun hm => hcond ⟨rfl, hb0, hm⟩)
            clear hcond hb0
            go_wp2
            go_ret2
            exact ⟨_, rfl, (by (with_reducible repeat (first | apply Kd.R_alloc | apply Kd.R_drewN | apply Kd.R_drew)); exact HO.out), (by repeat (first | (with_reducible first | exact HB.out | apply below_alloc | apply pw_below_drewN | apply below_drew1) | exact HB.out))⟩
          · have c0 : decide (0 < bal) = false := decide_eq_false hb0
            clear hcond hb0
            go_wp2
            go_ret2
            exact ⟨_, rfl, (by (with_reducible repeat (first | apply Kd.R_alloc | apply Kd.R_drewN | apply Kd.R_drew)); exact HO.out), (by repeat (first | (with_reducible first | exact HB.out | apply below_alloc | apply pw_below_drewN | apply below_drew1) | exact HB.out))⟩
set_option maxHeartbeats 8000000 in
set_option maxRecDepth 100000 in
theorem interest_Plan.main22 (k : Nat) (a0 a1 a2 a3 a4 a5 : Int) (A1 : Option Addr) (c1 : Nat) (l1 : List Int) (r1 : List S41) (r2 : Bool) (w : World) (hr : Kd.C (Kd.int .i64) w A1 l1.length l1) (hc : l1.length ≤ c1) (hrT : AheadAt w) (hv : interest_valid.f a0 a1 a2 a3 a4 a5 = some true) (hl : (l1.length : Int) ≤ 64) (y1 y2 anchor : Int) (hy : calendar_Civil.f k a4 = some (y1, y2, anchor, true)) (hF : PlF a0 22) (h : interest_Plan.l0 k a0 a1 a2 a3 a4 a5 l1 anchor 0 true a1 [] 1 = some (r1, r2)) :
    Calls Tryd.prog 7 #[.agg #[.int .i64 a0, .int .i64 a1, .int .i64 a2, .int .i64 a3, .int .i64 a4, .int .i64 a5], .slice A1 l1.length c1] w fun e w' => ∃ v0_ : Value, e = .returned (.tuple #[v0_, .bool r2]) ∧ Kd.R k41 41 w' w.heap.size (fun _ => True) v0_ r1 ∧ Below w.heap.size w w' := by
  have hu51 := Tryd.underlying51
  have hu23 := Tryd.underlying23
  have hu36 := Tryd.underlying36
  have HR := Aside0.mk hr
  have HC := Aside0.mk hc
  have HT := Aside0.mk hrT
  have HB := Aside0.mk (Below.refl w.heap.size w)
  clear hr hc hrT
  have HV := Aside0.mk hv
  have HC4 := Aside0.mk hy
  have z0 : (a0 == 0) = false := by unfold PlF at hF; exact beq_eq_false_iff_ne.2 (by omega)
  have z1 : (a0 == 1) = false := by unfold PlF at hF; exact beq_eq_false_iff_ne.2 (by omega)
  have b1 : decide ((64 : Int) < (l1.length : Int)) = false := decide_eq_false (by omega)
  have b2 : decide (64 < l1.length) = false := decide_eq_false (by omega)
  have HF := Aside0.mk hF
  have HL0 := Aside0.mk h
  clear hv hl hy hF h
  go_enter Tryd.func7, Tryd.ntmps7
  go_upto_region 4 with (first | ((with_reducible refine gate_dst (N := 2) rfl ?_); refine box_event ?hg (N := 2) ?hd (cs := #[.int .i64 a0, .int .i64 a1, .int .i64 a2, .int .i64 a3, .int .i64 a4, .int .i64 a5]) (t := 23) ?hr ?_; (case hd => rfl); (case hg => rfl); (case hr => first | (go_simp; done) | (go_simp; rfl)); intro gt hg w3 hbox hb; have n0_ := Aside0.mk (below_step (by repeat (first | (with_reducible first | exact HB.out | apply below_alloc | apply pw_below_drewN | apply below_drew1) | exact HB.out)) hb); have n1_ := Aside0.mk (hbox); clear HB hb hbox hg; have HB := n0_; have BT := n1_; clear n0_ n1_; have ht_0 : w3.cell? ⟨gt, 0, none⟩ = some (.int .i64 a0) := (blk_cell BT.out 0).trans rfl; have ht_1 : w3.cell? ⟨gt, 1, none⟩ = some (.int .i64 a1) := (blk_cell BT.out 1).trans rfl; have ht_2 : w3.cell? ⟨gt, 2, none⟩ = some (.int .i64 a2) := (blk_cell BT.out 2).trans rfl; have ht_3 : w3.cell? ⟨gt, 3, none⟩ = some (.int .i64 a3) := (blk_cell BT.out 3).trans rfl; have ht_4 : w3.cell? ⟨gt, 4, none⟩ = some (.int .i64 a4) := (blk_cell BT.out 4).trans rfl; have ht_5 : w3.cell? ⟨gt, 5, none⟩ = some (.int .i64 a5) := (blk_cell BT.out 5).trans rfl) | (go_at_call 19; ((with_reducible refine (interest_valid.calls a0 a1 a2 a3 a4 a5 _ _ HV.out).mono ?_); rintro e w4 ⟨rfl, hb⟩); have n0_ := Aside0.mk (blk_below (by (with_reducible repeat (first | refine blk_drewN ?_ _ | refine blk_drew ?_ | refine blk_alloc ?_ _)); exact BT.out) hb); have n1_ := Aside0.mk (below_step (by repeat (first | (with_reducible first | exact HB.out | apply below_alloc | apply pw_below_drewN | apply below_drew1) | exact HB.out)) hb); clear BT HB hb; have BT := n0_; have HB := n1_; clear n0_ n1_; (try clear ht_0 ht_1 ht_2 ht_3 ht_4 ht_5); have ht_0 : w4.cell? ⟨gt, 0, none⟩ = some (.int .i64 a0) := (blk_cell BT.out 0).trans rfl; have ht_1 : w4.cell? ⟨gt, 1, none⟩ = some (.int .i64 a1) := (blk_cell BT.out 1).trans rfl; have ht_2 : w4.cell? ⟨gt, 2, none⟩ = some (.int .i64 a2) := (blk_cell BT.out 2).trans rfl; have ht_3 : w4.cell? ⟨gt, 3, none⟩ = some (.int .i64 a3) := (blk_cell BT.out 3).trans rfl; have ht_4 : w4.cell? ⟨gt, 4, none⟩ = some (.int .i64 a4) := (blk_cell BT.out 4).trans rfl; have ht_5 : w4.cell? ⟨gt, 5, none⟩ = some (.int .i64 a5) := (blk_cell BT.out 5).trans rfl) | (go_at_call 13; ((with_reducible refine (calendar_Civil.calls k a4 y1 y2 anchor _ _ (Kd.C_below HT.out (by repeat (first | (with_reducible first | exact HB.out | apply below_alloc | apply pw_below_drewN | apply below_drew1) | exact HB.out))) HC4.out).mono ?_); rintro e w5 ⟨rfl, hb⟩); have n0_ := Aside0.mk (blk_below (by (with_reducible repeat (first | refine blk_drewN ?_ _ | refine blk_drew ?_ | refine blk_alloc ?_ _)); exact BT.out) hb); have n1_ := Aside0.mk (below_step (by repeat (first | (with_reducible first | exact HB.out | apply below_alloc | apply pw_below_drewN | apply below_drew1) | exact HB.out)) hb); clear BT HB hb; have BT := n0_; have HB := n1_; clear n0_ n1_; (try clear ht_0 ht_1 ht_2 ht_3 ht_4 ht_5); have ht_0 : w5.cell? ⟨gt, 0, none⟩ = some (.int .i64 a0) := (blk_cell BT.out 0).trans rfl; have ht_1 : w5.cell? ⟨gt, 1, none⟩ = some (.int .i64 a1) := (blk_cell BT.out 1).trans rfl; have ht_2 : w5.cell? ⟨gt, 2, none⟩ = some (.int .i64 a2) := (blk_cell BT.out 2).trans rfl; have ht_3 : w5.cell? ⟨gt, 3, none⟩ = some (.int .i64 a3) := (blk_cell BT.out 3).trans rfl; have ht_4 : w5.cell? ⟨gt, 4, none⟩ = some (.int .i64 a4) := (blk_cell BT.out 4).trans rfl; have ht_5 : w5.cell? ⟨gt, 5, none⟩ = some (.int .i64 a5) := (blk_cell BT.out 5).trans rfl) | ((with_reducible refine gate_dst (N := 6) rfl ?_); refine box_event ?hg (N := 6) ?hd (cs := #[.int .i64 0, .int .i64 0, .int .i64 0]) (t := 36) ?hr ?_; (case hd => rfl); (case hg => rfl); (case hr => first | (go_simp; done) | (go_simp; rfl)); intro gd hg w6 hbox hb; have n0_ := Aside0.mk (blk_below (by (with_reducible repeat (first | refine blk_drewN ?_ _ | refine blk_drew ?_ | refine blk_alloc ?_ _)); exact BT.out) hb); have n1_ := Aside0.mk ((hg ▸ Nat.ne_of_lt (blk_lt (by (with_reducible repeat (first | refine blk_drewN ?_ _ | refine blk_drew ?_ | refine blk_alloc ?_ _)); exact BT.out)) : gt ≠ gd)); have n2_ := Aside0.mk ((hg ▸ below_size (by repeat (first | (with_reducible first | exact HB.out | apply below_alloc | apply pw_below_drewN | apply below_drew1) | exact HB.out)) : w.heap.size ≤ gd)); have n3_ := Aside0.mk (hbox); have n4_ := Aside0.mk (below_step (by repeat (first | (with_reducible first | exact HB.out | apply below_alloc | apply pw_below_drewN | apply below_drew1) | exact HB.out)) hb); clear BT HB hb hbox hg; have BT := n0_; have GNE := n1_; have GD := n2_; have BD := n3_; have HB := n4_; clear n0_ n1_ n2_ n3_ n4_; (try clear ht_0 ht_1 ht_2 ht_3 ht_4 ht_5); have ht_0 : w6.cell? ⟨gt, 0, none⟩ = some (.int .i64 a0) := (blk_cell BT.out 0).trans rfl; have ht_1 : w6.cell? ⟨gt, 1, none⟩ = some (.int .i64 a1) := (blk_cell BT.out 1).trans rfl; have ht_2 : w6.cell? ⟨gt, 2, none⟩ = some (.int .i64 a2) := (blk_cell BT.out 2).trans rfl; have ht_3 : w6.cell? ⟨gt, 3, none⟩ = some (.int .i64 a3) := (blk_cell BT.out 3).trans rfl; have ht_4 : w6.cell? ⟨gt, 4, none⟩ = some (.int .i64 a4) := (blk_cell BT.out 4).trans rfl; have ht_5 : w6.cell? ⟨gt, 5, none⟩ = some (.int .i64 a5) := (blk_cell BT.out 5).trans rfl; have hd_0 : w6.cell? ⟨gd, 0, none⟩ = some (.int .i64 0) := (blk_cell BD.out 0).trans rfl; have hd_1 : w6.cell? ⟨gd, 1, none⟩ = some (.int .i64 0) := (blk_cell BD.out 1).trans rfl; have hd_2 : w6.cell? ⟨gd, 2, none⟩ = some (.int .i64 0) := (blk_cell BD.out 2).trans rfl; have hfd_0 := blk_frozen BD.out 0; have hfd_1 := blk_frozen BD.out 1; have hfd_2 := blk_frozen BD.out 2))
  refine pl_sum (pl_date w gt gd #[.int .i64 a0, .int .i64 a1, .int .i64 a2, .int .i64 a3, .int .i64 a4, .int .i64 a5] y1 y2 anchor _ HB.out BT.out BD.out GNE.out GD.out) ?_
  clear HB BT BD
  clear hd_0 hd_1 hd_2 hfd_0 hfd_1 hfd_2
  (try clear ht_0 ht_1 ht_2 ht_3 ht_4 ht_5)
  intro w7 hs
  obtain ⟨hs1, hs2, hs3⟩ := hs
  have n0_ := Aside0.mk (hs1)
  have n1_ := Aside0.mk (hs2)
  have n2_ := Aside0.mk (hs3)
  clear hs1 hs2 hs3
  have HB := n0_
  have BT := n1_
  have BD := n2_
  clear n0_ n1_ n2_
  have ht_0 : w7.cell? ⟨gt, 0, none⟩ = some (.int .i64 a0) := (blk_cell BT.out 0).trans rfl
  have ht_1 : w7.cell? ⟨gt, 1, none⟩ = some (.int .i64 a1) := (blk_cell BT.out 1).trans rfl
  have ht_2 : w7.cell? ⟨gt, 2, none⟩ = some (.int .i64 a2) := (blk_cell BT.out 2).trans rfl
  have ht_3 : w7.cell? ⟨gt, 3, none⟩ = some (.int .i64 a3) := (blk_cell BT.out 3).trans rfl
  have ht_4 : w7.cell? ⟨gt, 4, none⟩ = some (.int .i64 a4) := (blk_cell BT.out 4).trans rfl
  have ht_5 : w7.cell? ⟨gt, 5, none⟩ = some (.int .i64 a5) := (blk_cell BT.out 5).trans rfl
  have hd_2 : w7.cell? ⟨gd, 2, none⟩ = some (.int .i64 anchor) := (blk_cell BD.out 2).trans rfl
  go_upto_region 14 with (first | ((with_reducible refine gate_dst (N := 34) rfl ?_); refine box_event ?hg (N := 34) ?hd (cs := #[.int .i64 a0, .int .i64 a1, .int .i64 a2, .int .i64 a3, .int .i64 a4, .int .i64 a5, .slice A1 l1.length c1, .int .i64 anchor, .int .i64 0, .int .i64 a1, .nilFunc]) (t := 51) ?hr ?_; (case hd => rfl); (case hg => rfl); (case hr => first | (go_simp; done) | (go_simp; rfl)); intro b hg w8 hbox hb; have n0_ := Aside0.mk (blk_below (by (with_reducible repeat (first | refine blk_drewN ?_ _ | refine blk_drew ?_ | refine blk_alloc ?_ _)); exact BT.out) hb); have n1_ := Aside0.mk ((hg ▸ below_size (by repeat (first | (with_reducible first | exact HB.out | apply below_alloc | apply pw_below_drewN | apply below_drew1) | exact HB.out)) : w.heap.size ≤ b)); have n2_ := Aside0.mk ((hg ▸ Nat.ne_of_lt (blk_lt (by (with_reducible repeat (first | refine blk_drewN ?_ _ | refine blk_drew ?_ | refine blk_alloc ?_ _)); exact BT.out)) : gt ≠ b)); have n3_ := Aside0.mk (hbox); have n4_ := Aside0.mk (below_step (by repeat (first | (with_reducible first | exact HB.out | apply below_alloc | apply pw_below_drewN | apply below_drew1) | exact HB.out)) hb); clear BT HB hb hbox hg; have BT := n0_; have GB := n1_; have GTB := n2_; have BP := n3_; have HB := n4_; clear n0_ n1_ n2_ n3_ n4_; (try clear ht_0 ht_1 ht_2 ht_3 ht_4 ht_5); have ht_0 : w8.cell? ⟨gt, 0, none⟩ = some (.int .i64 a0) := (blk_cell BT.out 0).trans rfl; have ht_1 : w8.cell? ⟨gt, 1, none⟩ = some (.int .i64 a1) := (blk_cell BT.out 1).trans rfl; have ht_2 : w8.cell? ⟨gt, 2, none⟩ = some (.int .i64 a2) := (blk_cell BT.out 2).trans rfl; have ht_3 : w8.cell? ⟨gt, 3, none⟩ = some (.int .i64 a3) := (blk_cell BT.out 3).trans rfl; have ht_4 : w8.cell? ⟨gt, 4, none⟩ = some (.int .i64 a4) := (blk_cell BT.out 4).trans rfl; have ht_5 : w8.cell? ⟨gt, 5, none⟩ = some (.int .i64 a5) := (blk_cell BT.out 5).trans rfl; have hb_8 : w8.cell? ⟨b, 8, none⟩ = some (.int .i64 0) := (blk_cell BP.out 8).trans rfl; have hb_10 : w8.cell? ⟨b, 10, none⟩ = some .nilFunc := (blk_cell BP.out 10).trans rfl; have hfb_8 := blk_frozen BP.out 8; have hfb_10 := blk_frozen BP.out 10) | fail)
  refine pl_sum (pl_set10 (⟨HB.out, BP.out, BT.out⟩ : PlReady w gt b a0 a1 a2 a3 a4 a5 A1 c1 l1 anchor 0 a1 .nilFunc _) GB.out GTB.out (.func (.func 22) #[.pointer (some ⟨b, 0, none⟩)] #[])) ?_
  clear HB BP BT
  (try clear hd_2 hb_8 hb_10 hfb_8 hfb_10)
  (try clear ht_0 ht_1 ht_2 ht_3 ht_4 ht_5)
  intro w10 hs
  obtain ⟨hs1, hs2, hs3⟩ := hs
  have n0_ := Aside0.mk (hs1)
  have n1_ := Aside0.mk (hs2)
  have n2_ := Aside0.mk (hs3)
  clear hs1 hs2 hs3
  have HB := n0_
  have BK := n1_
  have BT := n2_
  clear n0_ n1_ n2_
  go_wp2
  go_loopg [7, 9, 10] k (fun kq v7 v9 v10 w' => ∃ (ok : Bool) (plan : List S41) (m bal : Int), v7 = .bool ok ∧ v10 = .int .i64 m ∧ Aside0 (interest_Plan.l0 kq a0 a1 a2 a3 a4 a5 l1 anchor 0 ok bal plan m = some (r1, r2)) ∧ Aside0 (kq ≤ k) ∧ Aside0 (Kd.R k41 41 w' w.heap.size (fun _ => True) v9 plan) ∧ Aside0 (w'.heap[b]? = some (.cells #[.int .i64 a0, .int .i64 a1, .int .i64 a2, .int .i64 a3, .int .i64 a4, .int .i64 a5, .slice A1 l1.length c1, .int .i64 anchor, .int .i64 0, .int .i64 bal, .func (.func 22) #[.pointer (some ⟨b, 0, none⟩)] #[]] 51 (0, 0))) ∧ Aside0 (w'.heap[gt]? = some (.cells #[.int .i64 a0, .int .i64 a1, .int .i64 a2, .int .i64 a3, .int .i64 a4, .int .i64 a5] 23 (0, 0))) ∧ Aside0 (Below w.heap.size w w'))
  case atStart => exact ⟨true, [], 1, a1, rfl, rfl, HL0, ⟨Nat.le_refl _⟩, ⟨Kd.R_nil _ _ _ _ _⟩, ⟨(by (with_reducible repeat (first | refine blk_drewN ?_ _ | refine blk_drew ?_ | refine blk_alloc ?_ _)); exact BK.out)⟩, ⟨(by (with_reducible repeat (first | refine blk_drewN ?_ _ | refine blk_drew ?_ | refine blk_alloc ?_ _)); exact BT.out)⟩, ⟨(by repeat (first | (with_reducible first | exact HB.out | apply below_alloc | apply pw_below_drewN | apply below_drew1) | exact HB.out))⟩⟩
  case round =>
    clear HL0 BK BT HB
    obtain ⟨ok, plan, m, bal, rfl, rfl, HA, HK1, HO, BK, BT, HB⟩ := hrel
    have hc_9 : wr.cell? ⟨b, 9, none⟩ = some (.int .i64 bal) := (blk_cell BK.out 9).trans rfl
    have ht_3 : wr.cell? ⟨gt, 3, none⟩ = some (.int .i64 a3) := (blk_cell BT.out 3).trans rfl
    cases gk with
    | zero => exact absurd HA.out (by simp [interest_Plan.l0])
    | succ k1 =>
      have H := HA.out
      clear HA
      simp only [interest_Plan.l0] at H
      by_cases hcond : ok = true ∧ 0 < bal ∧ m ≤ a3
      · rw [if_pos hcond] at H
        obtain ⟨rfl, hb0, hm0⟩ := hcond
        have c0 : decide (0 < bal) = true := decide_eq_true hb0
        have c1' : decide (m ≤ a3) = true := decide_eq_true hm0
        obtain ⟨⟨plan', bal', ok'⟩, hN, H⟩ := Option.bind_eq_some_iff.1 H
        have HN := Aside0.mk hN
        have HL := Aside0.mk (show interest_Plan.l0 k1 a0 a1 a2 a3 a4 a5 l1 anchor 0 ok' bal' plan' (wrap64 (m + 1)) = some (r1, r2) from H)
        clear hN H hb0 hm0
        go_wp2_with (first | (go_at_call 23; ((with_reducible refine (pl_next22 a0 a1 a2 a3 a4 a5 A1 c1 l1 anchor 0 bal k1 w _ b gt #[.int .i64 a0, .int .i64 a1, .int .i64 a2, .int .i64 a3, .int .i64 a4, .int .i64 a5] m u9 plan plan' bal' ok' GB.out (by repeat (first | (with_reducible first | exact HB.out | apply below_alloc | apply pw_below_drewN | apply below_drew1) | exact HB.out)) (by (with_reducible repeat (first | refine blk_drewN ?_ _ | refine blk_drew ?_ | refine blk_alloc ?_ _)); exact BK.out) (by (with_reducible repeat (first | refine blk_drewN ?_ _ | refine blk_drew ?_ | refine blk_alloc ?_ _)); exact BT.out) (by (with_reducible repeat (first | apply Kd.R_alloc | apply Kd.R_drewN | apply Kd.R_drew)); exact HO.out) HR.out HC.out HT.out HF.out HN.out).mono ?_); rintro e w12 ⟨v', rfl, hb1, hb2, hb3, hb4⟩); clear HB BK BT HO; have HB := Aside0.mk hb1; have BK := Aside0.mk hb2; have BT := Aside0.mk hb3; have HO := Aside0.mk hb4; clear hb1 hb2 hb3 hb4))
        go_roundg k1
        case measure => have := HK1.out; omega
        case rel => exact ⟨ok', plan', wrap64 (m + 1), bal', (by first | rfl | (simp; done) | (simp [*]; done)), (by first | rfl | (simp; done) | (simp [*]; done)), HL, ⟨by have := HK1.out; omega⟩, ⟨(by (with_reducible repeat (first | apply Kd.R_alloc | apply Kd.R_drewN | apply Kd.R_drew)); exact HO.out)⟩, ⟨(by (with_reducible repeat (first | refine blk_drewN ?_ _ | refine blk_drew ?_ | refine blk_alloc ?_ _)); exact BK.out)⟩, ⟨(by (with_reducible repeat (first | refine blk_drewN ?_ _ | refine blk_drew ?_ | refine blk_alloc ?_ _)); exact BT.out)⟩, ⟨(by repeat (first | (with_reducible first | exact HB.out | apply below_alloc | apply pw_below_drewN | apply below_drew1) | exact HB.out))⟩⟩
      · rw [if_neg hcond] at H
        have H1 := Aside0.mk (Option.some.inj H)
        clear H
        cases ok with
        | false =>
          have h1 := H1.out
          rw [if_neg (by simp)] at h1
          simp only [Prod.mk.injEq] at h1
          obtain ⟨rfl, rfl⟩ := h1
          clear hcond H1
          go_wp2
          go_ret2
          exact ⟨_, rfl, Kd.R_nil _ _ _ _ _, (by repeat (first | (with_reducible first | exact HB.out | apply below_alloc | apply pw_below_drewN | apply below_drew1) | exact HB.out))⟩
        | true =>
          have h1 := H1.out
          rw [if_pos rfl] at h1
          simp only [Prod.mk.injEq] at h1
          obtain ⟨rfl, rfl⟩ := h1
          clear H1
          by_cases hb0 : 0 < bal
          · have c0 : decide (0 < bal) = true := decide_eq_true hb0
            have c1' : decide (m ≤ a3) = false := decide_eq_false (fun hm => hcond ⟨rfl, hb0, hm⟩)
            clear hcond hb0
            go_wp2
            go_ret2
            exact ⟨_, rfl, (by (with_reducible repeat (first | apply Kd.R_alloc | apply Kd.R_drewN | apply Kd.R_drew)); exact HO.out), (by repeat (first | (with_reducible first | exact HB.out | apply below_alloc | apply pw_below_drewN | apply below_drew1) | exact HB.out))⟩
          · have c0 : decide (0 < bal) = false := decide_eq_false hb0
            clear hcond hb0
            go_wp2
            go_ret2
            exact ⟨_, rfl, (by (with_reducible repeat (first | apply Kd.R_alloc | apply Kd.R_drewN | apply Kd.R_drew)); exact HO.out), (by repeat (first | (with_reducible first | exact HB.out | apply below_alloc | apply pw_below_drewN | apply below_drew1) | exact HB.out))⟩
set_option maxHeartbeats 8000000 in
set_option maxRecDepth 100000 in
theorem interest_Plan.calls (k : Nat) (a0 a1 a2 a3 a4 a5 : Int) (A1 : Option Addr) (c1 : Nat) (l1 : List Int) (r1 : List S41) (r2 : Bool) (w : World) (hr : Kd.C (Kd.int .i64) w A1 l1.length l1) (hc : l1.length ≤ c1) (hrT : AheadAt w) (h : interest_Plan.f k a0 a1 a2 a3 a4 a5 l1 = some (r1, r2)) :
    Calls Tryd.prog 7 #[.agg #[.int .i64 a0, .int .i64 a1, .int .i64 a2, .int .i64 a3, .int .i64 a4, .int .i64 a5], .slice A1 l1.length c1] w fun e w' => ∃ v0_ : Value, e = .returned (.tuple #[v0_, .bool r2]) ∧ Kd.R k41 41 w' w.heap.size (fun _ => True) v0_ r1 ∧ Below w.heap.size w w' := by
  unfold interest_Plan.f at h
  obtain ⟨v, hv, h⟩ := Option.bind_eq_some_iff.1 h
  by_cases hcond : v = true ∧ (l1.length : Int) ≤ 64
  · rw [if_pos hcond] at h
    obtain ⟨rfl, hl⟩ := hcond
    obtain ⟨⟨y1, y2, y3, y4⟩, hy, h⟩ := Option.bind_eq_some_iff.1 h
    cases y4 with
    | false =>
      rw [if_neg (by simp)] at h
      simp only [Option.some.injEq, Prod.mk.injEq] at h
      exact interest_Plan.bad3 k a0 a1 a2 a3 a4 a5 A1 c1 l1 r1 r2 w hr hc hrT hv hl y1 y2 y3 hy h.1.symm h.2.symm
    | true =>
      rw [if_pos rfl] at h
      by_cases h0 : a0 = 0
      · rw [if_pos h0] at h
        obtain ⟨⟨L1, L2⟩, hL, h⟩ := Option.bind_eq_some_iff.1 h
        exact interest_Plan.main20 k a0 a1 a2 a3 a4 a5 A1 c1 l1 r1 r2 w hr hc hrT hv hl y1 y2 y3 hy (.inl ⟨h0, rfl⟩) L1 L2 hL h
      · rw [if_neg h0] at h
        by_cases h1 : a0 = 1
        · exact interest_Plan.main21 k a0 a1 a2 a3 a4 a5 A1 c1 l1 r1 r2 w hr hc hrT hv hl y1 y2 y3 hy (.inr (.inl ⟨h1, rfl⟩)) h
        · exact interest_Plan.main22 k a0 a1 a2 a3 a4 a5 A1 c1 l1 r1 r2 w hr hc hrT hv hl y1 y2 y3 hy (.inr (.inr ⟨h0, h1, rfl⟩)) h
  · rw [if_neg hcond] at h
    simp only [Option.some.injEq, Prod.mk.injEq] at h
    cases v with
    | false => exact interest_Plan.bad1 k a0 a1 a2 a3 a4 a5 A1 c1 l1 r1 r2 w hr hc hrT hv h.1.symm h.2.symm
    | true => exact interest_Plan.bad2 k a0 a1 a2 a3 a4 a5 A1 c1 l1 r1 r2 w hr hc hrT hv (fun hl => hcond ⟨rfl, hl⟩) h.1.symm h.2.symm

end Go.Proofs.YtogmeijmdbgmdaaDoor.PF
