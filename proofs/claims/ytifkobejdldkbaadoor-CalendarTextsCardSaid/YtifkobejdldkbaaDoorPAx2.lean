-- Laid by wip/myprint.py, a driver over the kit's print, for this claim: a lemma's text, not read by a person.
import Derived.Test.YtifkobejdldkbaaDoorPAx0
import Derived.Test.YtifkobejdldkbaaDoorPAx1
namespace Go.Proofs.YtifkobejdldkbaaDoor.PA
open Go.RowKit Go.Proofs.YtifkobejdldkbaaDoorW.PrintWords Go.Proofs.YtifkobejdldkbaaDoorW.PrintLast Go.Proofs.YtifkobejdldkbaaDoorW.PrintMore
attribute [local go_sem] max2_int min2_int max_two min_two max_three min_three max_four min_four   -- for this text's walks alone
set_option linter.unusedVariables false
set_option linter.unusedSimpArgs false

/-! ### arrearsref2_Number: function 22 -/
mutual
def arrearsref2_Number.j0 : Nat → Bool → Int → Int → Int → Option (Int × Bool)
  | 0, _, _, _, _ => none
  | k + 1, x20, x113000, x113001, x113002 => if x20 = true then (some (0, false)) else (arrearsref2_Number.l0 k (wrap64 ((wrap64 (Int.tdiv (wrap64 (x113000 - 1)) 400)) * 146097)) (wrap64 ((wrap64 (400 * (wrap64 (Int.tdiv (wrap64 (x113000 - 1)) 400)))) + 1)) x113000 x113001 x113002)
def arrearsref2_Number.l0 : Nat → Int → Int → Int → Int → Int → Option (Int × Bool)
  | 0, _, _, _, _, _ => none
  | k + 1, x5, x6, x113000, x113001, x113002 => if x6 < x113000 then ((arrearsref2_yearLen.f x6).bind fun t114 => (arrearsref2_Number.l0 k (wrap64 (x5 + t114)) (wrap64 (x6 + 1)) x113000 x113001 x113002)) else (arrearsref2_Number.l1 k x5 1 x113000 x113001 x113002)
def arrearsref2_Number.l1 : Nat → Int → Int → Int → Int → Int → Option (Int × Bool)
  | 0, _, _, _, _, _ => none
  | k + 1, x5, x7, x113000, x113001, x113002 => if x7 < x113001 then ((arrearsref2_lenOf.f x113000 x7).bind fun t115 => (arrearsref2_Number.l1 k (wrap64 (x5 + t115)) (wrap64 (x7 + 1)) x113000 x113001 x113002)) else (some (wrap64 (x5 + x113002), true))
end
def arrearsref2_Number.f (k : Nat) (a0_0 : Int) (a0_1 : Int) (a0_2 : Int) : Option (Int × Bool) := if a0_2 < 1 then (arrearsref2_Number.j0 k true a0_0 a0_1 a0_2) else ((arrearsref2_MonthLen.f a0_0 a0_1).bind fun t113 => (arrearsref2_Number.j0 k (decide (a0_2 > t113)) a0_0 a0_1 a0_2))
theorem arrearsref2_Number.mono_l : ∀ k, (∀ y0 y1 y2 y3, LeO (arrearsref2_Number.j0 k y0 y1 y2 y3) (arrearsref2_Number.j0 (k + 1) y0 y1 y2 y3)) ∧ (∀ y0 y1 y2 y3 y4, LeO (arrearsref2_Number.l0 k y0 y1 y2 y3 y4) (arrearsref2_Number.l0 (k + 1) y0 y1 y2 y3 y4)) ∧ (∀ y0 y1 y2 y3 y4, LeO (arrearsref2_Number.l1 k y0 y1 y2 y3 y4) (arrearsref2_Number.l1 (k + 1) y0 y1 y2 y3 y4))
  | 0 => ⟨fun _ _ _ _ r h => by simp [arrearsref2_Number.j0] at h, fun _ _ _ _ _ r h => by simp [arrearsref2_Number.l0] at h, fun _ _ _ _ _ r h => by simp [arrearsref2_Number.l1] at h⟩
  | k + 1 => by
    obtain ⟨ih0, ih1, ih2⟩ := arrearsref2_Number.mono_l k
    refine ⟨?_, ?_, ?_⟩
    · intro y0 y1 y2 y3
      unfold arrearsref2_Number.j0
      repeat' first
      | (with_reducible exact ih0 _ _ _ _)
      | (with_reducible exact ih1 _ _ _ _ _)
      | (with_reducible exact ih2 _ _ _ _ _)
      | (with_reducible exact LeO.refl _)
      | (with_reducible exact LeO.none _)
      | (with_reducible refine LeO.ite ?_ ?_)
      | (with_reducible refine LeO.bind ?_ (fun _ => ?_))
      | exact ih0 _ _ _ _
      | exact ih1 _ _ _ _ _
      | exact ih2 _ _ _ _ _
      | exact LeO.none _
      | refine LeO.ite ?_ ?_
      | refine LeO.bind ?_ (fun _ => ?_)
    · intro y0 y1 y2 y3 y4
      unfold arrearsref2_Number.l0
      repeat' first
      | (with_reducible exact ih0 _ _ _ _)
      | (with_reducible exact ih1 _ _ _ _ _)
      | (with_reducible exact ih2 _ _ _ _ _)
      | (with_reducible exact LeO.refl _)
      | (with_reducible exact LeO.none _)
      | (with_reducible refine LeO.ite ?_ ?_)
      | (with_reducible refine LeO.bind ?_ (fun _ => ?_))
      | exact ih0 _ _ _ _
      | exact ih1 _ _ _ _ _
      | exact ih2 _ _ _ _ _
      | exact LeO.none _
      | refine LeO.ite ?_ ?_
      | refine LeO.bind ?_ (fun _ => ?_)
    · intro y0 y1 y2 y3 y4
      unfold arrearsref2_Number.l1
      repeat' first
      | (with_reducible exact ih0 _ _ _ _)
      | (with_reducible exact ih1 _ _ _ _ _)
      | (with_reducible exact ih2 _ _ _ _ _)
      | (with_reducible exact LeO.refl _)
      | (with_reducible exact LeO.none _)
      | (with_reducible refine LeO.ite ?_ ?_)
      | (with_reducible refine LeO.bind ?_ (fun _ => ?_))
      | exact ih0 _ _ _ _
      | exact ih1 _ _ _ _ _
      | exact ih2 _ _ _ _ _
      | exact LeO.none _
      | refine LeO.ite ?_ ?_
      | refine LeO.bind ?_ (fun _ => ?_)
theorem arrearsref2_Number.mono : ∀ a0 a1 a2 k, LeO (arrearsref2_Number.f k a0 a1 a2) (arrearsref2_Number.f (k + 1) a0 a1 a2) := by
  intro a0 a1 a2 k
  obtain ⟨ih0, ih1, ih2⟩ := arrearsref2_Number.mono_l k
  unfold arrearsref2_Number.f
  repeat' first
      | (with_reducible exact ih0 _ _ _ _)
      | (with_reducible exact ih1 _ _ _ _ _)
      | (with_reducible exact ih2 _ _ _ _ _)
      | (with_reducible exact LeO.refl _)
      | (with_reducible exact LeO.none _)
      | (with_reducible refine LeO.ite ?_ ?_)
      | (with_reducible refine LeO.bind ?_ (fun _ => ?_))
      | exact ih0 _ _ _ _
      | exact ih1 _ _ _ _ _
      | exact ih2 _ _ _ _ _
      | exact LeO.none _
      | refine LeO.ite ?_ ?_
      | refine LeO.bind ?_ (fun _ => ?_)
set_option maxHeartbeats 8000000 in
set_option maxRecDepth 100000 in
theorem arrearsref2_Number.calls (k : Nat) (a0_0 : Int) (a0_1 : Int) (a0_2 : Int) (r1 : Int) (r2 : Bool) (w : World) (h : arrearsref2_Number.f k a0_0 a0_1 a0_2 = some (r1, r2)) :
    Calls Tryd.prog 22 #[.agg #[.int .i64 a0_0, .int .i64 a0_1, .int .i64 a0_2]] w fun e w' => e = .returned (.tuple #[.int .i64 r1, .bool r2]) ∧ Below w.heap.size w w' := by
  have hu27 := Tryd.underlying27
  have HB := Aside0.mk (Below.refl w.heap.size w)
  have H : (if a0_2 < 1 then (arrearsref2_Number.j0 k true a0_0 a0_1 a0_2) else ((arrearsref2_MonthLen.f a0_0 a0_1).bind fun t113 => (arrearsref2_Number.j0 k (decide (a0_2 > t113)) a0_0 a0_1 a0_2))) = some (r1, r2) := h
  clear h
  have HC2 := Aside0.mk H
  clear H
  go_enter Tryd.func22, Tryd.ntmps22
  go_upto_region 1 with (first | ((with_reducible refine gate_dst (N := 1) rfl ?_); refine box_event ?hg (N := 1) ?hd (cs := #[.int .i64 a0_0, .int .i64 a0_1, .int .i64 a0_2]) (t := 27) ?hr ?_; (case hd => rfl); (case hg => rfl); (case hr => first | (go_simp; done) | (go_simp; rfl)); intro gb112 hg w3 hbox hb; have n0_ := Aside0.mk (below_step (by repeat (first | (with_reducible first | exact HB.out | apply below_alloc | apply pw_below_drewN | apply below_drew1) | exact HB.out)) hb); have n1_ := Aside0.mk (hbox); have n2_ := Aside0.mk ((by rw [hg]; exact (below_size (by repeat (first | (with_reducible first | exact HB.out | apply below_alloc | apply pw_below_drewN | apply below_drew1) | exact HB.out))) : w.heap.size ≤ gb112)); have n3_ := Aside0.mk ((by rw [hg]; exact (below_size (by repeat (first | (with_reducible first | exact HB.out | apply below_alloc | apply pw_below_drewN | apply below_drew1) | exact HB.out))) : w.heap.size ≤ gb112)); clear HB; have HB := n0_; have BK112 := n1_; have GW112 := n2_; have GE112 := n3_; clear n0_ n1_ n2_ n3_; clear hb hbox hg))
  repeat (go_quiet (first | ((with_reducible refine gate_dst (N := 1) rfl ?_); refine box_event ?hg (N := 1) ?hd (cs := #[.int .i64 a0_0, .int .i64 a0_1, .int .i64 a0_2]) (t := 27) ?hr ?_; (case hd => rfl); (case hg => rfl); (case hr => first | (go_simp; done) | (go_simp; rfl)); intro gb112 hg w3 hbox hb; have n0_ := Aside0.mk (below_step (by repeat (first | (with_reducible first | exact HB.out | apply below_alloc | apply pw_below_drewN | apply below_drew1) | exact HB.out)) hb); have n1_ := Aside0.mk (hbox); have n2_ := Aside0.mk ((by rw [hg]; exact (below_size (by repeat (first | (with_reducible first | exact HB.out | apply below_alloc | apply pw_below_drewN | apply below_drew1) | exact HB.out))) : w.heap.size ≤ gb112)); have n3_ := Aside0.mk ((by rw [hg]; exact (below_size (by repeat (first | (with_reducible first | exact HB.out | apply below_alloc | apply pw_below_drewN | apply below_drew1) | exact HB.out))) : w.heap.size ≤ gb112)); clear HB; have HB := n0_; have BK112 := n1_; have GW112 := n2_; have GE112 := n3_; clear n0_ n1_ n2_ n3_; clear hb hbox hg)); go_upto_region 1 with (first | ((with_reducible refine gate_dst (N := 1) rfl ?_); refine box_event ?hg (N := 1) ?hd (cs := #[.int .i64 a0_0, .int .i64 a0_1, .int .i64 a0_2]) (t := 27) ?hr ?_; (case hd => rfl); (case hg => rfl); (case hr => first | (go_simp; done) | (go_simp; rfl)); intro gb112 hg w3 hbox hb; have n0_ := Aside0.mk (below_step (by repeat (first | (with_reducible first | exact HB.out | apply below_alloc | apply pw_below_drewN | apply below_drew1) | exact HB.out)) hb); have n1_ := Aside0.mk (hbox); have n2_ := Aside0.mk ((by rw [hg]; exact (below_size (by repeat (first | (with_reducible first | exact HB.out | apply below_alloc | apply pw_below_drewN | apply below_drew1) | exact HB.out))) : w.heap.size ≤ gb112)); have n3_ := Aside0.mk ((by rw [hg]; exact (below_size (by repeat (first | (with_reducible first | exact HB.out | apply below_alloc | apply pw_below_drewN | apply below_drew1) | exact HB.out))) : w.heap.size ≤ gb112)); clear HB; have HB := n0_; have BK112 := n1_; have GW112 := n2_; have GE112 := n3_; clear n0_ n1_ n2_ n3_; clear hb hbox hg)))
  (try simp only [Act.put, List.setIfInBounds_toArray, List.set_cons_zero, List.set_cons_succ])
  go_cut [20] (fun v20 wc => ∃ (kq : Nat) (x20_1 : Bool), v20 = .bool x20_1 ∧ Aside0 (arrearsref2_Number.j0 kq x20_1 a0_0 a0_1 a0_2 = some (r1, r2)) ∧ Aside0 (kq ≤ k) ∧ Aside0 (wc.heap[gb112]? = some (.cells #[.int .i64 a0_0, .int .i64 a0_1, .int .i64 a0_2] 27 (0, 0))) ∧ Aside0 (Below w.heap.size w wc))
  case first =>
    have H := HC2.out
    clear HC2
    by_cases c4 : a0_2 < 1
    · rw [if_pos c4] at H
      have c4b0 : decide (a0_2 < 1) = true := decide_eq_true c4
      clear c4
      (first | rw [c4b0] | (simp only [i64_w, i32_w]; rw [c4b0]) | skip)
      have H' := Aside0.mk H
      clear H
      have hcz5_0 : w3.cell? ⟨gb112, 0, none⟩ = some (.int .i64 a0_0) := (blk_cell BK112.out 0).trans rfl
      have hcz5_1 : w3.cell? ⟨gb112, 1, none⟩ = some (.int .i64 a0_1) := (blk_cell BK112.out 1).trans rfl
      have hcz5_2 : w3.cell? ⟨gb112, 2, none⟩ = some (.int .i64 a0_2) := (blk_cell BK112.out 2).trans rfl
      have hfz5_0 := blk_frozen BK112.out 0
      have hfz5_1 := blk_frozen BK112.out 1
      have hfz5_2 := blk_frozen BK112.out 2
      go_wp2
      repeat (go_quiet (fail); try go_wp2)
      go_meet
      case rel => exact ⟨_, (true), (by first | rfl | (simp; done) | (simp [*]; done)), H', ⟨by first | omega | exact Nat.le_refl _⟩, ⟨by (with_reducible repeat (first | refine blk_drewN ?_ _ | refine blk_drew ?_ | refine blk_alloc ?_ _)); exact BK112.out⟩, ⟨by repeat (first | (with_reducible first | exact HB.out | apply below_alloc | apply pw_below_drewN | apply below_drew1 | refine below_set ?_ GE112.out) | exact HB.out)⟩⟩
    · rw [if_neg c4] at H
      have c4b0 : decide (a0_2 < 1) = false := decide_eq_false c4
      clear c4
      (first | rw [c4b0] | (simp only [i64_w, i32_w]; rw [c4b0]) | skip)
      replace H := Option.bind_eq_some_iff.mp H
      obtain ⟨t113, A60, H⟩ := H
      replace H : (arrearsref2_Number.j0 k (decide (a0_2 > t113)) a0_0 a0_1 a0_2) = some (r1, r2) := H
      have A6 := Aside0.mk A60
      clear A60
      have H' := Aside0.mk H
      clear H
      have hcz7_0 : w3.cell? ⟨gb112, 0, none⟩ = some (.int .i64 a0_0) := (blk_cell BK112.out 0).trans rfl
      have hcz7_1 : w3.cell? ⟨gb112, 1, none⟩ = some (.int .i64 a0_1) := (blk_cell BK112.out 1).trans rfl
      have hcz7_2 : w3.cell? ⟨gb112, 2, none⟩ = some (.int .i64 a0_2) := (blk_cell BK112.out 2).trans rfl
      have hfz7_0 := blk_frozen BK112.out 0
      have hfz7_1 := blk_frozen BK112.out 1
      have hfz7_2 := blk_frozen BK112.out 2
      go_wp2_with (first | (go_at_call 20; (with_reducible refine (arrearsref2_MonthLen.calls a0_0 a0_1 t113 _ A6.out).mono ?_); rintro e w' ⟨rfl, ⟨nd, rfl⟩⟩; (try first | exact ⟨rfl, _, World.drewN_drewN _ _ _⟩ | exact ⟨rfl, _, Eq.trans (World.drewN_drewN _ _ _) (congrArg (World.drewN _) (Nat.add_assoc _ _ _))⟩)))
      repeat (go_quiet (first | (go_at_call 20; (with_reducible refine (arrearsref2_MonthLen.calls a0_0 a0_1 t113 _ A6.out).mono ?_); rintro e w' ⟨rfl, ⟨nd, rfl⟩⟩; (try first | exact ⟨rfl, _, World.drewN_drewN _ _ _⟩ | exact ⟨rfl, _, Eq.trans (World.drewN_drewN _ _ _) (congrArg (World.drewN _) (Nat.add_assoc _ _ _))⟩))); try go_wp2_with (first | (go_at_call 20; (with_reducible refine (arrearsref2_MonthLen.calls a0_0 a0_1 t113 _ A6.out).mono ?_); rintro e w' ⟨rfl, ⟨nd, rfl⟩⟩; (try first | exact ⟨rfl, _, World.drewN_drewN _ _ _⟩ | exact ⟨rfl, _, Eq.trans (World.drewN_drewN _ _ _) (congrArg (World.drewN _) (Nat.add_assoc _ _ _))⟩))))
      go_meet
      case rel => exact ⟨_, (decide (a0_2 > t113)), (by first | rfl | (simp; done) | (simp [*]; done)), H', ⟨by first | omega | exact Nat.le_refl _⟩, ⟨by (with_reducible repeat (first | refine blk_drewN ?_ _ | refine blk_drew ?_ | refine blk_alloc ?_ _)); exact BK112.out⟩, ⟨by repeat (first | (with_reducible first | exact HB.out | apply below_alloc | apply pw_below_drewN | apply below_drew1 | refine below_set ?_ GE112.out) | exact HB.out)⟩⟩
  case rest =>
    clear HC2
    try clear c2
    try clear p2
    try clear c4
    try clear c4b0
    try clear hcz5_0
    try clear hcz5_1
    try clear hcz5_2
    try clear hcz7_0
    try clear hcz7_1
    try clear hcz7_2
    try clear hfz5_0
    try clear hfz5_1
    try clear hfz5_2
    try clear hfz7_0
    try clear hfz7_1
    try clear hfz7_2
    obtain ⟨kq, x20_1, rfl, HA, HJ1, BK112, HB⟩ := hcut
    cases kq with
    | zero => exact absurd HA.out (by simp [arrearsref2_Number.j0])
    | succ kj1 =>
      have H := HA.out
      clear HA
      simp only [arrearsref2_Number.j0] at H
      by_cases c8 : x20_1 = true
      · subst c8
        have H1 : (some (0, false)) = some (r1, r2) := by rw [if_pos rfl] at H; exact H
        clear H
        have H := H1
        clear H1
        simp only [Option.some.injEq, Prod.mk.injEq] at H
        obtain ⟨rfl, rfl⟩ := H
        go_wp2
        repeat (go_quiet (fail); try go_wp2)
        go_ret2
        exact ⟨by first | rfl | (simp [errW_none, errW_some] <;> rfl) | (simp [*, errW_none, errW_some] <;> rfl), by repeat (first | (with_reducible first | exact HB.out | apply below_alloc | apply pw_below_drewN | apply below_drew1 | refine below_set ?_ GE112.out) | exact HB.out)⟩
      · replace c8 := Bool.eq_false_iff.mpr c8
        subst c8
        have H1 : (arrearsref2_Number.l0 kj1 (wrap64 ((wrap64 (Int.tdiv (wrap64 (a0_0 - 1)) 400)) * 146097)) (wrap64 ((wrap64 (400 * (wrap64 (Int.tdiv (wrap64 (a0_0 - 1)) 400)))) + 1)) a0_0 a0_1 a0_2) = some (r1, r2) := by rw [if_neg (show ¬ (false = true) by decide)] at H; exact H
        clear H
        have H := H1
        clear H1
        have H' := Aside0.mk H
        clear H
        have hcz9_0 : wc.cell? ⟨gb112, 0, none⟩ = some (.int .i64 a0_0) := (blk_cell BK112.out 0).trans rfl
        have hcz9_1 : wc.cell? ⟨gb112, 1, none⟩ = some (.int .i64 a0_1) := (blk_cell BK112.out 1).trans rfl
        have hcz9_2 : wc.cell? ⟨gb112, 2, none⟩ = some (.int .i64 a0_2) := (blk_cell BK112.out 2).trans rfl
        have hfz9_0 := blk_frozen BK112.out 0
        have hfz9_1 := blk_frozen BK112.out 1
        have hfz9_2 := blk_frozen BK112.out 2
        go_wp2
        repeat (go_quiet (fail); try go_wp2)
        go_loopg [5, 6] kj1 (fun kq v5 v6 w' => ∃ (x5_2 : Int) (x6_2 : Int), v5 = .int .i64 x5_2 ∧ v6 = .int .i64 x6_2 ∧ Aside0 (arrearsref2_Number.l0 kq x5_2 x6_2 a0_0 a0_1 a0_2 = some (r1, r2)) ∧ Aside0 (kq ≤ kj1) ∧ Aside0 (w'.heap[gb112]? = some (.cells #[.int .i64 a0_0, .int .i64 a0_1, .int .i64 a0_2] 27 (0, 0))) ∧ Aside0 (Below w.heap.size w w'))
        case atStart => exact ⟨(wrap64 ((wrap64 (Int.tdiv (wrap64 (a0_0 - 1)) 400)) * 146097)), (wrap64 ((wrap64 (400 * (wrap64 (Int.tdiv (wrap64 (a0_0 - 1)) 400)))) + 1)), (by first | rfl | (simp; done) | (simp [*]; done)), (by first | rfl | (simp; done) | (simp [*]; done)), H', ⟨Nat.le_refl _⟩, ⟨by (with_reducible repeat (first | refine blk_drewN ?_ _ | refine blk_drew ?_ | refine blk_alloc ?_ _)); exact BK112.out⟩, ⟨by repeat (first | (with_reducible first | exact HB.out | apply below_alloc | apply pw_below_drewN | apply below_drew1 | refine below_set ?_ GE112.out) | exact HB.out)⟩⟩
        case round =>
          clear H'
          try clear c2
          try clear p2
          try clear c4
          try clear c4b0
          try clear p6
          try clear c8
          try clear hcz5_0
          try clear hcz5_1
          try clear hcz5_2
          try clear hcz7_0
          try clear hcz7_1
          try clear hcz7_2
          try clear hcz9_0
          try clear hcz9_1
          try clear hcz9_2
          try clear hfz5_0
          try clear hfz5_1
          try clear hfz5_2
          try clear hfz7_0
          try clear hfz7_1
          try clear hfz7_2
          try clear hfz9_0
          try clear hfz9_1
          try clear hfz9_2
          try clear p2
          obtain ⟨x5_2, x6_2, rfl, rfl, HA, HK2, BK112, HB⟩ := hrel
          cases gk with
          | zero => exact absurd HA.out (by simp [arrearsref2_Number.l0])
          | succ k2 =>
            have H := HA.out
            clear HA
            simp only [arrearsref2_Number.l0] at H
            by_cases c10 : x6_2 < a0_0
            · rw [if_pos c10] at H
              have c10b0 : decide (x6_2 < a0_0) = true := decide_eq_true c10
              clear c10
              replace H := Option.bind_eq_some_iff.mp H
              obtain ⟨t114, A110, H⟩ := H
              replace H : (arrearsref2_Number.l0 k2 (wrap64 (x5_2 + t114)) (wrap64 (x6_2 + 1)) a0_0 a0_1 a0_2) = some (r1, r2) := H
              have A11 := Aside0.mk A110
              clear A110
              have H' := Aside0.mk H
              clear H
              have hcz12_0 : wr.cell? ⟨gb112, 0, none⟩ = some (.int .i64 a0_0) := (blk_cell BK112.out 0).trans rfl
              have hcz12_1 : wr.cell? ⟨gb112, 1, none⟩ = some (.int .i64 a0_1) := (blk_cell BK112.out 1).trans rfl
              have hcz12_2 : wr.cell? ⟨gb112, 2, none⟩ = some (.int .i64 a0_2) := (blk_cell BK112.out 2).trans rfl
              have hfz12_0 := blk_frozen BK112.out 0
              have hfz12_1 := blk_frozen BK112.out 1
              have hfz12_2 := blk_frozen BK112.out 2
              go_wp2_with (first | (go_at_call 49; (with_reducible refine (arrearsref2_yearLen.calls x6_2 t114 _ A11.out).mono ?_); rintro e w' ⟨rfl, ⟨nd, rfl⟩⟩; (try first | exact ⟨rfl, _, World.drewN_drewN _ _ _⟩ | exact ⟨rfl, _, Eq.trans (World.drewN_drewN _ _ _) (congrArg (World.drewN _) (Nat.add_assoc _ _ _))⟩)))
              repeat (go_quiet (first | (go_at_call 49; (with_reducible refine (arrearsref2_yearLen.calls x6_2 t114 _ A11.out).mono ?_); rintro e w' ⟨rfl, ⟨nd, rfl⟩⟩; (try first | exact ⟨rfl, _, World.drewN_drewN _ _ _⟩ | exact ⟨rfl, _, Eq.trans (World.drewN_drewN _ _ _) (congrArg (World.drewN _) (Nat.add_assoc _ _ _))⟩))); try go_wp2_with (first | (go_at_call 49; (with_reducible refine (arrearsref2_yearLen.calls x6_2 t114 _ A11.out).mono ?_); rintro e w' ⟨rfl, ⟨nd, rfl⟩⟩; (try first | exact ⟨rfl, _, World.drewN_drewN _ _ _⟩ | exact ⟨rfl, _, Eq.trans (World.drewN_drewN _ _ _) (congrArg (World.drewN _) (Nat.add_assoc _ _ _))⟩))))
              go_roundg k2
              case measure => have := HJ1.out; have := HK2.out; omega
              case rel => exact ⟨(wrap64 (x5_2 + t114)), (wrap64 (x6_2 + 1)), (by first | rfl | (simp; done) | (simp [*]; done)), (by first | rfl | (simp; done) | (simp [*]; done)), H', ⟨by have := HJ1.out; have := HK2.out; omega⟩, ⟨by (with_reducible repeat (first | refine blk_drewN ?_ _ | refine blk_drew ?_ | refine blk_alloc ?_ _)); exact BK112.out⟩, ⟨by repeat (first | (with_reducible first | exact HB.out | apply below_alloc | apply pw_below_drewN | apply below_drew1 | refine below_set ?_ GE112.out) | exact HB.out)⟩⟩
            · rw [if_neg c10] at H
              have c10b0 : decide (x6_2 < a0_0) = false := decide_eq_false c10
              clear c10
              have H' := Aside0.mk H
              clear H
              have hcz13_0 : wr.cell? ⟨gb112, 0, none⟩ = some (.int .i64 a0_0) := (blk_cell BK112.out 0).trans rfl
              have hcz13_1 : wr.cell? ⟨gb112, 1, none⟩ = some (.int .i64 a0_1) := (blk_cell BK112.out 1).trans rfl
              have hcz13_2 : wr.cell? ⟨gb112, 2, none⟩ = some (.int .i64 a0_2) := (blk_cell BK112.out 2).trans rfl
              have hfz13_0 := blk_frozen BK112.out 0
              have hfz13_1 := blk_frozen BK112.out 1
              have hfz13_2 := blk_frozen BK112.out 2
              go_wp2
              repeat (go_quiet (fail); try go_wp2)
              go_loopg [5, 7] k2 (fun kq v5 v7 w' => ∃ (x5_3 : Int) (x7_3 : Int), v5 = .int .i64 x5_3 ∧ v7 = .int .i64 x7_3 ∧ Aside0 (arrearsref2_Number.l1 kq x5_3 x7_3 a0_0 a0_1 a0_2 = some (r1, r2)) ∧ Aside0 (kq ≤ k2) ∧ Aside0 (w'.heap[gb112]? = some (.cells #[.int .i64 a0_0, .int .i64 a0_1, .int .i64 a0_2] 27 (0, 0))) ∧ Aside0 (Below w.heap.size w w'))
              case atStart => exact ⟨(x5_2), (1), (by first | rfl | (simp; done) | (simp [*]; done)), (by first | rfl | (simp; done) | (simp [*]; done)), H', ⟨Nat.le_refl _⟩, ⟨by (with_reducible repeat (first | refine blk_drewN ?_ _ | refine blk_drew ?_ | refine blk_alloc ?_ _)); exact BK112.out⟩, ⟨by repeat (first | (with_reducible first | exact HB.out | apply below_alloc | apply pw_below_drewN | apply below_drew1 | refine below_set ?_ GE112.out) | exact HB.out)⟩⟩
              case round =>
                clear H'
                try clear c1
                try clear c2
                try clear p2
                try clear c4
                try clear c4b0
                try clear p6
                try clear c8
                try clear c10
                try clear c10b0
                try clear hcz12_0
                try clear hcz12_1
                try clear hcz12_2
                try clear hcz13_0
                try clear hcz13_1
                try clear hcz13_2
                try clear hcz5_0
                try clear hcz5_1
                try clear hcz5_2
                try clear hcz7_0
                try clear hcz7_1
                try clear hcz7_2
                try clear hcz9_0
                try clear hcz9_1
                try clear hcz9_2
                try clear hfz12_0
                try clear hfz12_1
                try clear hfz12_2
                try clear hfz13_0
                try clear hfz13_1
                try clear hfz13_2
                try clear hfz5_0
                try clear hfz5_1
                try clear hfz5_2
                try clear hfz7_0
                try clear hfz7_1
                try clear hfz7_2
                try clear hfz9_0
                try clear hfz9_1
                try clear hfz9_2
                try clear p2
                try clear p6
                obtain ⟨x5_3, x7_3, rfl, rfl, HA, HK3, BK112, HB⟩ := hrel
                cases gk with
                | zero => exact absurd HA.out (by simp [arrearsref2_Number.l1])
                | succ k3 =>
                  have H := HA.out
                  clear HA
                  simp only [arrearsref2_Number.l1] at H
                  by_cases c14 : x7_3 < a0_1
                  · rw [if_pos c14] at H
                    have c14b0 : decide (x7_3 < a0_1) = true := decide_eq_true c14
                    clear c14
                    replace H := Option.bind_eq_some_iff.mp H
                    obtain ⟨t115, A150, H⟩ := H
                    replace H : (arrearsref2_Number.l1 k3 (wrap64 (x5_3 + t115)) (wrap64 (x7_3 + 1)) a0_0 a0_1 a0_2) = some (r1, r2) := H
                    have A15 := Aside0.mk A150
                    clear A150
                    have H' := Aside0.mk H
                    clear H
                    have hcz16_0 : wr.cell? ⟨gb112, 0, none⟩ = some (.int .i64 a0_0) := (blk_cell BK112.out 0).trans rfl
                    have hcz16_1 : wr.cell? ⟨gb112, 1, none⟩ = some (.int .i64 a0_1) := (blk_cell BK112.out 1).trans rfl
                    have hcz16_2 : wr.cell? ⟨gb112, 2, none⟩ = some (.int .i64 a0_2) := (blk_cell BK112.out 2).trans rfl
                    have hfz16_0 := blk_frozen BK112.out 0
                    have hfz16_1 := blk_frozen BK112.out 1
                    have hfz16_2 := blk_frozen BK112.out 2
                    go_wp2_with (first | (go_at_call 48; (with_reducible refine (arrearsref2_lenOf.calls a0_0 x7_3 t115 _ A15.out).mono ?_); rintro e w' ⟨rfl, ⟨nd, rfl⟩⟩; (try first | exact ⟨rfl, _, World.drewN_drewN _ _ _⟩ | exact ⟨rfl, _, Eq.trans (World.drewN_drewN _ _ _) (congrArg (World.drewN _) (Nat.add_assoc _ _ _))⟩)))
                    repeat (go_quiet (first | (go_at_call 48; (with_reducible refine (arrearsref2_lenOf.calls a0_0 x7_3 t115 _ A15.out).mono ?_); rintro e w' ⟨rfl, ⟨nd, rfl⟩⟩; (try first | exact ⟨rfl, _, World.drewN_drewN _ _ _⟩ | exact ⟨rfl, _, Eq.trans (World.drewN_drewN _ _ _) (congrArg (World.drewN _) (Nat.add_assoc _ _ _))⟩))); try go_wp2_with (first | (go_at_call 48; (with_reducible refine (arrearsref2_lenOf.calls a0_0 x7_3 t115 _ A15.out).mono ?_); rintro e w' ⟨rfl, ⟨nd, rfl⟩⟩; (try first | exact ⟨rfl, _, World.drewN_drewN _ _ _⟩ | exact ⟨rfl, _, Eq.trans (World.drewN_drewN _ _ _) (congrArg (World.drewN _) (Nat.add_assoc _ _ _))⟩))))
                    go_roundg k3
                    case measure => have := HJ1.out; have := HK2.out; have := HK3.out; omega
                    case rel => exact ⟨(wrap64 (x5_3 + t115)), (wrap64 (x7_3 + 1)), (by first | rfl | (simp; done) | (simp [*]; done)), (by first | rfl | (simp; done) | (simp [*]; done)), H', ⟨by have := HJ1.out; have := HK2.out; have := HK3.out; omega⟩, ⟨by (with_reducible repeat (first | refine blk_drewN ?_ _ | refine blk_drew ?_ | refine blk_alloc ?_ _)); exact BK112.out⟩, ⟨by repeat (first | (with_reducible first | exact HB.out | apply below_alloc | apply pw_below_drewN | apply below_drew1 | refine below_set ?_ GE112.out) | exact HB.out)⟩⟩
                  · rw [if_neg c14] at H
                    have c14b0 : decide (x7_3 < a0_1) = false := decide_eq_false c14
                    clear c14
                    simp only [Option.some.injEq, Prod.mk.injEq] at H
                    obtain ⟨rfl, rfl⟩ := H
                    have hcz17_0 : wr.cell? ⟨gb112, 0, none⟩ = some (.int .i64 a0_0) := (blk_cell BK112.out 0).trans rfl
                    have hcz17_1 : wr.cell? ⟨gb112, 1, none⟩ = some (.int .i64 a0_1) := (blk_cell BK112.out 1).trans rfl
                    have hcz17_2 : wr.cell? ⟨gb112, 2, none⟩ = some (.int .i64 a0_2) := (blk_cell BK112.out 2).trans rfl
                    have hfz17_0 := blk_frozen BK112.out 0
                    have hfz17_1 := blk_frozen BK112.out 1
                    have hfz17_2 := blk_frozen BK112.out 2
                    go_wp2
                    repeat (go_quiet (fail); try go_wp2)
                    go_ret2
                    exact ⟨by first | rfl | (simp [errW_none, errW_some] <;> rfl) | (simp [*, errW_none, errW_some] <;> rfl), by repeat (first | (with_reducible first | exact HB.out | apply below_alloc | apply pw_below_drewN | apply below_drew1 | refine below_set ?_ GE112.out) | exact HB.out)⟩

/-! ### arrearslaw2_CalendarDates: function 3 -/
def arrearslaw2_CalendarDates.j0 : Nat → Int → Int → Int → Bool → Option (Bool)
  | 0, _, _, _, _ => none
  | k + 1, x0, x1, x2, x24 => if x24 = true then (some false) else ((calendar_Number.f k x0 x1 x2).bind fun bt120 => ((arrearsref2_Number.f k x0 x1 x2).bind fun bt122 => (if bt120.1 = bt122.1 then (some (bt120.2 == bt122.2)) else (some false))))
def arrearslaw2_CalendarDates.f (k : Nat) (a0 : Int) (a1 : Int) (a2 : Int) : Option (Bool) := (calendar_Leap.f a0).bind fun t116 => ((arrearsref2_Leap.f a0).bind fun t117 => (if (t116 != t117) = true then (arrearslaw2_CalendarDates.j0 k a0 a1 a2 true) else ((calendar_MonthLen.f k a0 a1).bind fun t118 => ((arrearsref2_MonthLen.f a0 a1).bind fun t119 => (arrearslaw2_CalendarDates.j0 k a0 a1 a2 (t118 != t119))))))
theorem arrearslaw2_CalendarDates.mono_l : ∀ k, (∀ y0 y1 y2 y3, LeO (arrearslaw2_CalendarDates.j0 k y0 y1 y2 y3) (arrearslaw2_CalendarDates.j0 (k + 1) y0 y1 y2 y3))
  | 0 => fun _ _ _ _ r h => by simp [arrearslaw2_CalendarDates.j0] at h
  | k + 1 => by
    have ih0 := arrearslaw2_CalendarDates.mono_l k
    · intro y0 y1 y2 y3
      unfold arrearslaw2_CalendarDates.j0
      repeat' first
      | (with_reducible exact ih0 _ _ _ _)
      | (with_reducible exact arrearsref2_Number.mono _ _ _ _)
      | (with_reducible exact calendar_MonthLen.mono _ _ _)
      | (with_reducible exact calendar_Number.mono _ _ _ _)
      | (with_reducible exact LeO.refl _)
      | (with_reducible exact LeO.none _)
      | (with_reducible refine LeO.ite ?_ ?_)
      | (with_reducible refine LeO.bind ?_ (fun _ => ?_))
      | exact ih0 _ _ _ _
      | exact arrearsref2_Number.mono _ _ _ _
      | exact calendar_MonthLen.mono _ _ _
      | exact calendar_Number.mono _ _ _ _
      | exact LeO.none _
      | refine LeO.ite ?_ ?_
      | refine LeO.bind ?_ (fun _ => ?_)
theorem arrearslaw2_CalendarDates.mono : ∀ a0 a1 a2 k, LeO (arrearslaw2_CalendarDates.f k a0 a1 a2) (arrearslaw2_CalendarDates.f (k + 1) a0 a1 a2) := by
  intro a0 a1 a2 k
  have ih0 := arrearslaw2_CalendarDates.mono_l k
  unfold arrearslaw2_CalendarDates.f
  repeat' first
      | (with_reducible exact ih0 _ _ _ _)
      | (with_reducible exact arrearsref2_Number.mono _ _ _ _)
      | (with_reducible exact calendar_MonthLen.mono _ _ _)
      | (with_reducible exact calendar_Number.mono _ _ _ _)
      | (with_reducible exact LeO.refl _)
      | (with_reducible exact LeO.none _)
      | (with_reducible refine LeO.ite ?_ ?_)
      | (with_reducible refine LeO.bind ?_ (fun _ => ?_))
      | exact ih0 _ _ _ _
      | exact arrearsref2_Number.mono _ _ _ _
      | exact calendar_MonthLen.mono _ _ _
      | exact calendar_Number.mono _ _ _ _
      | exact LeO.none _
      | refine LeO.ite ?_ ?_
      | refine LeO.bind ?_ (fun _ => ?_)
set_option maxHeartbeats 8000000 in
set_option maxRecDepth 100000 in
theorem arrearslaw2_CalendarDates.calls (k : Nat) (a0 : Int) (a1 : Int) (a2 : Int) (r : Bool) (w : World) (hrT : AheadAt w) (h : arrearslaw2_CalendarDates.f k a0 a1 a2 = some r) :
    Calls Tryd.prog 3 #[.int .i64 a0, .int .i64 a1, .int .i64 a2] w fun e w' => e = .returned (.bool r) ∧ Below w.heap.size w w' := by
  have hu27 := Tryd.underlying27
  have HRT := Aside0.mk hrT
  clear hrT
  have HB := Aside0.mk (Below.refl w.heap.size w)
  have H : ((calendar_Leap.f a0).bind fun t116 => ((arrearsref2_Leap.f a0).bind fun t117 => (if (t116 != t117) = true then (arrearslaw2_CalendarDates.j0 k a0 a1 a2 true) else ((calendar_MonthLen.f k a0 a1).bind fun t118 => ((arrearsref2_MonthLen.f a0 a1).bind fun t119 => (arrearslaw2_CalendarDates.j0 k a0 a1 a2 (t118 != t119))))))) = some r := h
  clear h
  have HC4 := Aside0.mk H
  clear H
  go_enter Tryd.func3, Tryd.ntmps3
  go_upto_region 1 with (fail)
  go_cut [24] (fun v24 wc => ∃ (kq : Nat) (x24_3 : Bool), v24 = .bool x24_3 ∧ Aside0 (arrearslaw2_CalendarDates.j0 kq a0 a1 a2 x24_3 = some r) ∧ Aside0 (kq ≤ k) ∧ Aside0 (Below w.heap.size w wc))
  case first =>
    have H := HC4.out
    clear HC4
    replace H := Option.bind_eq_some_iff.mp H
    obtain ⟨t116, A50, H⟩ := H
    replace H : ((arrearsref2_Leap.f a0).bind fun t117 => (if (t116 != t117) = true then (arrearslaw2_CalendarDates.j0 k a0 a1 a2 true) else ((calendar_MonthLen.f k a0 a1).bind fun t118 => ((arrearsref2_MonthLen.f a0 a1).bind fun t119 => (arrearslaw2_CalendarDates.j0 k a0 a1 a2 (t118 != t119)))))) = some r := H
    have A5 := Aside0.mk A50
    clear A50
    replace H := Option.bind_eq_some_iff.mp H
    obtain ⟨t117, A60, H⟩ := H
    replace H : (if (t116 != t117) = true then (arrearslaw2_CalendarDates.j0 k a0 a1 a2 true) else ((calendar_MonthLen.f k a0 a1).bind fun t118 => ((arrearsref2_MonthLen.f a0 a1).bind fun t119 => (arrearslaw2_CalendarDates.j0 k a0 a1 a2 (t118 != t119))))) = some r := H
    have A6 := Aside0.mk A60
    clear A60
    by_cases c7 : (t116 != t117) = true
    · rw [if_pos c7] at H
      have c7b0 : (t116 != t117) = true := c7
      (try (have c7b1 : decide (t116 = t117) = false := by simpa using c7))
      (try (have c7b2 : (t116 == t117) = false := by simpa using c7))
      (try (have c7b3 : ¬ (t116 = t117) := by simpa using c7))
      clear c7
      (first | rw [c7b0] | (simp only [i64_w, i32_w]; rw [c7b0]) | skip)
      have H' := Aside0.mk H
      clear H
      go_wp2_with (first | ((with_reducible refine gate_callee (f := 17) rfl ?_); refine goesL_ (some 12) rfl rfl Tryd.func17 (by kernel_rfl) rfl #[.int .i64 a0] rfl (by (try simp only [List.map_toArray, List.map_cons, List.map_nil]); first | done | rfl | (simp only [List.length_drop, List.length_take]; rfl)) ?_; (with_reducible refine (calendar_Leap.calls a0 t116 _ A5.out).mono ?_); rintro e w' ⟨rfl, ⟨nd, rfl⟩⟩; refine ⟨_, rfl, ?_⟩) | ((with_reducible refine gate_callee (f := 18) rfl ?_); refine goesL_ (some 14) rfl rfl Tryd.func18 (by kernel_rfl) rfl #[.int .i64 a0] rfl (by (try simp only [List.map_toArray, List.map_cons, List.map_nil]); first | done | rfl | (simp only [List.length_drop, List.length_take]; rfl)) ?_; (with_reducible refine (arrearsref2_Leap.calls a0 t117 _ A6.out).mono ?_); rintro e w' ⟨rfl, ⟨nd, rfl⟩⟩; refine ⟨_, rfl, ?_⟩))
      go_meet
      case rel => exact ⟨_, (true), (by first | rfl | (simp; done) | (simp [*]; done)), H', ⟨by first | omega | exact Nat.le_refl _⟩, ⟨by repeat (first | (with_reducible first | exact HB.out | apply below_alloc | apply pw_below_drewN | apply below_drew1) | exact HB.out)⟩⟩
    · rw [if_neg c7] at H
      have c7b0 : (t116 != t117) = false := by simpa using c7
      (try (have c7b1 : decide (t116 = t117) = true := by simpa using c7))
      (try (have c7b2 : (t116 == t117) = true := by simpa using c7))
      clear c7
      (first | rw [c7b0] | (simp only [i64_w, i32_w]; rw [c7b0]) | skip)
      replace H := Option.bind_eq_some_iff.mp H
      obtain ⟨t118, A80, H⟩ := H
      replace H : ((arrearsref2_MonthLen.f a0 a1).bind fun t119 => (arrearslaw2_CalendarDates.j0 k a0 a1 a2 (t118 != t119))) = some r := H
      have A8 := Aside0.mk A80
      clear A80
      replace H := Option.bind_eq_some_iff.mp H
      obtain ⟨t119, A90, H⟩ := H
      replace H : (arrearslaw2_CalendarDates.j0 k a0 a1 a2 (t118 != t119)) = some r := H
      have A9 := Aside0.mk A90
      clear A90
      have H' := Aside0.mk H
      clear H
      go_wp2_with (first | ((with_reducible refine gate_callee (f := 17) rfl ?_); refine goesL_ (some 12) rfl rfl Tryd.func17 (by kernel_rfl) rfl #[.int .i64 a0] rfl (by (try simp only [List.map_toArray, List.map_cons, List.map_nil]); first | done | rfl | (simp only [List.length_drop, List.length_take]; rfl)) ?_; (with_reducible refine (calendar_Leap.calls a0 t116 _ A5.out).mono ?_); rintro e w' ⟨rfl, ⟨nd, rfl⟩⟩; refine ⟨_, rfl, ?_⟩) | ((with_reducible refine gate_callee (f := 18) rfl ?_); refine goesL_ (some 14) rfl rfl Tryd.func18 (by kernel_rfl) rfl #[.int .i64 a0] rfl (by (try simp only [List.map_toArray, List.map_cons, List.map_nil]); first | done | rfl | (simp only [List.length_drop, List.length_take]; rfl)) ?_; (with_reducible refine (arrearsref2_Leap.calls a0 t117 _ A6.out).mono ?_); rintro e w' ⟨rfl, ⟨nd, rfl⟩⟩; refine ⟨_, rfl, ?_⟩) | (go_at_call 19; (with_reducible refine (calendar_MonthLen.calls k a0 a1 t118 _ ?side1 A8.out).mono ?_); (case side1 => repeat (first | exact (Kd.C_below HRT.out (by repeat (first | (with_reducible first | exact HB.out | apply below_alloc | apply pw_below_drewN | apply below_drew1) | exact HB.out))) | (with_reducible refine Kd.C_alloc ?_ _) | (with_reducible refine Kd.C_drewN ?_ _) | (with_reducible refine Kd.C_drew ?_))); rintro e w' ⟨rfl, ⟨nd, rfl⟩⟩) | (go_at_call 20; (with_reducible refine (arrearsref2_MonthLen.calls a0 a1 t119 _ A9.out).mono ?_); rintro e w' ⟨rfl, ⟨nd, rfl⟩⟩))
      go_meet
      case rel => exact ⟨_, ((t118 != t119)), (by first | rfl | (simp; done) | (simp [*]; done)), H', ⟨by first | omega | exact Nat.le_refl _⟩, ⟨by repeat (first | (with_reducible first | exact HB.out | apply below_alloc | apply pw_below_drewN | apply below_drew1) | exact HB.out)⟩⟩
  case rest =>
    clear HC4
    try clear c1
    try clear p2
    try clear c3
    try clear c7
    try clear c7b0
    try clear c7b1
    try clear c7b2
    obtain ⟨kq, x24_3, rfl, HA, HJ3, HB⟩ := hcut
    cases kq with
    | zero => exact absurd HA.out (by simp [arrearslaw2_CalendarDates.j0])
    | succ kj3 =>
      have H := HA.out
      clear HA
      simp only [arrearslaw2_CalendarDates.j0] at H
      by_cases c10 : x24_3 = true
      · subst c10
        have H1 : (some false) = some r := by rw [if_pos rfl] at H; exact H
        clear H
        have H := H1
        clear H1
        obtain rfl := Option.some.inj H
        go_wp2
        go_ret
        exact ⟨by first | rfl | (simp [errW_none, errW_some] <;> rfl) | (simp [*, errW_none, errW_some] <;> rfl), by repeat (first | (with_reducible first | exact HB.out | apply below_alloc | apply pw_below_drewN | apply below_drew1) | exact HB.out)⟩
      · replace c10 := Bool.eq_false_iff.mpr c10
        subst c10
        have H1 : ((calendar_Number.f kj3 a0 a1 a2).bind fun bt120 => ((arrearsref2_Number.f kj3 a0 a1 a2).bind fun bt122 => (if bt120.1 = bt122.1 then (some (bt120.2 == bt122.2)) else (some false)))) = some r := by rw [if_neg (show ¬ (false = true) by decide)] at H; exact H
        clear H
        have H := H1
        clear H1
        replace H := Option.bind_eq_some_iff.mp H
        obtain ⟨⟨t120, t121⟩, A110, H⟩ := H
        replace H : ((arrearsref2_Number.f kj3 a0 a1 a2).bind fun bt122 => (if t120 = bt122.1 then (some (t121 == bt122.2)) else (some false))) = some r := H
        have A11 := Aside0.mk A110
        clear A110
        replace H := Option.bind_eq_some_iff.mp H
        obtain ⟨⟨t122, t123⟩, A120, H⟩ := H
        replace H : (if t120 = t122 then (some (t121 == t123)) else (some false)) = some r := H
        have A12 := Aside0.mk A120
        clear A120
        by_cases c13 : t120 = t122
        · rw [if_pos c13] at H
          have c13b0 : (t120 == t122) = true := beq_iff_eq.mpr c13
          have c13b1 : (t120 != t122) = false := bne_eq_false_iff_eq.mpr c13
          clear c13
          obtain rfl := Option.some.inj H
          go_wp2_with (first | ((with_reducible refine gate_callee (f := 21) rfl ?_); refine goesL_ (some 30) rfl rfl Tryd.func21 (by kernel_rfl) rfl #[.agg #[.int .i64 a0, .int .i64 a1, .int .i64 a2]] rfl (by (try simp only [List.map_toArray, List.map_cons, List.map_nil]); first | done | rfl | (simp only [List.length_drop, List.length_take]; rfl)) ?_; (with_reducible refine (calendar_Number.calls kj3 a0 a1 a2 t120 t121 _ ?side1 A11.out).mono ?_); (case side1 => repeat (first | exact (Kd.C_below HRT.out HB.out) | (with_reducible refine Kd.C_alloc ?_ _) | (with_reducible refine Kd.C_drewN ?_ _) | (with_reducible refine Kd.C_drew ?_))); rintro e w14 ⟨rfl, hb⟩; refine ⟨_, rfl, ?_⟩; have n0_ := Aside0.mk (below_step (by repeat (first | (with_reducible first | exact HB.out | apply below_alloc | apply pw_below_drewN | apply below_drew1) | exact HB.out)) hb); clear HB; have HB := n0_; clear n0_; (try clear hb); (try clear hb2); (try clear hk); (try clear hi)) | ((with_reducible refine gate_callee (f := 22) rfl ?_); refine goesL_ (some 38) rfl rfl Tryd.func22 (by kernel_rfl) rfl #[.agg #[.int .i64 a0, .int .i64 a1, .int .i64 a2]] rfl (by (try simp only [List.map_toArray, List.map_cons, List.map_nil]); first | done | rfl | (simp only [List.length_drop, List.length_take]; rfl)) ?_; (with_reducible refine (arrearsref2_Number.calls kj3 a0 a1 a2 t122 t123 _ A12.out).mono ?_); rintro e w15 ⟨rfl, hb⟩; refine ⟨_, rfl, ?_⟩; have n0_ := Aside0.mk (below_step (by repeat (first | (with_reducible first | exact HB.out | apply below_alloc | apply pw_below_drewN | apply below_drew1) | exact HB.out)) hb); clear HB; have HB := n0_; clear n0_; (try clear hb); (try clear hb2); (try clear hk); (try clear hi)))
          go_ret
          exact ⟨by first | rfl | (simp [errW_none, errW_some] <;> rfl) | (simp [*, errW_none, errW_some] <;> rfl), by repeat (first | (with_reducible first | exact HB.out | apply below_alloc | apply pw_below_drewN | apply below_drew1) | exact HB.out)⟩
        · rw [if_neg c13] at H
          have c13b0 : (t120 == t122) = false := beq_eq_false_iff_ne.mpr c13
          have c13b1 : (t120 != t122) = true := bne_iff_ne.mpr c13
          obtain rfl := Option.some.inj H
          go_wp2_with (first | ((with_reducible refine gate_callee (f := 21) rfl ?_); refine goesL_ (some 30) rfl rfl Tryd.func21 (by kernel_rfl) rfl #[.agg #[.int .i64 a0, .int .i64 a1, .int .i64 a2]] rfl (by (try simp only [List.map_toArray, List.map_cons, List.map_nil]); first | done | rfl | (simp only [List.length_drop, List.length_take]; rfl)) ?_; (with_reducible refine (calendar_Number.calls kj3 a0 a1 a2 t120 t121 _ ?side1 A11.out).mono ?_); (case side1 => repeat (first | exact (Kd.C_below HRT.out HB.out) | (with_reducible refine Kd.C_alloc ?_ _) | (with_reducible refine Kd.C_drewN ?_ _) | (with_reducible refine Kd.C_drew ?_))); rintro e w16 ⟨rfl, hb⟩; refine ⟨_, rfl, ?_⟩; have n0_ := Aside0.mk (below_step (by repeat (first | (with_reducible first | exact HB.out | apply below_alloc | apply pw_below_drewN | apply below_drew1) | exact HB.out)) hb); clear HB; have HB := n0_; clear n0_; (try clear hb); (try clear hb2); (try clear hk); (try clear hi)) | ((with_reducible refine gate_callee (f := 22) rfl ?_); refine goesL_ (some 38) rfl rfl Tryd.func22 (by kernel_rfl) rfl #[.agg #[.int .i64 a0, .int .i64 a1, .int .i64 a2]] rfl (by (try simp only [List.map_toArray, List.map_cons, List.map_nil]); first | done | rfl | (simp only [List.length_drop, List.length_take]; rfl)) ?_; (with_reducible refine (arrearsref2_Number.calls kj3 a0 a1 a2 t122 t123 _ A12.out).mono ?_); rintro e w17 ⟨rfl, hb⟩; refine ⟨_, rfl, ?_⟩; have n0_ := Aside0.mk (below_step (by repeat (first | (with_reducible first | exact HB.out | apply below_alloc | apply pw_below_drewN | apply below_drew1) | exact HB.out)) hb); clear HB; have HB := n0_; clear n0_; (try clear hb); (try clear hb2); (try clear hk); (try clear hi)))
          go_ret
          exact ⟨by first | rfl | (simp [errW_none, errW_some] <;> rfl) | (simp [*, errW_none, errW_some] <;> rfl), by repeat (first | (with_reducible first | exact HB.out | apply below_alloc | apply pw_below_drewN | apply below_drew1) | exact HB.out)⟩

/-- THE ONE PURE STATEMENT of arrearslaw2_CalendarDates: yours. -/
def arrearslaw2_CalendarDates.Pure : Prop := ∀ (a0 : Int) (a1 : Int) (a2 : Int), (Lit.int .i64 a0).wf = true → (Lit.int .i64 a1).wf = true → (Lit.int .i64 a2).wf = true → ∃ k, arrearslaw2_CalendarDates.f k a0 a1 a2 = some true
theorem arrearslaw2_CalendarDates.walk (P : arrearslaw2_CalendarDates.Pure) (a0 : Int) (a1 : Int) (a2 : Int) (w : World) (w0 : (Lit.int .i64 a0).wf = true) (w1 : (Lit.int .i64 a1).wf = true) (w2 : (Lit.int .i64 a2).wf = true) (hrT : AheadAt w) :
    Calls Tryd.prog 3 #[.int .i64 a0, .int .i64 a1, .int .i64 a2] w fun e w' => e = .returned (.bool true) ∧ Below w.heap.size w w' := by
  obtain ⟨k, h⟩ := P a0 a1 a2 w0 w1 w2
  refine (arrearslaw2_CalendarDates.calls k a0 a1 a2 true w hrT h).mono ?_
  rintro e w' ⟨rfl, hd⟩
  exact ⟨rfl, hd⟩

/-! ### calendar_start: function 50 -/
def calendar_start.f (a0 : Int) (a1 : Int) : Option (Int) := if 0 ≤ (wrap64 (a1 - 1)) then (if (wrap64 (a1 - 1)) < 13 then (if a1 > 2 then ((calendar_Leap.f a0).bind fun t125 => (if t125 = true then (some (wrap64 ((rd aheadT (wrap64 (a1 - 1))) + 1))) else (some (rd aheadT (wrap64 (a1 - 1)))))) else (some (rd aheadT (wrap64 (a1 - 1))))) else (none)) else (none)
set_option maxHeartbeats 8000000 in
set_option maxRecDepth 100000 in
theorem calendar_start.calls (a0 : Int) (a1 : Int) (r : Int) (w : World) (hrT : AheadAt w) (h : calendar_start.f a0 a1 = some r) :
    Calls Tryd.prog 50 #[.int .i64 a0, .int .i64 a1] w fun e w' => e = .returned (.int .i64 r) ∧ Drawn0 w w' := by
  have HRT := Aside0.mk hrT
  clear hrT
  have H : (if 0 ≤ (wrap64 (a1 - 1)) then (if (wrap64 (a1 - 1)) < 13 then (if a1 > 2 then ((calendar_Leap.f a0).bind fun t125 => (if t125 = true then (some (wrap64 ((rd aheadT (wrap64 (a1 - 1))) + 1))) else (some (rd aheadT (wrap64 (a1 - 1)))))) else (some (rd aheadT (wrap64 (a1 - 1))))) else (none)) else (none)) = some r := h
  clear h
  obtain ⟨ji3, hji3⟩ : ∃ j_ : Int, (wrap64 (a1 - 1)) = j_ := ⟨_, rfl⟩
  replace H : (if 0 ≤ (ji3) then (if (ji3) < 13 then (if a1 > 2 then ((calendar_Leap.f a0).bind fun t125 => (if t125 = true then (some (wrap64 ((rd aheadT (ji3)) + 1))) else (some (rd aheadT (ji3))))) else (some (rd aheadT (ji3)))) else (none)) else (none)) = some r := by first | (rw [hji3] at H; exact H) | (simp only [hji3] at H ⊢; exact H)
  have hji3w : (IntKind.i64.wrap (a1 - 1)) = ji3 := (i64_w _).trans hji3
  by_cases c4 : 0 ≤ (ji3)
  · rw [if_pos c4] at H
    have c4b0 : decide (0 ≤ (ji3)) = true := decide_eq_true c4
    clear c4
    by_cases c5 : (ji3) < 13
    · rw [if_pos c5] at H
      have c5b0 : decide ((ji3) < 13) = true := decide_eq_true c5
      clear c5
      by_cases c6 : a1 > 2
      · rw [if_pos c6] at H
        have c6b0 : decide (2 < a1) = true := decide_eq_true c6
        clear c6
        replace H := Option.bind_eq_some_iff.mp H
        obtain ⟨t125, A70, H⟩ := H
        replace H : (if t125 = true then (some (wrap64 ((rd aheadT (ji3)) + 1))) else (some (rd aheadT (ji3)))) = some r := H
        have A7 := Aside0.mk A70
        clear A70
        by_cases c8 : t125 = true
        · subst c8
          have H1 : (some (wrap64 ((rd aheadT (ji3)) + 1))) = some r := by rw [if_pos rfl] at H; exact H
          clear H
          have H := H1
          clear H1
          obtain rfl := Option.some.inj H
          have p124 : 0 ≤ ((ji3) : Int) := of_decide_eq_true (by first | (with_reducible assumption) | assumption)
          have q124 : ((ji3) : Int) < 13 := of_decide_eq_true (by first | (with_reducible assumption) | assumption)
          have hx124_0 := ahead_at HRT.out ((ji3) : Int) p124 q124
          replace p124 := eq_true p124
          replace q124 := eq_true q124
          go_enter Tryd.func50, Tryd.ntmps50
          go_wp2_with (first | (go_at_call 17; (with_reducible refine (calendar_Leap.calls a0 true _ A7.out).mono ?_); rintro e w' ⟨rfl, ⟨nd, rfl⟩⟩))
          go_ret
          exact ⟨by first | rfl | (simp; done) | (simp only [← hji3] <;> (first | rfl | simp)) | (simp [*]; done), by repeat (first | exact Drawn0.refl _ | apply Drawn0.step)⟩
        · replace c8 := Bool.eq_false_iff.mpr c8
          subst c8
          have H1 : (some (rd aheadT (ji3))) = some r := by rw [if_neg (show ¬ (false = true) by decide)] at H; exact H
          clear H
          have H := H1
          clear H1
          obtain rfl := Option.some.inj H
          have p124 : 0 ≤ ((ji3) : Int) := of_decide_eq_true (by first | (with_reducible assumption) | assumption)
          have q124 : ((ji3) : Int) < 13 := of_decide_eq_true (by first | (with_reducible assumption) | assumption)
          have hx124_0 := ahead_at HRT.out ((ji3) : Int) p124 q124
          replace p124 := eq_true p124
          replace q124 := eq_true q124
          go_enter Tryd.func50, Tryd.ntmps50
          go_wp2_with (first | (go_at_call 17; (with_reducible refine (calendar_Leap.calls a0 false _ A7.out).mono ?_); rintro e w' ⟨rfl, ⟨nd, rfl⟩⟩))
          go_ret
          exact ⟨by first | rfl | (simp; done) | (simp only [← hji3] <;> (first | rfl | simp)) | (simp [*]; done), by repeat (first | exact Drawn0.refl _ | apply Drawn0.step)⟩
      · rw [if_neg c6] at H
        have c6b0 : decide (2 < a1) = false := decide_eq_false c6
        clear c6
        obtain rfl := Option.some.inj H
        have p124 : 0 ≤ ((ji3) : Int) := of_decide_eq_true (by first | (with_reducible assumption) | assumption)
        have q124 : ((ji3) : Int) < 13 := of_decide_eq_true (by first | (with_reducible assumption) | assumption)
        have hx124_0 := ahead_at HRT.out ((ji3) : Int) p124 q124
        replace p124 := eq_true p124
        replace q124 := eq_true q124
        go_enter Tryd.func50, Tryd.ntmps50
        go_wp2
        go_ret
        exact ⟨by first | rfl | (simp; done) | (simp only [← hji3] <;> (first | rfl | simp)) | (simp [*]; done), by repeat (first | exact Drawn0.refl _ | apply Drawn0.step)⟩
    · rw [if_neg c5] at H
      exact absurd H (by simp)
  · rw [if_neg c4] at H
    exact absurd H (by simp)

/-! ### calendar_Civil: function 23 -/
mutual
def calendar_Civil.j0 : Nat → Int → Bool → Option (Int × Int × Int × Bool)
  | 0, _, _ => none
  | k + 1, x0, x15 => if x15 = true then (some (0, 0, 0, false)) else (calendar_Civil.l0 k (wrap64 ((Int.tmod (wrap64 ((Int.tmod (wrap64 (x0 - 1)) 146097) - (wrap64 ((mn (wrap64 (Int.tdiv (Int.tmod (wrap64 (x0 - 1)) 146097) 36524)) 3) * 36524)))) 1461) - (wrap64 ((mn (wrap64 (Int.tdiv (Int.tmod (wrap64 ((Int.tmod (wrap64 (x0 - 1)) 146097) - (wrap64 ((mn (wrap64 (Int.tdiv (Int.tmod (wrap64 (x0 - 1)) 146097) 36524)) 3) * 36524)))) 1461) 365)) 3) * 365)))) (wrap64 ((wrap64 ((wrap64 (400 * (wrap64 (Int.tdiv (wrap64 (x0 - 1)) 146097)))) + 1)) + (wrap64 ((wrap64 ((wrap64 (100 * (mn (wrap64 (Int.tdiv (Int.tmod (wrap64 (x0 - 1)) 146097) 36524)) 3))) + (wrap64 (4 * (wrap64 (Int.tdiv (wrap64 ((Int.tmod (wrap64 (x0 - 1)) 146097) - (wrap64 ((mn (wrap64 (Int.tdiv (Int.tmod (wrap64 (x0 - 1)) 146097) 36524)) 3) * 36524)))) 1461)))))) + (mn (wrap64 (Int.tdiv (Int.tmod (wrap64 ((Int.tmod (wrap64 (x0 - 1)) 146097) - (wrap64 ((mn (wrap64 (Int.tdiv (Int.tmod (wrap64 (x0 - 1)) 146097) 36524)) 3) * 36524)))) 1461) 365)) 3))))) 1)
def calendar_Civil.l0 : Nat → Int → Int → Int → Option (Int × Int × Int × Bool)
  | 0, _, _, _ => none
  | k + 1, x4, x5, x9 => if x9 < 12 then ((calendar_start.f x5 (wrap64 (x9 + 1))).bind fun t127 => (if x4 ≥ t127 then (calendar_Civil.l0 k x4 x5 (wrap64 (x9 + 1))) else ((calendar_start.f x5 x9).bind fun t128 => (some (x5, x9, wrap64 ((wrap64 (x4 - t128)) + 1), true))))) else ((calendar_start.f x5 x9).bind fun t129 => (some (x5, x9, wrap64 ((wrap64 (x4 - t129)) + 1), true)))
end
def calendar_Civil.f (k : Nat) (a0 : Int) : Option (Int × Int × Int × Bool) := if a0 < 1 then (calendar_Civil.j0 k a0 true) else (calendar_Civil.j0 k a0 (decide (a0 > 3652059)))
theorem calendar_Civil.mono_l : ∀ k, (∀ y0 y1, LeO (calendar_Civil.j0 k y0 y1) (calendar_Civil.j0 (k + 1) y0 y1)) ∧ (∀ y0 y1 y2, LeO (calendar_Civil.l0 k y0 y1 y2) (calendar_Civil.l0 (k + 1) y0 y1 y2))
  | 0 => ⟨fun _ _ r h => by simp [calendar_Civil.j0] at h, fun _ _ _ r h => by simp [calendar_Civil.l0] at h⟩
  | k + 1 => by
    obtain ⟨ih0, ih1⟩ := calendar_Civil.mono_l k
    refine ⟨?_, ?_⟩
    · intro y0 y1
      unfold calendar_Civil.j0
      repeat' first
      | (with_reducible exact ih0 _ _)
      | (with_reducible exact ih1 _ _ _)
      | (with_reducible exact LeO.refl _)
      | (with_reducible exact LeO.none _)
      | (with_reducible refine LeO.ite ?_ ?_)
      | (with_reducible refine LeO.bind ?_ (fun _ => ?_))
      | exact ih0 _ _
      | exact ih1 _ _ _
      | exact LeO.none _
      | refine LeO.ite ?_ ?_
      | refine LeO.bind ?_ (fun _ => ?_)
    · intro y0 y1 y2
      unfold calendar_Civil.l0
      repeat' first
      | (with_reducible exact ih0 _ _)
      | (with_reducible exact ih1 _ _ _)
      | (with_reducible exact LeO.refl _)
      | (with_reducible exact LeO.none _)
      | (with_reducible refine LeO.ite ?_ ?_)
      | (with_reducible refine LeO.bind ?_ (fun _ => ?_))
      | exact ih0 _ _
      | exact ih1 _ _ _
      | exact LeO.none _
      | refine LeO.ite ?_ ?_
      | refine LeO.bind ?_ (fun _ => ?_)
theorem calendar_Civil.mono : ∀ a0 k, LeO (calendar_Civil.f k a0) (calendar_Civil.f (k + 1) a0) := by
  intro a0 k
  obtain ⟨ih0, ih1⟩ := calendar_Civil.mono_l k
  unfold calendar_Civil.f
  repeat' first
      | (with_reducible exact ih0 _ _)
      | (with_reducible exact ih1 _ _ _)
      | (with_reducible exact LeO.refl _)
      | (with_reducible exact LeO.none _)
      | (with_reducible refine LeO.ite ?_ ?_)
      | (with_reducible refine LeO.bind ?_ (fun _ => ?_))
      | exact ih0 _ _
      | exact ih1 _ _ _
      | exact LeO.none _
      | refine LeO.ite ?_ ?_
      | refine LeO.bind ?_ (fun _ => ?_)
set_option maxHeartbeats 8000000 in
set_option maxRecDepth 100000 in
theorem calendar_Civil.calls (k : Nat) (a0 : Int) (r1 : Int) (r2 : Int) (r3 : Int) (r4 : Bool) (w : World) (hrT : AheadAt w) (h : calendar_Civil.f k a0 = some (r1, r2, r3, r4)) :
    Calls Tryd.prog 23 #[.int .i64 a0] w fun e w' => e = .returned (.tuple #[.agg #[.int .i64 r1, .int .i64 r2, .int .i64 r3], .bool r4]) ∧ Below w.heap.size w w' := by
  have hu27 := Tryd.underlying27
  have HRT := Aside0.mk hrT
  clear hrT
  have HB := Aside0.mk (Below.refl w.heap.size w)
  have H : (if a0 < 1 then (calendar_Civil.j0 k a0 true) else (calendar_Civil.j0 k a0 (decide (a0 > 3652059)))) = some (r1, r2, r3, r4) := h
  clear h
  have HC2 := Aside0.mk H
  clear H
  go_enter Tryd.func23, Tryd.ntmps23
  go_upto_region 1 with (first | ((with_reducible refine gate_dst (N := 2) rfl ?_); refine box_event ?hg (N := 2) ?hd (cs := #[.int .i64 0, .int .i64 0, .int .i64 0]) (t := 27) ?hr ?_; (case hd => rfl); (case hg => rfl); (case hr => first | (go_simp; done) | (go_simp; rfl)); intro gb126 hg w3 hbox hb; have n0_ := Aside0.mk (below_step (by repeat (first | (with_reducible first | exact HB.out | apply below_alloc | apply pw_below_drewN | apply below_drew1) | exact HB.out)) hb); have n1_ := Aside0.mk (hbox); have n2_ := Aside0.mk ((by rw [hg]; exact (below_size (by repeat (first | (with_reducible first | exact HB.out | apply below_alloc | apply pw_below_drewN | apply below_drew1) | exact HB.out))) : w.heap.size ≤ gb126)); have n3_ := Aside0.mk ((by rw [hg]; exact (below_size (by repeat (first | (with_reducible first | exact HB.out | apply below_alloc | apply pw_below_drewN | apply below_drew1) | exact HB.out))) : w.heap.size ≤ gb126)); clear HB; have HB := n0_; have BK126 := n1_; have GW126 := n2_; have GE126 := n3_; clear n0_ n1_ n2_ n3_; clear hb hbox hg))
  (try simp only [Act.put, List.setIfInBounds_toArray, List.set_cons_zero, List.set_cons_succ])
  go_cut [15] (fun v15 wc => ∃ (kq : Nat) (x15_1 : Bool), v15 = .bool x15_1 ∧ Aside0 (calendar_Civil.j0 kq a0 x15_1 = some (r1, r2, r3, r4)) ∧ Aside0 (kq ≤ k) ∧ Aside0 (wc.heap[gb126]? = some (.cells #[.int .i64 0, .int .i64 0, .int .i64 0] 27 (0, 0))) ∧ Aside0 (Below w.heap.size w wc))
  case first =>
    have H := HC2.out
    clear HC2
    by_cases c4 : a0 < 1
    · rw [if_pos c4] at H
      have c4b0 : decide (a0 < 1) = true := decide_eq_true c4
      clear c4
      (first | rw [c4b0] | (simp only [i64_w, i32_w]; rw [c4b0]) | skip)
      have H' := Aside0.mk H
      clear H
      go_wp2
      go_meet
      case rel => exact ⟨_, (true), (by first | rfl | (simp; done) | (simp [*]; done)), H', ⟨by first | omega | exact Nat.le_refl _⟩, ⟨by (with_reducible repeat (first | refine blk_drewN ?_ _ | refine blk_drew ?_ | refine blk_alloc ?_ _)); exact BK126.out⟩, ⟨by repeat (first | (with_reducible first | exact HB.out | apply below_alloc | apply pw_below_drewN | apply below_drew1 | refine below_set ?_ GE126.out) | exact HB.out)⟩⟩
    · rw [if_neg c4] at H
      have c4b0 : decide (a0 < 1) = false := decide_eq_false c4
      clear c4
      (first | rw [c4b0] | (simp only [i64_w, i32_w]; rw [c4b0]) | skip)
      have H' := Aside0.mk H
      clear H
      go_wp2
      go_meet
      case rel => exact ⟨_, (decide (a0 > 3652059)), (by first | rfl | (simp; done) | (simp [*]; done)), H', ⟨by first | omega | exact Nat.le_refl _⟩, ⟨by (with_reducible repeat (first | refine blk_drewN ?_ _ | refine blk_drew ?_ | refine blk_alloc ?_ _)); exact BK126.out⟩, ⟨by repeat (first | (with_reducible first | exact HB.out | apply below_alloc | apply pw_below_drewN | apply below_drew1 | refine below_set ?_ GE126.out) | exact HB.out)⟩⟩
  case rest =>
    clear HC2
    try clear c2
    try clear p2
    try clear c4
    try clear c4b0
    obtain ⟨kq, x15_1, rfl, HA, HJ1, BK126, HB⟩ := hcut
    cases kq with
    | zero => exact absurd HA.out (by simp [calendar_Civil.j0])
    | succ kj1 =>
      have H := HA.out
      clear HA
      simp only [calendar_Civil.j0] at H
      by_cases c5 : x15_1 = true
      · subst c5
        have H1 : (some (0, 0, 0, false)) = some (r1, r2, r3, r4) := by rw [if_pos rfl] at H; exact H
        clear H
        have H := H1
        clear H1
        simp only [Option.some.injEq, Prod.mk.injEq] at H
        obtain ⟨rfl, rfl, rfl, rfl⟩ := H
        have hcz6_0 : wc.cell? ⟨gb126, 0, none⟩ = some (.int .i64 0) := (blk_cell BK126.out 0).trans rfl
        have hcz6_1 : wc.cell? ⟨gb126, 1, none⟩ = some (.int .i64 0) := (blk_cell BK126.out 1).trans rfl
        have hcz6_2 : wc.cell? ⟨gb126, 2, none⟩ = some (.int .i64 0) := (blk_cell BK126.out 2).trans rfl
        have hfz6_0 := blk_frozen BK126.out 0
        have hfz6_1 := blk_frozen BK126.out 1
        have hfz6_2 := blk_frozen BK126.out 2
        go_wp2
        refine bodyPost_ret (results_ct rfl _ _ gb126 27 #[.int .i64 0, .int .i64 0, .int .i64 0] (0, 0) _ rfl (by (with_reducible repeat (first | refine blk_drewN ?_ _ | refine blk_drew ?_ | refine blk_alloc ?_ _)); refine blk_put (cs := #[.int .i64 0, .int .i64 0, .int .i64 0]) ?_ 2 _ rfl; (with_reducible repeat (first | refine blk_drewN ?_ _ | refine blk_drew ?_ | refine blk_alloc ?_ _)); refine blk_put (cs := #[.int .i64 0, .int .i64 0, .int .i64 0]) ?_ 1 _ rfl; (with_reducible repeat (first | refine blk_drewN ?_ _ | refine blk_drew ?_ | refine blk_alloc ?_ _)); refine blk_put (cs := #[.int .i64 0, .int .i64 0, .int .i64 0]) ?_ 0 _ rfl; (with_reducible repeat (first | refine blk_drewN ?_ _ | refine blk_drew ?_ | refine blk_alloc ?_ _)); exact BK126.out) Tryd.underlying27 rfl (by kernel_rfl)) rfl ?_
        exact ⟨by first | rfl | (simp [errW_none, errW_some] <;> rfl) | (simp [*, errW_none, errW_some] <;> rfl), by repeat (first | (with_reducible first | exact HB.out | apply below_alloc | apply pw_below_drewN | apply below_drew1 | refine below_set ?_ GE126.out) | exact HB.out)⟩
      · replace c5 := Bool.eq_false_iff.mpr c5
        subst c5
        have H1 : (calendar_Civil.l0 kj1 (wrap64 ((Int.tmod (wrap64 ((Int.tmod (wrap64 (a0 - 1)) 146097) - (wrap64 ((mn (wrap64 (Int.tdiv (Int.tmod (wrap64 (a0 - 1)) 146097) 36524)) 3) * 36524)))) 1461) - (wrap64 ((mn (wrap64 (Int.tdiv (Int.tmod (wrap64 ((Int.tmod (wrap64 (a0 - 1)) 146097) - (wrap64 ((mn (wrap64 (Int.tdiv (Int.tmod (wrap64 (a0 - 1)) 146097) 36524)) 3) * 36524)))) 1461) 365)) 3) * 365)))) (wrap64 ((wrap64 ((wrap64 (400 * (wrap64 (Int.tdiv (wrap64 (a0 - 1)) 146097)))) + 1)) + (wrap64 ((wrap64 ((wrap64 (100 * (mn (wrap64 (Int.tdiv (Int.tmod (wrap64 (a0 - 1)) 146097) 36524)) 3))) + (wrap64 (4 * (wrap64 (Int.tdiv (wrap64 ((Int.tmod (wrap64 (a0 - 1)) 146097) - (wrap64 ((mn (wrap64 (Int.tdiv (Int.tmod (wrap64 (a0 - 1)) 146097) 36524)) 3) * 36524)))) 1461)))))) + (mn (wrap64 (Int.tdiv (Int.tmod (wrap64 ((Int.tmod (wrap64 (a0 - 1)) 146097) - (wrap64 ((mn (wrap64 (Int.tdiv (Int.tmod (wrap64 (a0 - 1)) 146097) 36524)) 3) * 36524)))) 1461) 365)) 3))))) 1) = some (r1, r2, r3, r4) := by rw [if_neg (show ¬ (false = true) by decide)] at H; exact H
        clear H
        have H := H1
        clear H1
        obtain ⟨ji7, hji7⟩ : ∃ j_ : Int, (mn (wrap64 (Int.tdiv (Int.tmod (wrap64 (a0 - 1)) 146097) 36524)) 3) = j_ := ⟨_, rfl⟩
        replace H : (calendar_Civil.l0 kj1 (wrap64 ((Int.tmod (wrap64 ((Int.tmod (wrap64 (a0 - 1)) 146097) - (wrap64 ((ji7) * 36524)))) 1461) - (wrap64 ((mn (wrap64 (Int.tdiv (Int.tmod (wrap64 ((Int.tmod (wrap64 (a0 - 1)) 146097) - (wrap64 ((ji7) * 36524)))) 1461) 365)) 3) * 365)))) (wrap64 ((wrap64 ((wrap64 (400 * (wrap64 (Int.tdiv (wrap64 (a0 - 1)) 146097)))) + 1)) + (wrap64 ((wrap64 ((wrap64 (100 * (ji7))) + (wrap64 (4 * (wrap64 (Int.tdiv (wrap64 ((Int.tmod (wrap64 (a0 - 1)) 146097) - (wrap64 ((ji7) * 36524)))) 1461)))))) + (mn (wrap64 (Int.tdiv (Int.tmod (wrap64 ((Int.tmod (wrap64 (a0 - 1)) 146097) - (wrap64 ((ji7) * 36524)))) 1461) 365)) 3))))) 1) = some (r1, r2, r3, r4) := by first | (rw [hji7] at H; exact H) | (simp only [hji7] at H ⊢; exact H)
        have hji7_ : (if 3 < (wrap64 (Int.tdiv (Int.tmod (wrap64 (a0 - 1)) 146097) 36524)) then 3 else (wrap64 (Int.tdiv (Int.tmod (wrap64 (a0 - 1)) 146097) 36524))) = ji7 := hji7
        obtain ⟨ji8, hji8⟩ : ∃ j_ : Int, (mn (wrap64 (Int.tdiv (Int.tmod (wrap64 ((Int.tmod (wrap64 (a0 - 1)) 146097) - (wrap64 ((ji7) * 36524)))) 1461) 365)) 3) = j_ := ⟨_, rfl⟩
        replace H : (calendar_Civil.l0 kj1 (wrap64 ((Int.tmod (wrap64 ((Int.tmod (wrap64 (a0 - 1)) 146097) - (wrap64 ((ji7) * 36524)))) 1461) - (wrap64 ((ji8) * 365)))) (wrap64 ((wrap64 ((wrap64 (400 * (wrap64 (Int.tdiv (wrap64 (a0 - 1)) 146097)))) + 1)) + (wrap64 ((wrap64 ((wrap64 (100 * (ji7))) + (wrap64 (4 * (wrap64 (Int.tdiv (wrap64 ((Int.tmod (wrap64 (a0 - 1)) 146097) - (wrap64 ((ji7) * 36524)))) 1461)))))) + (ji8))))) 1) = some (r1, r2, r3, r4) := by first | (rw [hji8] at H; exact H) | (simp only [hji8] at H ⊢; exact H)
        have hji8_ : (if 3 < (wrap64 (Int.tdiv (Int.tmod (wrap64 ((Int.tmod (wrap64 (a0 - 1)) 146097) - (wrap64 ((ji7) * 36524)))) 1461) 365)) then 3 else (wrap64 (Int.tdiv (Int.tmod (wrap64 ((Int.tmod (wrap64 (a0 - 1)) 146097) - (wrap64 ((ji7) * 36524)))) 1461) 365))) = ji8 := hji8
        have H' := Aside0.mk H
        clear H
        go_wp2
        go_loopg [9] kj1 (fun kq v9 w' => ∃ (x9_2 : Int), v9 = .int .i64 x9_2 ∧ Aside0 (calendar_Civil.l0 kq (wrap64 ((Int.tmod (wrap64 ((Int.tmod (wrap64 (a0 - 1)) 146097) - (wrap64 ((ji7) * 36524)))) 1461) - (wrap64 ((ji8) * 365)))) (wrap64 ((wrap64 ((wrap64 (400 * (wrap64 (Int.tdiv (wrap64 (a0 - 1)) 146097)))) + 1)) + (wrap64 ((wrap64 ((wrap64 (100 * (ji7))) + (wrap64 (4 * (wrap64 (Int.tdiv (wrap64 ((Int.tmod (wrap64 (a0 - 1)) 146097) - (wrap64 ((ji7) * 36524)))) 1461)))))) + (ji8))))) x9_2 = some (r1, r2, r3, r4)) ∧ Aside0 (kq ≤ kj1) ∧ Aside0 (w'.heap[gb126]? = some (.cells #[.int .i64 0, .int .i64 0, .int .i64 0] 27 (0, 0))) ∧ Aside0 (Below w.heap.size w w'))
        case atStart => exact ⟨(1), (by first | rfl | (simp; done) | (simp [*]; done)), H', ⟨Nat.le_refl _⟩, ⟨by (with_reducible repeat (first | refine blk_drewN ?_ _ | refine blk_drew ?_ | refine blk_alloc ?_ _)); exact BK126.out⟩, ⟨by repeat (first | (with_reducible first | exact HB.out | apply below_alloc | apply pw_below_drewN | apply below_drew1 | refine below_set ?_ GE126.out) | exact HB.out)⟩⟩
        case round =>
          clear H'
          try clear c2
          try clear p2
          try clear c4
          try clear c4b0
          try clear c5
          try clear p6
          try clear hcz6_0
          try clear hcz6_1
          try clear hcz6_2
          try clear hfz6_0
          try clear hfz6_1
          try clear hfz6_2
          try clear p2
          obtain ⟨x9_2, rfl, HA, HK2, BK126, HB⟩ := hrel
          cases gk with
          | zero => exact absurd HA.out (by simp [calendar_Civil.l0])
          | succ k2 =>
            have H := HA.out
            clear HA
            simp only [calendar_Civil.l0] at H
            by_cases c9 : x9_2 < 12
            · rw [if_pos c9] at H
              have c9b0 : decide (x9_2 < 12) = true := decide_eq_true c9
              clear c9
              replace H := Option.bind_eq_some_iff.mp H
              obtain ⟨t127, A100, H⟩ := H
              replace H : (if (wrap64 ((Int.tmod (wrap64 ((Int.tmod (wrap64 (a0 - 1)) 146097) - (wrap64 ((ji7) * 36524)))) 1461) - (wrap64 ((ji8) * 365)))) ≥ t127 then (calendar_Civil.l0 k2 (wrap64 ((Int.tmod (wrap64 ((Int.tmod (wrap64 (a0 - 1)) 146097) - (wrap64 ((ji7) * 36524)))) 1461) - (wrap64 ((ji8) * 365)))) (wrap64 ((wrap64 ((wrap64 (400 * (wrap64 (Int.tdiv (wrap64 (a0 - 1)) 146097)))) + 1)) + (wrap64 ((wrap64 ((wrap64 (100 * (ji7))) + (wrap64 (4 * (wrap64 (Int.tdiv (wrap64 ((Int.tmod (wrap64 (a0 - 1)) 146097) - (wrap64 ((ji7) * 36524)))) 1461)))))) + (ji8))))) (wrap64 (x9_2 + 1))) else ((calendar_start.f (wrap64 ((wrap64 ((wrap64 (400 * (wrap64 (Int.tdiv (wrap64 (a0 - 1)) 146097)))) + 1)) + (wrap64 ((wrap64 ((wrap64 (100 * (ji7))) + (wrap64 (4 * (wrap64 (Int.tdiv (wrap64 ((Int.tmod (wrap64 (a0 - 1)) 146097) - (wrap64 ((ji7) * 36524)))) 1461)))))) + (ji8))))) x9_2).bind fun t128 => (some ((wrap64 ((wrap64 ((wrap64 (400 * (wrap64 (Int.tdiv (wrap64 (a0 - 1)) 146097)))) + 1)) + (wrap64 ((wrap64 ((wrap64 (100 * (ji7))) + (wrap64 (4 * (wrap64 (Int.tdiv (wrap64 ((Int.tmod (wrap64 (a0 - 1)) 146097) - (wrap64 ((ji7) * 36524)))) 1461)))))) + (ji8))))), x9_2, wrap64 ((wrap64 ((wrap64 ((Int.tmod (wrap64 ((Int.tmod (wrap64 (a0 - 1)) 146097) - (wrap64 ((ji7) * 36524)))) 1461) - (wrap64 ((ji8) * 365)))) - t128)) + 1), true)))) = some (r1, r2, r3, r4) := H
              have A10 := Aside0.mk A100
              clear A100
              by_cases c11 : (wrap64 ((Int.tmod (wrap64 ((Int.tmod (wrap64 (a0 - 1)) 146097) - (wrap64 ((ji7) * 36524)))) 1461) - (wrap64 ((ji8) * 365)))) ≥ t127
              · rw [if_pos c11] at H
                have c11b0 : decide (t127 ≤ (wrap64 ((Int.tmod (wrap64 ((Int.tmod (wrap64 (a0 - 1)) 146097) - (wrap64 ((ji7) * 36524)))) 1461) - (wrap64 ((ji8) * 365))))) = true := decide_eq_true c11
                clear c11
                have H' := Aside0.mk H
                clear H
                go_wp2_with (first | (go_at_call 50; (with_reducible refine (calendar_start.calls (wrap64 ((wrap64 ((wrap64 (400 * (wrap64 (Int.tdiv (wrap64 (a0 - 1)) 146097)))) + 1)) + (wrap64 ((wrap64 ((wrap64 (100 * (ji7))) + (wrap64 (4 * (wrap64 (Int.tdiv (wrap64 ((Int.tmod (wrap64 (a0 - 1)) 146097) - (wrap64 ((ji7) * 36524)))) 1461)))))) + (ji8))))) (wrap64 (x9_2 + 1)) t127 _ ?side1 A10.out).mono ?_); (case side1 => repeat (first | exact (Kd.C_below HRT.out HB.out) | (with_reducible refine Kd.C_alloc ?_ _) | (with_reducible refine Kd.C_drewN ?_ _) | (with_reducible refine Kd.C_drew ?_))); rintro e w' ⟨rfl, ⟨nd, rfl⟩⟩))
                go_roundg k2
                case measure => have := HJ1.out; have := HK2.out; omega
                case rel => exact ⟨(wrap64 (x9_2 + 1)), (by first | rfl | (simp; done) | (simp [*]; done)), H', ⟨by have := HJ1.out; have := HK2.out; omega⟩, ⟨by (with_reducible repeat (first | refine blk_drewN ?_ _ | refine blk_drew ?_ | refine blk_alloc ?_ _)); exact BK126.out⟩, ⟨by repeat (first | (with_reducible first | exact HB.out | apply below_alloc | apply pw_below_drewN | apply below_drew1 | refine below_set ?_ GE126.out) | exact HB.out)⟩⟩
              · rw [if_neg c11] at H
                have c11b0 : decide (t127 ≤ (wrap64 ((Int.tmod (wrap64 ((Int.tmod (wrap64 (a0 - 1)) 146097) - (wrap64 ((ji7) * 36524)))) 1461) - (wrap64 ((ji8) * 365))))) = false := decide_eq_false c11
                clear c11
                replace H := Option.bind_eq_some_iff.mp H
                obtain ⟨t128, A120, H⟩ := H
                replace H : (some ((wrap64 ((wrap64 ((wrap64 (400 * (wrap64 (Int.tdiv (wrap64 (a0 - 1)) 146097)))) + 1)) + (wrap64 ((wrap64 ((wrap64 (100 * (ji7))) + (wrap64 (4 * (wrap64 (Int.tdiv (wrap64 ((Int.tmod (wrap64 (a0 - 1)) 146097) - (wrap64 ((ji7) * 36524)))) 1461)))))) + (ji8))))), x9_2, wrap64 ((wrap64 ((wrap64 ((Int.tmod (wrap64 ((Int.tmod (wrap64 (a0 - 1)) 146097) - (wrap64 ((ji7) * 36524)))) 1461) - (wrap64 ((ji8) * 365)))) - t128)) + 1), true)) = some (r1, r2, r3, r4) := H
                have A12 := Aside0.mk A120
                clear A120
                simp only [Option.some.injEq, Prod.mk.injEq] at H
                obtain ⟨rfl, rfl, rfl, rfl⟩ := H
                go_wp2_with (first | (go_at_call 50; (with_reducible refine (calendar_start.calls (wrap64 ((wrap64 ((wrap64 (400 * (wrap64 (Int.tdiv (wrap64 (a0 - 1)) 146097)))) + 1)) + (wrap64 ((wrap64 ((wrap64 (100 * (ji7))) + (wrap64 (4 * (wrap64 (Int.tdiv (wrap64 ((Int.tmod (wrap64 (a0 - 1)) 146097) - (wrap64 ((ji7) * 36524)))) 1461)))))) + (ji8))))) (wrap64 (x9_2 + 1)) t127 _ ?side1 A10.out).mono ?_); (case side1 => repeat (first | exact (Kd.C_below HRT.out HB.out) | (with_reducible refine Kd.C_alloc ?_ _) | (with_reducible refine Kd.C_drewN ?_ _) | (with_reducible refine Kd.C_drew ?_))); rintro e w' ⟨rfl, ⟨nd, rfl⟩⟩; (try (rw [drewN_self wr]; generalize hq_ : World.drewN wr _ = wr; have n0_ : Aside0 (wr.heap[gb126]? = some (.cells #[.int .i64 0, .int .i64 0, .int .i64 0] 27 (0, 0))) := ⟨by rw [← hq_]; exact (by (with_reducible repeat (first | refine blk_drewN ?_ _ | refine blk_drew ?_ | refine blk_alloc ?_ _)); exact BK126.out)⟩; have n1_ : Aside0 (Below w.heap.size w wr) := ⟨by rw [← hq_]; exact (by repeat (first | (with_reducible first | exact HB.out | apply below_alloc | apply pw_below_drewN | apply below_drew1 | refine below_set ?_ GE126.out) | exact HB.out))⟩; clear BK126 HB hq_; have BK126 := n0_; have HB := n1_; clear n0_ n1_))) | ((with_reducible refine gate_callee (f := 50) rfl ?_); refine goesL_ (some 69) rfl rfl Tryd.func50 (by kernel_rfl) rfl #[.int .i64 (wrap64 ((wrap64 ((wrap64 (400 * (wrap64 (Int.tdiv (wrap64 (a0 - 1)) 146097)))) + 1)) + (wrap64 ((wrap64 ((wrap64 (100 * (ji7))) + (wrap64 (4 * (wrap64 (Int.tdiv (wrap64 ((Int.tmod (wrap64 (a0 - 1)) 146097) - (wrap64 ((ji7) * 36524)))) 1461)))))) + (ji8))))), .int .i64 x9_2] rfl (by (try simp only [List.map_toArray, List.map_cons, List.map_nil]); first | done | (simp only [hji7, hji8]; rfl) | rfl | (simp only [List.length_drop, List.length_take]; rfl)) ?_; (with_reducible refine (calendar_start.calls (wrap64 ((wrap64 ((wrap64 (400 * (wrap64 (Int.tdiv (wrap64 (a0 - 1)) 146097)))) + 1)) + (wrap64 ((wrap64 ((wrap64 (100 * (ji7))) + (wrap64 (4 * (wrap64 (Int.tdiv (wrap64 ((Int.tmod (wrap64 (a0 - 1)) 146097) - (wrap64 ((ji7) * 36524)))) 1461)))))) + (ji8))))) x9_2 t128 _ ?side1 A12.out).mono ?_); (case side1 => repeat (first | exact (Kd.C_below HRT.out HB.out) | (with_reducible refine Kd.C_alloc ?_ _) | (with_reducible refine Kd.C_drewN ?_ _) | (with_reducible refine Kd.C_drew ?_))); rintro e w' ⟨rfl, ⟨nd, rfl⟩⟩; refine ⟨_, rfl, ?_⟩; (try (rw [drewN_self wr]; generalize hq_ : World.drewN wr _ = wr; have n0_ : Aside0 (wr.heap[gb126]? = some (.cells #[.int .i64 0, .int .i64 0, .int .i64 0] 27 (0, 0))) := ⟨by rw [← hq_]; exact (by (with_reducible repeat (first | refine blk_drewN ?_ _ | refine blk_drew ?_ | refine blk_alloc ?_ _)); exact BK126.out)⟩; have n1_ : Aside0 (Below w.heap.size w wr) := ⟨by rw [← hq_]; exact (by repeat (first | (with_reducible first | exact HB.out | apply below_alloc | apply pw_below_drewN | apply below_drew1 | refine below_set ?_ GE126.out) | exact HB.out))⟩; clear BK126 HB hq_; have BK126 := n0_; have HB := n1_; clear n0_ n1_)); have hcz13_0 : wr.cell? ⟨gb126, 0, none⟩ = some (.int .i64 0) := (blk_cell BK126.out 0).trans rfl; have hcz13_1 : wr.cell? ⟨gb126, 1, none⟩ = some (.int .i64 0) := (blk_cell BK126.out 1).trans rfl; have hcz13_2 : wr.cell? ⟨gb126, 2, none⟩ = some (.int .i64 0) := (blk_cell BK126.out 2).trans rfl; have hfz13_0 := blk_frozen BK126.out 0; have hfz13_1 := blk_frozen BK126.out 1; have hfz13_2 := blk_frozen BK126.out 2))
                refine bodyPost_ret (results_ct rfl _ _ gb126 27 #[.int .i64 (wrap64 ((wrap64 ((wrap64 (400 * (wrap64 (Int.tdiv (wrap64 (a0 - 1)) 146097)))) + 1)) + (wrap64 ((wrap64 ((wrap64 (100 * (ji7))) + (wrap64 (4 * (wrap64 (Int.tdiv (wrap64 ((Int.tmod (wrap64 (a0 - 1)) 146097) - (wrap64 ((ji7) * 36524)))) 1461)))))) + (ji8))))), .int .i64 x9_2, .int .i64 (wrap64 ((wrap64 ((wrap64 ((Int.tmod (wrap64 ((Int.tmod (wrap64 (a0 - 1)) 146097) - (wrap64 ((ji7) * 36524)))) 1461) - (wrap64 ((ji8) * 365)))) - t128)) + 1))] (0, 0) _ rfl (by (with_reducible repeat (first | refine blk_drewN ?_ _ | refine blk_drew ?_ | refine blk_alloc ?_ _)); refine blk_put (cs := #[.int .i64 (wrap64 ((wrap64 ((wrap64 (400 * (wrap64 (Int.tdiv (wrap64 (a0 - 1)) 146097)))) + 1)) + (wrap64 ((wrap64 ((wrap64 (100 * (ji7))) + (wrap64 (4 * (wrap64 (Int.tdiv (wrap64 ((Int.tmod (wrap64 (a0 - 1)) 146097) - (wrap64 ((ji7) * 36524)))) 1461)))))) + (ji8))))), .int .i64 x9_2, .int .i64 0]) ?_ 2 _ rfl; (with_reducible repeat (first | refine blk_drewN ?_ _ | refine blk_drew ?_ | refine blk_alloc ?_ _)); refine blk_put (cs := #[.int .i64 (wrap64 ((wrap64 ((wrap64 (400 * (wrap64 (Int.tdiv (wrap64 (a0 - 1)) 146097)))) + 1)) + (wrap64 ((wrap64 ((wrap64 (100 * (ji7))) + (wrap64 (4 * (wrap64 (Int.tdiv (wrap64 ((Int.tmod (wrap64 (a0 - 1)) 146097) - (wrap64 ((ji7) * 36524)))) 1461)))))) + (ji8))))), .int .i64 0, .int .i64 0]) ?_ 1 _ rfl; (with_reducible repeat (first | refine blk_drewN ?_ _ | refine blk_drew ?_ | refine blk_alloc ?_ _)); refine blk_put (cs := #[.int .i64 0, .int .i64 0, .int .i64 0]) ?_ 0 _ rfl; (with_reducible repeat (first | refine blk_drewN ?_ _ | refine blk_drew ?_ | refine blk_alloc ?_ _)); exact BK126.out) Tryd.underlying27 rfl (by kernel_rfl)) rfl ?_
                exact ⟨by first | rfl | (simp [errW_none, errW_some] <;> rfl) | (simp only [← hji7, ← hji8]; first | rfl | (simp [errW_none, errW_some] <;> rfl)) | (simp [*, errW_none, errW_some] <;> rfl), by repeat (first | (with_reducible first | exact HB.out | apply below_alloc | apply pw_below_drewN | apply below_drew1 | refine below_set ?_ GE126.out) | exact HB.out)⟩
            · rw [if_neg c9] at H
              have c9b0 : decide (x9_2 < 12) = false := decide_eq_false c9
              clear c9
              replace H := Option.bind_eq_some_iff.mp H
              obtain ⟨t129, A140, H⟩ := H
              replace H : (some ((wrap64 ((wrap64 ((wrap64 (400 * (wrap64 (Int.tdiv (wrap64 (a0 - 1)) 146097)))) + 1)) + (wrap64 ((wrap64 ((wrap64 (100 * (ji7))) + (wrap64 (4 * (wrap64 (Int.tdiv (wrap64 ((Int.tmod (wrap64 (a0 - 1)) 146097) - (wrap64 ((ji7) * 36524)))) 1461)))))) + (ji8))))), x9_2, wrap64 ((wrap64 ((wrap64 ((Int.tmod (wrap64 ((Int.tmod (wrap64 (a0 - 1)) 146097) - (wrap64 ((ji7) * 36524)))) 1461) - (wrap64 ((ji8) * 365)))) - t129)) + 1), true)) = some (r1, r2, r3, r4) := H
              have A14 := Aside0.mk A140
              clear A140
              simp only [Option.some.injEq, Prod.mk.injEq] at H
              obtain ⟨rfl, rfl, rfl, rfl⟩ := H
              go_wp2_with (first | ((with_reducible refine gate_callee (f := 50) rfl ?_); refine goesL_ (some 69) rfl rfl Tryd.func50 (by kernel_rfl) rfl #[.int .i64 (wrap64 ((wrap64 ((wrap64 (400 * (wrap64 (Int.tdiv (wrap64 (a0 - 1)) 146097)))) + 1)) + (wrap64 ((wrap64 ((wrap64 (100 * (ji7))) + (wrap64 (4 * (wrap64 (Int.tdiv (wrap64 ((Int.tmod (wrap64 (a0 - 1)) 146097) - (wrap64 ((ji7) * 36524)))) 1461)))))) + (ji8))))), .int .i64 x9_2] rfl (by (try simp only [List.map_toArray, List.map_cons, List.map_nil]); first | done | (simp only [hji7, hji8]; rfl) | rfl | (simp only [List.length_drop, List.length_take]; rfl)) ?_; (with_reducible refine (calendar_start.calls (wrap64 ((wrap64 ((wrap64 (400 * (wrap64 (Int.tdiv (wrap64 (a0 - 1)) 146097)))) + 1)) + (wrap64 ((wrap64 ((wrap64 (100 * (ji7))) + (wrap64 (4 * (wrap64 (Int.tdiv (wrap64 ((Int.tmod (wrap64 (a0 - 1)) 146097) - (wrap64 ((ji7) * 36524)))) 1461)))))) + (ji8))))) x9_2 t129 _ ?side1 A14.out).mono ?_); (case side1 => repeat (first | exact (Kd.C_below HRT.out HB.out) | (with_reducible refine Kd.C_alloc ?_ _) | (with_reducible refine Kd.C_drewN ?_ _) | (with_reducible refine Kd.C_drew ?_))); rintro e w' ⟨rfl, ⟨nd, rfl⟩⟩; refine ⟨_, rfl, ?_⟩; (try (rw [drewN_self wr]; generalize hq_ : World.drewN wr _ = wr; have n0_ : Aside0 (wr.heap[gb126]? = some (.cells #[.int .i64 0, .int .i64 0, .int .i64 0] 27 (0, 0))) := ⟨by rw [← hq_]; exact (by (with_reducible repeat (first | refine blk_drewN ?_ _ | refine blk_drew ?_ | refine blk_alloc ?_ _)); exact BK126.out)⟩; have n1_ : Aside0 (Below w.heap.size w wr) := ⟨by rw [← hq_]; exact (by repeat (first | (with_reducible first | exact HB.out | apply below_alloc | apply pw_below_drewN | apply below_drew1 | refine below_set ?_ GE126.out) | exact HB.out))⟩; clear BK126 HB hq_; have BK126 := n0_; have HB := n1_; clear n0_ n1_)); have hcz15_0 : wr.cell? ⟨gb126, 0, none⟩ = some (.int .i64 0) := (blk_cell BK126.out 0).trans rfl; have hcz15_1 : wr.cell? ⟨gb126, 1, none⟩ = some (.int .i64 0) := (blk_cell BK126.out 1).trans rfl; have hcz15_2 : wr.cell? ⟨gb126, 2, none⟩ = some (.int .i64 0) := (blk_cell BK126.out 2).trans rfl; have hfz15_0 := blk_frozen BK126.out 0; have hfz15_1 := blk_frozen BK126.out 1; have hfz15_2 := blk_frozen BK126.out 2))
              refine bodyPost_ret (results_ct rfl _ _ gb126 27 #[.int .i64 (wrap64 ((wrap64 ((wrap64 (400 * (wrap64 (Int.tdiv (wrap64 (a0 - 1)) 146097)))) + 1)) + (wrap64 ((wrap64 ((wrap64 (100 * (ji7))) + (wrap64 (4 * (wrap64 (Int.tdiv (wrap64 ((Int.tmod (wrap64 (a0 - 1)) 146097) - (wrap64 ((ji7) * 36524)))) 1461)))))) + (ji8))))), .int .i64 x9_2, .int .i64 (wrap64 ((wrap64 ((wrap64 ((Int.tmod (wrap64 ((Int.tmod (wrap64 (a0 - 1)) 146097) - (wrap64 ((ji7) * 36524)))) 1461) - (wrap64 ((ji8) * 365)))) - t129)) + 1))] (0, 0) _ rfl (by (with_reducible repeat (first | refine blk_drewN ?_ _ | refine blk_drew ?_ | refine blk_alloc ?_ _)); refine blk_put (cs := #[.int .i64 (wrap64 ((wrap64 ((wrap64 (400 * (wrap64 (Int.tdiv (wrap64 (a0 - 1)) 146097)))) + 1)) + (wrap64 ((wrap64 ((wrap64 (100 * (ji7))) + (wrap64 (4 * (wrap64 (Int.tdiv (wrap64 ((Int.tmod (wrap64 (a0 - 1)) 146097) - (wrap64 ((ji7) * 36524)))) 1461)))))) + (ji8))))), .int .i64 x9_2, .int .i64 0]) ?_ 2 _ rfl; (with_reducible repeat (first | refine blk_drewN ?_ _ | refine blk_drew ?_ | refine blk_alloc ?_ _)); refine blk_put (cs := #[.int .i64 (wrap64 ((wrap64 ((wrap64 (400 * (wrap64 (Int.tdiv (wrap64 (a0 - 1)) 146097)))) + 1)) + (wrap64 ((wrap64 ((wrap64 (100 * (ji7))) + (wrap64 (4 * (wrap64 (Int.tdiv (wrap64 ((Int.tmod (wrap64 (a0 - 1)) 146097) - (wrap64 ((ji7) * 36524)))) 1461)))))) + (ji8))))), .int .i64 0, .int .i64 0]) ?_ 1 _ rfl; (with_reducible repeat (first | refine blk_drewN ?_ _ | refine blk_drew ?_ | refine blk_alloc ?_ _)); refine blk_put (cs := #[.int .i64 0, .int .i64 0, .int .i64 0]) ?_ 0 _ rfl; (with_reducible repeat (first | refine blk_drewN ?_ _ | refine blk_drew ?_ | refine blk_alloc ?_ _)); exact BK126.out) Tryd.underlying27 rfl (by kernel_rfl)) rfl ?_
              exact ⟨by first | rfl | (simp [errW_none, errW_some] <;> rfl) | (simp only [← hji7, ← hji8]; first | rfl | (simp [errW_none, errW_some] <;> rfl)) | (simp [*, errW_none, errW_some] <;> rfl), by repeat (first | (with_reducible first | exact HB.out | apply below_alloc | apply pw_below_drewN | apply below_drew1 | refine below_set ?_ GE126.out) | exact HB.out)⟩

/-! ### arrearsref2_isDay: function 51 -/
def arrearsref2_isDay.f (a0 : Int) : Option (Bool) := if a0 ≥ 1 then (some (decide (a0 ≤ 3652059))) else (some false)
set_option maxHeartbeats 8000000 in
set_option maxRecDepth 100000 in
theorem arrearsref2_isDay.calls (a0 : Int) (r : Bool) (w : World) (h : arrearsref2_isDay.f a0 = some r) :
    Calls Tryd.prog 51 #[.int .i64 a0] w fun e w' => e = .returned (.bool r) ∧ Drawn0 w w' := by
  have H : (if a0 ≥ 1 then (some (decide (a0 ≤ 3652059))) else (some false)) = some r := h
  clear h
  by_cases c2 : a0 ≥ 1
  · rw [if_pos c2] at H
    have c2b0 : decide (1 ≤ a0) = true := decide_eq_true c2
    clear c2
    obtain rfl := Option.some.inj H
    go_enter Tryd.func51, Tryd.ntmps51
    go_wp2
    go_ret
    exact ⟨by first | rfl | (simp; done) | (simp [*]; done), by repeat (first | exact Drawn0.refl _ | apply Drawn0.step)⟩
  · rw [if_neg c2] at H
    have c2b0 : decide (1 ≤ a0) = false := decide_eq_false c2
    clear c2
    obtain rfl := Option.some.inj H
    go_enter Tryd.func51, Tryd.ntmps51
    go_wp2
    go_ret
    exact ⟨by first | rfl | (simp; done) | (simp [*]; done), by repeat (first | exact Drawn0.refl _ | apply Drawn0.step)⟩

end Go.Proofs.YtifkobejdldkbaaDoor.PA
