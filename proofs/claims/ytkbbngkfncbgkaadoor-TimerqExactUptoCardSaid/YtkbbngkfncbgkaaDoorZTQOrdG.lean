/- timerq.order once more: its world is the caller's with draws and new blocks behind it, as the sort asks of it. No condition. -/
import Derived.Test.YtkbbngkfncbgkaaDoorZTQMove
import Derived.Test.YtkbbngkfncbgkaaDoorZW
import Derived.Sort.Grow
import Derived.Test.YtkbbngkfncbgkaaDoorZPAx3
namespace Go.Proofs.YtkbbngkfncbgkaaDoor.TQOrdG
open Go.RowKit Go.Maps Go.Proofs.YtkbbngkfncbgkaaDoor.IQHeap Go.Proofs.YtkbbngkfncbgkaaDoor.TQWords Go.Proofs.YtkbbngkfncbgkaaDoor.TQOrd Go.Proofs.YtkbbngkfncbgkaaDoor.PA Go.Proofs.YtkbbngkfncbgkaaDoorW.PrintWords Go.Proofs.YtkbbngkfncbgkaaDoorW.PrintLast Go.Proofs.YtkbbngkfncbgkaaDoorW.PrintMore
set_option linter.unusedVariables false
set_option linter.unusedSimpArgs false
def ci (a b : Int) : Int := if a < b then -1 else if a > b then 1 else 0
def cfK (a b : Ky) : Int := if ci a.d b.d = 0 then (if ci a.l b.l = 0 then ci a.k b.k else ci a.l b.l) else ci a.d b.d
theorem cfK_lt (a b : Ky) : decide (cfK a b < 0) = ltK a b := by
  obtain ⟨r, h1, h2⟩ := order_is a b
  rw [← h2]
  unfold timerq_order.f at h1
  rw [cmp_is, cmp_is, cmp_is] at h1
  simp only [Option.bind_some] at h1
  rw [or_is] at h1
  have h3 := Option.some.inj h1
  rw [← h3]
  rfl
theorem lit3 (w : World) (x y z : Int) : Kd.C (Kd.int .i64) (w.alloc (.cells #[.int .i64 x, .int .i64 y, .int .i64 z] 3)) (some ⟨w.heap.size, 0, none⟩) 3 [x, y, z] := by
  have h := heap_alloc_new w (.cells #[.int .i64 x, .int .i64 y, .int .i64 z] 3)
  refine Kd.C_of_reads (d := (0 : Int)) (h1 := fun _ => rfl) ⟨rfl, by decide, fun _ => ⟨_, rfl, fun j hj => ?_⟩⟩
  match j, hj with
  | 0, _ => exact cell_of_row _ w.heap.size 0 _ _ (0, 0) h
  | 1, _ => exact cell_of_row _ w.heap.size 1 _ _ (0, 0) h
  | 2, _ => exact cell_of_row _ w.heap.size 2 _ _ (0, 0) h
theorem cmp_c (a b : Int) : cmp_Compare_int.f a b = some (ci a b) := cmp_is a b
theorem drewN_size (w : World) (n : Nat) : w.heap.size = (w.drewN n).heap.size := rfl
theorem or_c (a b : Ky) (w : World) (n : Nat) (hn : n = w.heap.size) : Calls Tryd.prog 63 #[.slice (some ⟨n, 0, none⟩) 3 3] (w.alloc (.cells #[.int .i64 (ci a.d b.d), .int .i64 (ci a.l b.l), .int .i64 (ci a.k b.k)] 3)) fun e w' => e = .returned (.int .i64 (cfK a b)) ∧ Drawn0 (w.alloc (.cells #[.int .i64 (ci a.d b.d), .int .i64 (ci a.l b.l), .int .i64 (ci a.k b.k)] 3)) w' :=
  by subst hn; exact cmp_Or_int.calls 4 (some ⟨w.heap.size, 0, none⟩) 3 [ci a.d b.d, ci a.l b.l, ci a.k b.k] (cfK a b) _ (lit3 _ _ _ _) (Nat.le_refl _) (or_is _ _ _)
/-- Draws and new blocks. -/
def GW (w W : World) : Prop := ∃ q os, W = Go.Sort.grow (w.drewN q) os
theorem GW.refl (w : World) : GW w w := ⟨0, #[], by rw [Go.Sort.grow_empty]; rfl⟩
theorem GW.drewN {w W : World} (h : GW w W) (n : Nat) : GW w (W.drewN n) := by
  obtain ⟨q, os, rfl⟩ := h
  exact ⟨q + n, os, by rw [← World.drewN_drewN]; rfl⟩
theorem GW.drew {w W : World} (h : GW w W) : GW w W.drew := h.drewN 1
theorem GW.alloc {w W : World} (h : GW w W) (o : Obj) : GW w (W.alloc o) := by
  obtain ⟨q, os, rfl⟩ := h
  exact ⟨q, os ++ #[o], by rw [Go.Sort.alloc_eq_grow, Go.Sort.grow_grow]⟩
set_option maxHeartbeats 4000000 in
set_option maxRecDepth 1000000 in
theorem order_grow (a b : Ky) (w : World) : Calls Tryd.prog 57 #[.agg #[.int .i64 a.d, .int .i64 a.l, .int .i64 a.k], .agg #[.int .i64 b.d, .int .i64 b.l, .int .i64 b.k]] w fun e w' => e = .returned (.int .i64 (cfK a b)) ∧ GW w w' := by
  have HG := Hd.mk (((GW.refl w).alloc (.cells #[.int .i64 a.d, .int .i64 a.l, .int .i64 a.k] 24)).alloc (.cells #[.int .i64 b.d, .int .i64 b.l, .int .i64 b.k] 24))
  have HA : Hd (((w.alloc (.cells #[.int .i64 a.d, .int .i64 a.l, .int .i64 a.k] 24)).alloc (.cells #[.int .i64 b.d, .int .i64 b.l, .int .i64 b.k] 24)).heap[w.heap.size]? = some (.cells #[.int .i64 a.d, .int .i64 a.l, .int .i64 a.k] 24 (0, 0))) := ⟨(Tn.alloc _ _ (fun _ => False)).blk (heap_alloc_new w _) (fun h => h)⟩
  have HB : Hd (((w.alloc (.cells #[.int .i64 a.d, .int .i64 a.l, .int .i64 a.k] 24)).alloc (.cells #[.int .i64 b.d, .int .i64 b.l, .int .i64 b.k] 24)).heap[w.heap.size + 1]? = some (.cells #[.int .i64 b.d, .int .i64 b.l, .int .i64 b.k] 24 (0, 0))) := ⟨by
    have h := heap_alloc_new (w.alloc (.cells #[.int .i64 a.d, .int .i64 a.l, .int .i64 a.k] 24)) (.cells #[.int .i64 b.d, .int .i64 b.l, .int .i64 b.k] 24)
    rw [show (w.alloc (.cells #[.int .i64 a.d, .int .i64 a.l, .int .i64 a.k] 24)).heap.size = w.heap.size + 1 by simp] at h
    exact h⟩
  go_enter Tryd.func57, Tryd.ntmps57
  go_wp2
  obtain ⟨ga, hga⟩ : ∃ ga, w.heap.size = ga := ⟨_, rfl⟩
  obtain ⟨gb, hgb⟩ : ∃ gb, w.heap.size + 1 = gb := ⟨_, rfl⟩
  rw [hgb] at HB ⊢
  rw [hga] at HA ⊢
  generalize hW : (w.alloc (.cells #[.int .i64 a.d, .int .i64 a.l, .int .i64 a.k] 24)).alloc (.cells #[.int .i64 b.d, .int .i64 b.l, .int .i64 b.k] 24) = W1 at HG HA HB ⊢
  clear hW hga hgb
  have a0 : W1.cell? ⟨ga, 0, none⟩ = some (.int .i64 a.d) := cell_of_row W1 ga 0 _ _ (0, 0) HA.out
  have a1 : W1.cell? ⟨ga, 1, none⟩ = some (.int .i64 a.l) := cell_of_row W1 ga 1 _ _ (0, 0) HA.out
  have a2 : W1.cell? ⟨ga, 2, none⟩ = some (.int .i64 a.k) := cell_of_row W1 ga 2 _ _ (0, 0) HA.out
  have b0 : W1.cell? ⟨gb, 0, none⟩ = some (.int .i64 b.d) := cell_of_row W1 gb 0 _ _ (0, 0) HB.out
  have b1 : W1.cell? ⟨gb, 1, none⟩ = some (.int .i64 b.l) := cell_of_row W1 gb 1 _ _ (0, 0) HB.out
  have b2 : W1.cell? ⟨gb, 2, none⟩ = some (.int .i64 b.k) := cell_of_row W1 gb 2 _ _ (0, 0) HB.out
  refine start_ (n := 18) (S := fun w' => w'.cell? ⟨ga, 0, none⟩ = some (.int .i64 a.d) ∧ w'.cell? ⟨ga, 1, none⟩ = some (.int .i64 a.l) ∧ w'.cell? ⟨ga, 2, none⟩ = some (.int .i64 a.k) ∧ w'.cell? ⟨gb, 0, none⟩ = some (.int .i64 b.d) ∧ w'.cell? ⟨gb, 1, none⟩ = some (.int .i64 b.l) ∧ w'.cell? ⟨gb, 2, none⟩ = some (.int .i64 b.k)) (ds := [15, 16]) #[false, false, false, false, false, false, false, false, false, false, false, false, false, false, false, false, false, false] (by kernel_rfl) rfl rfl ⟨a0, a1, a2, b0, b1, b2⟩ (fun hHeld => ?_)
  refine pure_ (i := 0) (N := some 5) (v := ?_) (a' := ?_) #[true, false, false, false, false, false, false, false, false, false, false, false, false, false, false, false, false, false] rfl rfl (by kernel_rfl) (fun _ _ _ h => h) (Or.inl ⟨by rfl, ?_⟩) ?_ ?_
  rotate_left
  · intro w'
    go_simp
    with_reducible rfl
  rotate_left
  · simp only [Act.put, List.setIfInBounds_toArray, List.set_cons_zero, List.set_cons_succ, i64_w, i32_w]
    rfl
  refine pure_ (i := 2) (N := some 7) (v := ?_) (a' := ?_) #[true, false, true, false, false, false, false, false, false, false, false, false, false, false, false, false, false, false] rfl rfl (by kernel_rfl) (fun _ _ _ h => h) (Or.inl ⟨by rfl, ?_⟩) ?_ ?_
  rotate_left
  · intro w'
    go_simp
    with_reducible rfl
  rotate_left
  · simp only [Act.put, List.setIfInBounds_toArray, List.set_cons_zero, List.set_cons_succ, i64_w, i32_w]
    rfl
  refine pure_ (i := 5) (N := some 10) (v := ?_) (a' := ?_) #[true, false, true, false, false, true, false, false, false, false, false, false, false, false, false, false, false, false] rfl rfl (by kernel_rfl) (fun _ _ _ h => h) (Or.inl ⟨by rfl, ?_⟩) ?_ ?_
  rotate_left
  · intro w'
    go_simp
    with_reducible rfl
  rotate_left
  · simp only [Act.put, List.setIfInBounds_toArray, List.set_cons_zero, List.set_cons_succ, i64_w, i32_w]
    rfl
  refine pure_ (i := 7) (N := some 12) (v := ?_) (a' := ?_) #[true, false, true, false, false, true, false, true, false, false, false, false, false, false, false, false, false, false] rfl rfl (by kernel_rfl) (fun _ _ _ h => h) (Or.inl ⟨by rfl, ?_⟩) ?_ ?_
  rotate_left
  · intro w'
    go_simp
    with_reducible rfl
  rotate_left
  · simp only [Act.put, List.setIfInBounds_toArray, List.set_cons_zero, List.set_cons_succ, i64_w, i32_w]
    rfl
  refine pure_ (i := 10) (N := some 15) (v := ?_) (a' := ?_) #[true, false, true, false, false, true, false, true, false, false, true, false, false, false, false, false, false, false] rfl rfl (by kernel_rfl) (fun _ _ _ h => h) (Or.inl ⟨by rfl, ?_⟩) ?_ ?_
  rotate_left
  · intro w'
    go_simp
    with_reducible rfl
  rotate_left
  · simp only [Act.put, List.setIfInBounds_toArray, List.set_cons_zero, List.set_cons_succ, i64_w, i32_w]
    rfl
  refine pure_ (i := 12) (N := some 17) (v := ?_) (a' := ?_) #[true, false, true, false, false, true, false, true, false, false, true, false, true, false, false, false, false, false] rfl rfl (by kernel_rfl) (fun _ _ _ h => h) (Or.inl ⟨by rfl, ?_⟩) ?_ ?_
  rotate_left
  · intro w'
    go_simp
    with_reducible rfl
  rotate_left
  · simp only [Act.put, List.setIfInBounds_toArray, List.set_cons_zero, List.set_cons_succ, i64_w, i32_w]
    rfl
  refine take_ (i := 1) (N := some 6) (v := ?_) (a' := ?_) #[true, true, true, false, false, true, false, true, false, false, true, false, true, false, false, false, false, false] rfl rfl (by kernel_rfl) (fun _ _ _ h => h) (Or.inl ⟨by rfl, ?_⟩) hHeld ?_ ?_
  rotate_left
  · rintro w' ⟨s0, s1, s2, s3, s4, s5⟩
    go_simp
    with_reducible rfl
  rotate_left
  · simp only [Act.put, List.setIfInBounds_toArray, List.set_cons_zero, List.set_cons_succ, i64_w, i32_w]
    rfl
  refine take_ (i := 3) (N := some 8) (v := ?_) (a' := ?_) #[true, true, true, true, false, true, false, true, false, false, true, false, true, false, false, false, false, false] rfl rfl (by kernel_rfl) (fun _ _ _ h => h) (Or.inl ⟨by rfl, ?_⟩) hHeld ?_ ?_
  rotate_left
  · rintro w' ⟨s0, s1, s2, s3, s4, s5⟩
    go_simp
    with_reducible rfl
  rotate_left
  · simp only [Act.put, List.setIfInBounds_toArray, List.set_cons_zero, List.set_cons_succ, i64_w, i32_w]
    rfl
  refine take_ (i := 6) (N := some 11) (v := ?_) (a' := ?_) #[true, true, true, true, false, true, true, true, false, false, true, false, true, false, false, false, false, false] rfl rfl (by kernel_rfl) (fun _ _ _ h => h) (Or.inl ⟨by rfl, ?_⟩) hHeld ?_ ?_
  rotate_left
  · rintro w' ⟨s0, s1, s2, s3, s4, s5⟩
    go_simp
    with_reducible rfl
  rotate_left
  · simp only [Act.put, List.setIfInBounds_toArray, List.set_cons_zero, List.set_cons_succ, i64_w, i32_w]
    rfl
  refine take_ (i := 8) (N := some 13) (v := ?_) (a' := ?_) #[true, true, true, true, false, true, true, true, true, false, true, false, true, false, false, false, false, false] rfl rfl (by kernel_rfl) (fun _ _ _ h => h) (Or.inl ⟨by rfl, ?_⟩) hHeld ?_ ?_
  rotate_left
  · rintro w' ⟨s0, s1, s2, s3, s4, s5⟩
    go_simp
    with_reducible rfl
  rotate_left
  · simp only [Act.put, List.setIfInBounds_toArray, List.set_cons_zero, List.set_cons_succ, i64_w, i32_w]
    rfl
  refine take_ (i := 11) (N := some 16) (v := ?_) (a' := ?_) #[true, true, true, true, false, true, true, true, true, false, true, true, true, false, false, false, false, false] rfl rfl (by kernel_rfl) (fun _ _ _ h => h) (Or.inl ⟨by rfl, ?_⟩) hHeld ?_ ?_
  rotate_left
  · rintro w' ⟨s0, s1, s2, s3, s4, s5⟩
    go_simp
    with_reducible rfl
  rotate_left
  · simp only [Act.put, List.setIfInBounds_toArray, List.set_cons_zero, List.set_cons_succ, i64_w, i32_w]
    rfl
  refine take_ (i := 13) (N := some 18) (v := ?_) (a' := ?_) #[true, true, true, true, false, true, true, true, true, false, true, true, true, true, false, false, false, false] rfl rfl (by kernel_rfl) (fun _ _ _ h => h) (Or.inl ⟨by rfl, ?_⟩) hHeld ?_ ?_
  rotate_left
  · rintro w' ⟨s0, s1, s2, s3, s4, s5⟩
    go_simp
    with_reducible rfl
  rotate_left
  · simp only [Act.put, List.setIfInBounds_toArray, List.set_cons_zero, List.set_cons_succ, i64_w, i32_w]
    rfl
  refine one_ (i := 4) (N := some 9) #[true, true, true, true, true, true, true, true, true, false, true, true, true, true, false, false, false, false] rfl rfl (by kernel_rfl) (by decide) (fun K hK => ?_)
  refine goes_ Tryd.func64 (by kernel_rfl) rfl #[.int .i64 a.d, .int .i64 b.d] (by rfl) rfl rfl (by simp only [List.map_toArray, List.map_cons, List.map_nil]; rfl) ?_
  with_reducible refine (cmp_Compare_int.calls a.d b.d (ci a.d b.d) _ (cmp_c a.d b.d)).mono ?_
  rintro e w3 ⟨rfl, ⟨⟨n3, rfl⟩⟩⟩
  refine ⟨_, rfl, ?_⟩
  refine hK.out _ _ ⟨a0, a1, a2, b0, b1, b2⟩ (fun hHeld => ?_)
  clear hK K
  refine norm_ (a' := ?_) ?_ ?_
  rotate_left
  · show Act.put _ (some 9) _ = _
    simp only [Act.put, List.setIfInBounds_toArray, List.set_cons_zero, List.set_cons_succ, i64_w, i32_w]
    rfl
  refine one_ (i := 9) (N := some 14) #[true, true, true, true, true, true, true, true, true, true, true, true, true, true, false, false, false, false] rfl rfl (by kernel_rfl) (by decide) (fun K hK => ?_)
  refine goes_ Tryd.func64 (by kernel_rfl) rfl #[.int .i64 a.l, .int .i64 b.l] (by rfl) rfl rfl (by simp only [List.map_toArray, List.map_cons, List.map_nil]; rfl) ?_
  with_reducible refine (cmp_Compare_int.calls a.l b.l (ci a.l b.l) _ (cmp_c a.l b.l)).mono ?_
  rintro e w4 ⟨rfl, ⟨⟨n4, rfl⟩⟩⟩
  refine ⟨_, rfl, ?_⟩
  refine hK.out _ _ ⟨a0, a1, a2, b0, b1, b2⟩ (fun hHeld => ?_)
  clear hK K
  refine norm_ (a' := ?_) ?_ ?_
  rotate_left
  · show Act.put _ (some 14) _ = _
    simp only [Act.put, List.setIfInBounds_toArray, List.set_cons_zero, List.set_cons_succ, i64_w, i32_w]
    rfl
  refine one_ (i := 14) (N := some 19) #[true, true, true, true, true, true, true, true, true, true, true, true, true, true, true, false, false, false] rfl rfl (by kernel_rfl) (by decide) (fun K hK => ?_)
  refine goes_ Tryd.func64 (by kernel_rfl) rfl #[.int .i64 a.k, .int .i64 b.k] (by rfl) rfl rfl (by simp only [List.map_toArray, List.map_cons, List.map_nil]; rfl) ?_
  with_reducible refine (cmp_Compare_int.calls a.k b.k (ci a.k b.k) _ (cmp_c a.k b.k)).mono ?_
  rintro e w5 ⟨rfl, ⟨⟨n5, rfl⟩⟩⟩
  refine ⟨_, rfl, ?_⟩
  refine hK.out _ _ ⟨a0, a1, a2, b0, b1, b2⟩ (fun hHeld => ?_)
  clear hK K
  refine norm_ (a' := ?_) ?_ ?_
  rotate_left
  · show Act.put _ (some 19) _ = _
    simp only [Act.put, List.setIfInBounds_toArray, List.set_cons_zero, List.set_cons_succ, i64_w, i32_w]
    rfl
  refine last_ (i := 15) (N := some 20) #[true, true, true, true, true, true, true, true, true, true, true, true, true, true, true, true, false, false] rfl rfl (by kernel_rfl) (by decide) (fun K hK => ?_)
  refine value_ (w1 := ?_) (v := ?_) (by rfl) rfl ?_ ?_
  rotate_left 2
  · go_simp
    constructor
    · rfl
    · rfl
  refine hK.out _ _ ?_
  clear hK K
  refine norm_ (a' := ?_) ?_ ?_
  rotate_left
  · show Act.put _ (some 20) _ = _
    simp only [Act.put, List.setIfInBounds_toArray, List.set_cons_zero, List.set_cons_succ, i64_w, i32_w]
    rfl
  refine last_ (i := 16) (N := some 21) #[true, true, true, true, true, true, true, true, true, true, true, true, true, true, true, true, true, false] rfl rfl (by kernel_rfl) (by decide) (fun K hK => ?_)
  refine goes_ Tryd.func63 (by kernel_rfl) rfl #[.slice (some ⟨_, 0, none⟩) 3 3] (by rfl) rfl rfl (by simp only [List.map_toArray, List.map_cons, List.map_nil]; rfl) ?_
  with_reducible refine (or_c a b _ W1.heap.size (drewN_size W1 _)).mono ?_
  rintro e w6 ⟨rfl, ⟨⟨n6, rfl⟩⟩⟩
  refine ⟨_, rfl, ?_⟩
  refine hK.out _ _ ?_
  clear hK K
  refine norm_ (a' := ?_) ?_ ?_
  rotate_left
  · show Act.put _ (some 21) _ = _
    simp only [Act.put, List.setIfInBounds_toArray, List.set_cons_zero, List.set_cons_succ, i64_w, i32_w]
    rfl
  refine pure_ (i := 17) (N := some 4) (v := ?_) (a' := ?_) #[true, true, true, true, true, true, true, true, true, true, true, true, true, true, true, true, true, true] rfl rfl (by kernel_rfl) (fun _ _ _ h => h) (Or.inl ⟨by rfl, ?_⟩) ?_ ?_
  rotate_left
  · intro w'
    go_simp
    with_reducible rfl
  rotate_left
  · simp only [Act.put, List.setIfInBounds_toArray, List.set_cons_zero, List.set_cons_succ, i64_w, i32_w]
    rfl
  refine done_ (by kernel_rfl) ?_
  go_wp2
  go_ret
  exact ⟨rfl, ((HG.out.drewN _).alloc _).drewN _⟩
end Go.Proofs.YtkbbngkfncbgkaaDoor.TQOrdG
