/- arrearslaw18.ScriptShows by hand: the law returns true. Conditions: the reply can be read, the table of powers of ten stands. -/
import Derived.Test.YtpglakfafanhoaaDoorSOwn
import Derived.Test.YtpglakfafanhoaaDoorSNum
import Derived.Test.YtpglakfafanhoaaDoorPAx2
import Derived.Test.YtpglakfafanhoaaDoorPAx3
import Derived.BigRegion
namespace Go.Proofs.YtpglakfafanhoaaDoor.SShows
open Go.RowKit Go.Proofs.YtpglakfafanhoaaDoorW.PrintWords Go.Proofs.YtpglakfafanhoaaDoorW.PrintLast Go.Proofs.YtpglakfafanhoaaDoorW.PrintMore Go.Proofs.YtpglakfafanhoaaDoor.PA Go.Proofs.YtpglakfafanhoaaDoor.SOwn Go.Proofs.YtpglakfafanhoaaDoor.SNum
set_option linter.unusedVariables false
set_option linter.unusedSimpArgs false

theorem show_n (a0 : Int) (A : Option Addr) (c n : Nat) (l : List Int) (hn : l.length = n) (w : World) (hC : Kd.C (Kd.int .i64) w A l.length l) (hc : n ≤ c) (hP : PowAt w) (hk : Okr a0 l) :
    Calls Tryd.prog 6 #[.agg #[.int .i64 a0, .slice A n c]] w fun e w' => e = .returned (.string (textOf a0 l)) ∧ Below w.heap.size w w' := by
  subst hn
  exact script_Show.calls a0 A c l (textOf a0 l) w hC hc hP (show_f hk)
theorem ref_n (a0 : Int) (A : Option Addr) (c n : Nat) (l : List Int) (hn : l.length = n) (w : World) (hC : Kd.C (Kd.int .i64) w A l.length l) (hc : n ≤ c) (hk : Okr a0 l) :
    Calls Tryd.prog 7 #[.agg #[.int .i64 a0, .slice A n c]] w fun e w' => e = .returned (.string (textOf a0 l)) ∧ Below w.heap.size w w' := by
  subst hn
  obtain ⟨k, hf⟩ := show_ref hk
  exact arrearsref18_Show.calls k a0 A c l (textOf a0 l) w hC hc hf
theorem left_n (a0 : Int) (g c : Nat) (A : Option Addr) (c1 : Nat) (l : List Int) (w : World) (hO : Kd.C (Kd.int .i64) w (some ⟨g, 0, none⟩) (l ++ [-77]).length (l ++ [-77])) (hc : l.length + 1 ≤ c) (hC : Kd.C (Kd.int .i64) w A l.length l) (hc1 : l.length ≤ c1) (hn : l.length ≤ 300000) :
    Calls Tryd.prog 8 #[.slice (some ⟨g, 0, none⟩) (l.length + 1) c, .agg #[.int .i64 a0, .slice A l.length c1]] w fun e w' => e = .returned (.bool true) ∧ Below w.heap.size w w' := by
  obtain ⟨k, hf⟩ := left_true a0 l hn
  have h := arrearslaw18_left.calls k (some ⟨g, 0, none⟩) c (l ++ [-77]) a0 A c1 l true w hO (by rw [List.length_append]; exact hc) hC hc1 hf
  rw [List.length_append] at h
  exact h
theorem reads_of {g c n : Nat} {w : World} {base : Nat} {ok : Nat → Prop} {xs : List Int} (h : Kd.R (Kd.int .i64) 2 w base ok (.slice (some ⟨g, 0, none⟩) n c) xs) : Kd.C (Kd.int .i64) w (some ⟨g, 0, none⟩) xs.length xs ∧ n = xs.length ∧ n ≤ c := by
  obtain ⟨h1, h2, h3⟩ := Kd.R_reads' h
  exact ⟨h3, h1, h2⟩
theorem take_of {g c n : Nat} {w : World} {base : Nat} {ok : Nat → Prop} {xs ys : List Int} (h : Kd.R (Kd.int .i64) 2 w base ok (.slice (some ⟨g, 0, none⟩) n c) (xs ++ ys)) : Kd.C (Kd.int .i64) w (some ⟨g, 0, none⟩) xs.length xs := by
  obtain ⟨h3, _, _⟩ := reads_of h
  have h4 := Kd.C_take h3 (m := xs.length) (by rw [List.length_append]; omega)
  rw [List.take_left] at h4
  exact h4
theorem set_first (a : Int) (l : List Int) : (((a :: l) ++ [-77]).set 0 5) = (5 :: l) ++ [-77] := rfl
theorem sum_up {P : Program} {ops : Array Oper} {os : List Oper} {a : Act} {Q : Exit → Act → World → Prop} {W : World} {S : World → Prop} (hs : S W) (h : ∀ w', S w' → wpList P ops Q os a w') : wpList P ops Q os a W := h W hs
theorem hd25 : ∀ q, q ∈ 2 :: (Kd.int .i64).E → q ≠ 25 := by
  intro q hq
  simp [Kd.int, Kd.scalar] at hq
  omega
/-- What is known between the statements. -/
def Mid (a0 : Int) (w : World) (gb gq g c : Nat) (A1 : Option Addr) (c1 n : Nat) (xs : List Int) (W : World) : Prop :=
  Below w.heap.size w W ∧ W.heap[gb]? = some (.cells #[.int .i64 a0, .slice A1 n c1] 25 (0, 0)) ∧ W.heap[gq]? = some (.cells #[.int .i64 a0, .slice (some ⟨g, 0, none⟩) n c] 25 (0, 0)) ∧
  Kd.R (Kd.int .i64) 2 W w.heap.size (fun _ => True) (.slice (some ⟨g, 0, none⟩) (n + 1) c) (xs ++ [-77])
theorem q_store (a0 : Int) (w : World) (gb gq g c : Nat) (A1 : Option Addr) (c1 : Nat) (l1 : List Int) (W : World) (hB : Below w.heap.size w W) (hK : W.heap[gb]? = some (.cells #[.int .i64 a0, .slice A1 l1.length c1] 25 (0, 0))) (hQ : W.heap[gq]? = some (.cells #[.int .i64 0, .slice none 0 0] 25 (0, 0)))
    (hO : Kd.R (Kd.int .i64) 2 W w.heap.size (fun _ => True) (.slice (some ⟨g, 0, none⟩) (l1.length + 1) c) (l1 ++ [-77])) (hne : gb ≠ gq) (hg : w.heap.size ≤ gq) :
    Mid a0 w gb gq g c A1 c1 l1.length l1 ((W.setCell ⟨gq, 0, none⟩ (.int .i64 a0)).setCell ⟨gq, 1, none⟩ (.slice (some ⟨g, 0, none⟩) l1.length c)) := by
  refine ⟨Below.setCell (p := ⟨gq, 1, none⟩) (Below.setCell (p := ⟨gq, 0, none⟩) hB hg _) hg _, ?_, ?_, Kd.R_set (Kd.R_set hO hQ hd25 0 _) (blk_put hQ 0 (.int .i64 a0) rfl) hd25 1 _⟩
  · exact ((Below.heap_setCell _ _ _ _ hne).trans (Below.heap_setCell _ _ _ _ hne)).trans hK
  · exact blk_put (cs' := #[.int .i64 a0, .slice (some ⟨g, 0, none⟩) l1.length c]) (blk_put (cs' := #[.int .i64 a0, .slice none 0 0]) hQ 0 (.int .i64 a0) rfl) 1 (.slice (some ⟨g, 0, none⟩) l1.length c) rfl
theorem q_first (a0 : Int) (w : World) (gb gq g c : Nat) (A1 : Option Addr) (c1 : Nat) (l1 l2 : List Int) (W : World) (hB : Below w.heap.size w W) (hK : W.heap[gb]? = some (.cells #[.int .i64 a0, .slice A1 l1.length c1] 25 (0, 0))) (hQ : W.heap[gq]? = some (.cells #[.int .i64 a0, .slice (some ⟨g, 0, none⟩) l1.length c] 25 (0, 0)))
    (hO : Kd.R (Kd.int .i64) 2 W w.heap.size (fun _ => True) (.slice (some ⟨g, 0, none⟩) (l1.length + 1) c) (l1 ++ [-77])) (he : (l1 ++ [-77]).set 0 5 = l2 ++ [-77]) :
    Mid a0 w gb gq g c A1 c1 l1.length l2 (W.setCell ⟨g, 0, none⟩ (.int .i64 5)) := by
  have hg : w.heap.size ≤ g := Kd.R_base hO g (by simp [Value.ownBlock])
  have n1 : gb ≠ g := fun e => Kd.R_ne hO hK (by decide) (by simp [Value.ownBlock, e])
  have n2 : gq ≠ g := fun e => Kd.R_ne hO hQ (by decide) (by simp [Value.ownBlock, e])
  refine ⟨Below.setCell (p := ⟨g, 0, none⟩) hB hg _, (Below.heap_setCell _ _ _ _ n1).trans hK, (Below.heap_setCell _ _ _ _ n2).trans hQ, ?_⟩
  have h := Kd.R_putn hO (0 : Int) 5
  rw [show (0 : Int).toNat = 0 from rfl, he] at h
  exact h
theorem sum_wp {P : Program} {c : Code} {a : Act} {Q : Exit → Act → World → Prop} {W : World} {S : World → Prop} (hs : S W) (h : ∀ w', S w' → Code.wp P c Q a w') : Code.wp P c Q a W := h W hs
theorem long_walk (a0 : Int) (A1 : Option Addr) (c1 : Nat) (l1 : List Int) (w : World) (hr0 : Kd.C (Kd.int .i64) w A1 l1.length l1) (hlen : 200000 < l1.length) :
    Calls Tryd.prog 3 #[.agg #[.int .i64 a0, .slice A1 l1.length c1]] w fun e w' => e = .returned (.bool true) ∧ Below w.heap.size w w' := by
  have hu25 := Tryd.underlying25
  have HB := Aside0.mk (Below.refl w.heap.size w)
  have b0 : decide ((200000 : Int) < (l1.length : Int)) = true := decide_eq_true (by omega)
  have b1 : decide (200000 < l1.length) = true := decide_eq_true hlen
  clear hr0
  go_enter Tryd.func3, Tryd.ntmps3
  go_wp2_with (first | ((with_reducible refine gate_dst (N := 1) rfl ?_); refine box_event ?hg (N := 1) ?hd (cs := #[.int .i64 a0, .slice A1 l1.length c1]) (t := 25) ?hr ?_; (case hd => rfl); (case hg => rfl); (case hr => first | (go_simp; done) | (go_simp; rfl)); intro gb hg w3 hbox hb; have n0_ := Aside0.mk (below_step (by repeat (first | (with_reducible first | exact HB.out | apply below_alloc | apply pw_below_drewN | apply below_drew1) | exact HB.out)) hb); have n1_ := Aside0.mk (hbox); clear HB hb hbox hg; have HB := n0_; have BK := n1_; clear n0_ n1_; have hcz_0 : w3.cell? ⟨gb, 0, none⟩ = some (.int .i64 a0) := (blk_cell BK.out 0).trans rfl; have hcz_1 : w3.cell? ⟨gb, 1, none⟩ = some (.slice A1 l1.length c1) := (blk_cell BK.out 1).trans rfl; have hfz_0 := blk_frozen BK.out 0; have hfz_1 := blk_frozen BK.out 1))
  go_ret
  exact ⟨rfl, (by repeat (first | (with_reducible first | exact HB.out | apply below_alloc | apply pw_below_drewN | apply below_drew1) | exact HB.out))⟩
set_option maxHeartbeats 16000000 in
set_option maxRecDepth 100000 in
theorem short_walk (a0 : Int) (A1 : Option Addr) (c1 : Nat) (l1 : List Int) (w : World) (hr0 : Kd.C (Kd.int .i64) w A1 l1.length l1) (hc0 : l1.length ≤ c1) (hk : Okr a0 l1) (hP : PowAt w) (hlen : ¬ 200000 < l1.length) (l2 : List Int) (hl2 : l1 ≠ [] → l2.length = l1.length ∧ (l1 ++ [-77]).set 0 5 = l2 ++ [-77] ∧ Okr a0 l2) :
    Calls Tryd.prog 3 #[.agg #[.int .i64 a0, .slice A1 l1.length c1]] w fun e w' => e = .returned (.bool true) ∧ Below w.heap.size w w' := by
  have HR := Aside0.mk hr0
  have HC := Aside0.mk hc0
  have HK := Aside0.mk hk
  have HP := Aside0.mk hP
  have HL2 := Aside0.mk hl2
  clear hr0 hc0 hk hP hl2
  have hu25 := Tryd.underlying25
  have HB := Aside0.mk (Below.refl w.heap.size w)
  have b0 : decide ((200000 : Int) < (l1.length : Int)) = false := decide_eq_false (by omega)
  have b1 : decide (200000 < l1.length) = false := decide_eq_false hlen
  have HLEN := Aside0.mk hlen
  clear hlen
  go_enter Tryd.func3, Tryd.ntmps3
  go_upto_region 7 with (first | ((with_reducible refine gate_dst (N := 1) rfl ?_); refine box_event ?hg (N := 1) ?hd (cs := #[.int .i64 a0, .slice A1 l1.length c1]) (t := 25) ?hr ?_; (case hd => rfl); (case hg => rfl); (case hr => first | (go_simp; done) | (go_simp; rfl)); intro gb hg w3 hbox hb; have n0_ := Aside0.mk (below_step (by repeat (first | (with_reducible first | exact HB.out | apply below_alloc | apply pw_below_drewN | apply below_drew1) | exact HB.out)) hb); have n1_ := Aside0.mk (hbox); clear HB hb hbox hg; have HB := n0_; have BK := n1_; clear n0_ n1_; have hcz_0 : w3.cell? ⟨gb, 0, none⟩ = some (.int .i64 a0) := (blk_cell BK.out 0).trans rfl; have hcz_1 : w3.cell? ⟨gb, 1, none⟩ = some (.slice A1 l1.length c1) := (blk_cell BK.out 1).trans rfl; have hfz_0 := blk_frozen BK.out 0; have hfz_1 := blk_frozen BK.out 1) | (go_at_call 5; ((with_reducible refine (ownReply_calls a0 A1 c1 l1 _ (Kd.C_below HR.out (by repeat (first | (with_reducible first | exact HB.out | apply below_alloc | apply pw_below_drewN | apply below_drew1) | exact HB.out))) (by have := HLEN.out; omega)).mono ?_); rintro e w5 ⟨g, c, rfl, ho, hb⟩); have n0_ := Aside0.mk (Kd.R_lower ho (below_size (by repeat (first | (with_reducible first | exact HB.out | apply below_alloc | apply pw_below_drewN | apply below_drew1) | exact HB.out)))); have n1_ := Aside0.mk (Kd.R_base ho g (by simp [Value.ownBlock])); have n2_ := Aside0.mk ((Kd.R_reads' ho).2.1); have n3_ := Aside0.mk (blk_below (by (with_reducible repeat (first | refine blk_drewN ?_ _ | refine blk_drew ?_ | refine blk_alloc ?_ _)); exact BK.out) hb); have n4_ := Aside0.mk (below_step (by repeat (first | (with_reducible first | exact HB.out | apply below_alloc | apply pw_below_drewN | apply below_drew1) | exact HB.out)) hb); clear HB BK ho hb; have HO := n0_; have GL := n1_; have GCAP := n2_; have BK := n3_; have HB := n4_; clear n0_ n1_ n2_ n3_ n4_; (try clear hcz_0 hcz_1 hfz_0 hfz_1); (try clear hcq_0 hcq_1 hfq_0 hfq_1); have hcz_0 : w5.cell? ⟨gb, 0, none⟩ = some (.int .i64 a0) := (blk_cell BK.out 0).trans rfl; have hcz_1 : w5.cell? ⟨gb, 1, none⟩ = some (.slice A1 l1.length c1) := (blk_cell BK.out 1).trans rfl; have hfz_0 := blk_frozen BK.out 0; have hfz_1 := blk_frozen BK.out 1) | ((with_reducible refine gate_dst (N := 3) rfl ?_); refine box_event ?hg (N := 3) ?hd (cs := #[.int .i64 0, .slice none 0 0]) (t := 25) ?hr ?_; (case hd => rfl); (case hg => rfl); (case hr => first | (go_simp; done) | (go_simp; rfl)); intro gq hg w4 hbox hb; have n0_ := Aside0.mk (hg ▸ (Nat.ne_of_lt (blk_lt (by (with_reducible repeat (first | refine blk_drewN ?_ _ | refine blk_drew ?_ | refine blk_alloc ?_ _)); exact BK.out))) : gb ≠ gq); have n1_ := Aside0.mk (blk_below (by (with_reducible repeat (first | refine blk_drewN ?_ _ | refine blk_drew ?_ | refine blk_alloc ?_ _)); exact BK.out) hb); have n2_ := Aside0.mk (hbox); have n3_ := Aside0.mk (hg ▸ below_size (by repeat (first | (with_reducible first | exact HB.out | apply below_alloc | apply pw_below_drewN | apply below_drew1) | exact HB.out)) : w.heap.size ≤ gq); have n4_ := Aside0.mk (Kd.R_below (by (with_reducible repeat (first | apply Kd.R_alloc | apply Kd.R_drewN | apply Kd.R_drew)); exact HO.out) hb); have n5_ := Aside0.mk (below_step (by repeat (first | (with_reducible first | exact HB.out | apply below_alloc | apply pw_below_drewN | apply below_drew1) | exact HB.out)) hb); clear HB BK HO hb hbox hg; have GNE := n0_; have BK := n1_; have BQ := n2_; have GGQ := n3_; have HO := n4_; have HB := n5_; clear n0_ n1_ n2_ n3_ n4_ n5_; (try clear hcz_0 hcz_1 hfz_0 hfz_1); (try clear hcq_0 hcq_1 hfq_0 hfq_1); have hcz_0 : w4.cell? ⟨gb, 0, none⟩ = some (.int .i64 a0) := (blk_cell BK.out 0).trans rfl; have hcz_1 : w4.cell? ⟨gb, 1, none⟩ = some (.slice A1 l1.length c1) := (blk_cell BK.out 1).trans rfl; have hfz_0 := blk_frozen BK.out 0; have hfz_1 := blk_frozen BK.out 1; have hcq_0 : w4.cell? ⟨gq, 0, none⟩ = some (.int .i64 0) := (blk_cell BQ.out 0).trans rfl; have hcq_1 : w4.cell? ⟨gq, 1, none⟩ = some (.slice none 0 0) := (blk_cell BQ.out 1).trans rfl; have hfq_0 := blk_frozen BQ.out 0; have hfq_1 := blk_frozen BQ.out 1) | ((with_reducible refine gate_dst (N := 4) rfl ?_); refine sum_up (q_store a0 w gb gq g c A1 c1 l1 _ HB.out BK.out BQ.out HO.out GNE.out GGQ.out) ?_; clear HB BK BQ HO; intro w99 hs; obtain ⟨hs1, hs2, hs3, hs4⟩ := hs; have n0_ := Aside0.mk (hs1); have n1_ := Aside0.mk (hs2); have n2_ := Aside0.mk (hs3); have n3_ := Aside0.mk (hs4); clear hs1 hs2 hs3 hs4; have HB := n0_; have BK := n1_; have BQ := n2_; have HO := n3_; clear n0_ n1_ n2_ n3_; (try clear hcz_0 hcz_1 hfz_0 hfz_1); (try clear hcq_0 hcq_1 hfq_0 hfq_1); have hcz_0 : w99.cell? ⟨gb, 0, none⟩ = some (.int .i64 a0) := (blk_cell BK.out 0).trans rfl; have hcz_1 : w99.cell? ⟨gb, 1, none⟩ = some (.slice A1 l1.length c1) := (blk_cell BK.out 1).trans rfl; have hfz_0 := blk_frozen BK.out 0; have hfz_1 := blk_frozen BK.out 1; have hcq_0 : w99.cell? ⟨gq, 0, none⟩ = some (.int .i64 a0) := (blk_cell BQ.out 0).trans rfl; have hcq_1 : w99.cell? ⟨gq, 1, none⟩ = some (.slice (some ⟨g, 0, none⟩) l1.length c) := (blk_cell BQ.out 1).trans rfl; have hfq_0 := blk_frozen BQ.out 0; have hfq_1 := blk_frozen BQ.out 1) | (go_at_call 6; ((with_reducible refine (show_n a0 (some ⟨g, 0, none⟩) c l1.length l1 rfl _ (take_of (by (with_reducible repeat (first | apply Kd.R_alloc | apply Kd.R_drewN | apply Kd.R_drew)); exact HO.out)) (by have := GCAP.out; omega) (PowAt_below HP.out (by repeat (first | (with_reducible first | exact HB.out | apply below_alloc | apply pw_below_drewN | apply below_drew1) | exact HB.out))) HK.out).mono ?_); rintro e w6 ⟨rfl, hb⟩); have n0_ := Aside0.mk (Kd.R_below (by (with_reducible repeat (first | apply Kd.R_alloc | apply Kd.R_drewN | apply Kd.R_drew)); exact HO.out) hb); have n1_ := Aside0.mk (blk_below (by (with_reducible repeat (first | refine blk_drewN ?_ _ | refine blk_drew ?_ | refine blk_alloc ?_ _)); exact BK.out) hb); have n2_ := Aside0.mk (blk_below (by (with_reducible repeat (first | refine blk_drewN ?_ _ | refine blk_drew ?_ | refine blk_alloc ?_ _)); exact BQ.out) hb); have n3_ := Aside0.mk (below_step (by repeat (first | (with_reducible first | exact HB.out | apply below_alloc | apply pw_below_drewN | apply below_drew1) | exact HB.out)) hb); clear HB BK BQ HO hb; have HO := n0_; have BK := n1_; have BQ := n2_; have HB := n3_; clear n0_ n1_ n2_ n3_; (try clear hcz_0 hcz_1 hfz_0 hfz_1); (try clear hcq_0 hcq_1 hfq_0 hfq_1); have hcz_0 : w6.cell? ⟨gb, 0, none⟩ = some (.int .i64 a0) := (blk_cell BK.out 0).trans rfl; have hcz_1 : w6.cell? ⟨gb, 1, none⟩ = some (.slice A1 l1.length c1) := (blk_cell BK.out 1).trans rfl; have hfz_0 := blk_frozen BK.out 0; have hfz_1 := blk_frozen BK.out 1; have hcq_0 : w6.cell? ⟨gq, 0, none⟩ = some (.int .i64 a0) := (blk_cell BQ.out 0).trans rfl; have hcq_1 : w6.cell? ⟨gq, 1, none⟩ = some (.slice (some ⟨g, 0, none⟩) l1.length c) := (blk_cell BQ.out 1).trans rfl; have hfq_0 := blk_frozen BQ.out 0; have hfq_1 := blk_frozen BQ.out 1) | (go_at_call 7; ((with_reducible refine (ref_n a0 A1 c1 l1.length l1 rfl _ (Kd.C_below HR.out (by repeat (first | (with_reducible first | exact HB.out | apply below_alloc | apply pw_below_drewN | apply below_drew1) | exact HB.out))) HC.out HK.out).mono ?_); rintro e w7 ⟨rfl, hb⟩); have n0_ := Aside0.mk (Kd.R_below (by (with_reducible repeat (first | apply Kd.R_alloc | apply Kd.R_drewN | apply Kd.R_drew)); exact HO.out) hb); have n1_ := Aside0.mk (blk_below (by (with_reducible repeat (first | refine blk_drewN ?_ _ | refine blk_drew ?_ | refine blk_alloc ?_ _)); exact BK.out) hb); have n2_ := Aside0.mk (blk_below (by (with_reducible repeat (first | refine blk_drewN ?_ _ | refine blk_drew ?_ | refine blk_alloc ?_ _)); exact BQ.out) hb); have n3_ := Aside0.mk (below_step (by repeat (first | (with_reducible first | exact HB.out | apply below_alloc | apply pw_below_drewN | apply below_drew1) | exact HB.out)) hb); clear HB BK BQ HO hb; have HO := n0_; have BK := n1_; have BQ := n2_; have HB := n3_; clear n0_ n1_ n2_ n3_; (try clear hcz_0 hcz_1 hfz_0 hfz_1); (try clear hcq_0 hcq_1 hfq_0 hfq_1); have hcz_0 : w7.cell? ⟨gb, 0, none⟩ = some (.int .i64 a0) := (blk_cell BK.out 0).trans rfl; have hcz_1 : w7.cell? ⟨gb, 1, none⟩ = some (.slice A1 l1.length c1) := (blk_cell BK.out 1).trans rfl; have hfz_0 := blk_frozen BK.out 0; have hfz_1 := blk_frozen BK.out 1; have hcq_0 : w7.cell? ⟨gq, 0, none⟩ = some (.int .i64 a0) := (blk_cell BQ.out 0).trans rfl; have hcq_1 : w7.cell? ⟨gq, 1, none⟩ = some (.slice (some ⟨g, 0, none⟩) l1.length c) := (blk_cell BQ.out 1).trans rfl; have hfq_0 := blk_frozen BQ.out 0; have hfq_1 := blk_frozen BQ.out 1) | (go_at_call 8; ((with_reducible refine (left_n a0 g c A1 c1 l1 _ (reads_of (by (with_reducible repeat (first | apply Kd.R_alloc | apply Kd.R_drewN | apply Kd.R_drew)); exact HO.out)).1 GCAP.out (Kd.C_below HR.out (by repeat (first | (with_reducible first | exact HB.out | apply below_alloc | apply pw_below_drewN | apply below_drew1) | exact HB.out))) HC.out (by have := HLEN.out; omega)).mono ?_); rintro e w8 ⟨rfl, hb⟩); have n0_ := Aside0.mk (Kd.R_below (by (with_reducible repeat (first | apply Kd.R_alloc | apply Kd.R_drewN | apply Kd.R_drew)); exact HO.out) hb); have n1_ := Aside0.mk (blk_below (by (with_reducible repeat (first | refine blk_drewN ?_ _ | refine blk_drew ?_ | refine blk_alloc ?_ _)); exact BK.out) hb); have n2_ := Aside0.mk (blk_below (by (with_reducible repeat (first | refine blk_drewN ?_ _ | refine blk_drew ?_ | refine blk_alloc ?_ _)); exact BQ.out) hb); have n3_ := Aside0.mk (below_step (by repeat (first | (with_reducible first | exact HB.out | apply below_alloc | apply pw_below_drewN | apply below_drew1) | exact HB.out)) hb); clear HB BK BQ HO hb; have HO := n0_; have BK := n1_; have BQ := n2_; have HB := n3_; clear n0_ n1_ n2_ n3_; (try clear hcz_0 hcz_1 hfz_0 hfz_1); (try clear hcq_0 hcq_1 hfq_0 hfq_1); have hcz_0 : w8.cell? ⟨gb, 0, none⟩ = some (.int .i64 a0) := (blk_cell BK.out 0).trans rfl; have hcz_1 : w8.cell? ⟨gb, 1, none⟩ = some (.slice A1 l1.length c1) := (blk_cell BK.out 1).trans rfl; have hfz_0 := blk_frozen BK.out 0; have hfz_1 := blk_frozen BK.out 1; have hcq_0 : w8.cell? ⟨gq, 0, none⟩ = some (.int .i64 a0) := (blk_cell BQ.out 0).trans rfl; have hcq_1 : w8.cell? ⟨gq, 1, none⟩ = some (.slice (some ⟨g, 0, none⟩) l1.length c) := (blk_cell BQ.out 1).trans rfl; have hfq_0 := blk_frozen BQ.out 0; have hfq_1 := blk_frozen BQ.out 1))
  by_cases hz : l1 = []
  · have hz0 : ((l1.length : Int) == 0) = true := by subst hz; rfl
    have hz1 : (l1.length == 0) = true := by subst hz; rfl
    clear hz
    go_wp2
    go_ret
    exact ⟨rfl, (by repeat (first | (with_reducible first | exact HB.out | apply below_alloc | apply pw_below_drewN | apply below_drew1) | exact HB.out))⟩
  · have hp : 0 < l1.length := List.length_pos_iff.2 hz
    obtain ⟨e1, e2, hk2⟩ := HL2.out hz
    have hz0 : ((l1.length : Int) == 0) = false := beq_eq_false_iff_ne.2 (by omega)
    have hz1 : (l1.length == 0) = false := beq_eq_false_iff_ne.2 (by omega)
    have hz2 : l1.isEmpty = false := by cases l1 with | nil => exact absurd rfl hz | cons _ _ => rfl
    have E1 := Aside0.mk e1
    have HK2 := Aside0.mk hk2
    have HM2 := Aside0.mk (q_first a0 w gb gq g c A1 c1 l1 l2 w8 HB.out BK.out BQ.out HO.out e2)
    have hcg : w8.cell? ⟨g, 0, none⟩ = some (.int .i64 (rd (l1 ++ [-77]) 0)) := by
      obtain ⟨ad, ea, hx⟩ := Kd.at_int (reads_of HO.out).1 0 (by omega) (by rw [List.length_append]; simp only [List.length_cons, List.length_nil]; omega)
      cases ea
      exact hx
    have hfg : w8.frozen? ⟨g, 0, none⟩ = false := by
      obtain ⟨g', cap', ee, _, _, cells, hx⟩ := Kd.R_form HO.out (by simp)
      have eg : g' = g := by simp only [Value.slice.injEq, Option.some.injEq, Addr.mk.injEq] at ee; exact ee.1.1.symm
      subst eg
      exact blk_frozen hx 0
    clear e1 e2 hk2 hp hz
    go_upto_region 10 with (fail)
    refine sum_wp HM2.out ?_
    clear HB BK BQ HO HM2 hcg hfg
    clear hcz_0 hcz_1 hfz_0 hfz_1 hcq_0 hcq_1 hfq_0 hfq_1
    intro w9 hs
    obtain ⟨hs1, hs2, hs3, hs4⟩ := hs
    have n0_ := Aside0.mk (hs1); have n1_ := Aside0.mk (hs2); have n2_ := Aside0.mk (hs3); have n3_ := Aside0.mk (hs4); clear hs1 hs2 hs3 hs4; have HB := n0_; have BK := n1_; have BQ := n2_; have HO := n3_; clear n0_ n1_ n2_ n3_
    have hcut := cut_own (g := g) (c := c) (n := l1.length) GCAP.out
    refine start_ (n := 15) (S := fun w' => w'.cell? ⟨gb, 0, none⟩ = some (.int .i64 a0) ∧ w'.cell? ⟨gb, 1, none⟩ = some (.slice A1 l1.length c1) ∧ w'.cell? ⟨gq, 0, none⟩ = some (.int .i64 a0) ∧ w'.cell? ⟨gq, 1, none⟩ = some (.slice (some ⟨g, 0, none⟩) l1.length c)) (ds := []) #[false, false, false, false, false, false, false, false, false, false, false, false, false, false, false] (by kernel_rfl) rfl rfl ⟨(blk_cell BK.out 0).trans rfl, (blk_cell BK.out 1).trans rfl, (blk_cell BQ.out 0).trans rfl, (blk_cell BQ.out 1).trans rfl⟩ (fun hHeld => ?_)
    refine pure_ (i := 2) (N := some 35) (v := ?_) (a' := ?_) #[false, false, true, false, false, false, false, false, false, false, false, false, false, false, false] rfl rfl (by kernel_rfl) (fun _ _ _ h => h) (Or.inl ⟨by rfl, ?_⟩) ?_ ?_
    rotate_left
    · intro w'
      go_simp
      with_reducible rfl
    rotate_left
    · simp only [Act.put, List.setIfInBounds_toArray, List.set_cons_zero, List.set_cons_succ, i64_w, i32_w]
      rfl
    refine pure_ (i := 5) (N := some 38) (v := ?_) (a' := ?_) #[false, false, true, false, false, true, false, false, false, false, false, false, false, false, false] rfl rfl (by kernel_rfl) (fun _ _ _ h => h) (Or.inl ⟨by rfl, ?_⟩) ?_ ?_
    rotate_left
    · intro w'
      go_simp
      with_reducible rfl
    rotate_left
    · simp only [Act.put, List.setIfInBounds_toArray, List.set_cons_zero, List.set_cons_succ, i64_w, i32_w]
      rfl
    refine pure_ (i := 6) (N := some 39) (v := ?_) (a' := ?_) #[false, false, true, false, false, true, true, false, false, false, false, false, false, false, false] rfl rfl (by kernel_rfl) (fun _ _ _ h => h) (Or.inl ⟨by rfl, ?_⟩) ?_ ?_
    rotate_left
    · intro w'
      go_simp
      with_reducible rfl
    rotate_left
    · simp only [Act.put, List.setIfInBounds_toArray, List.set_cons_zero, List.set_cons_succ, i64_w, i32_w]
      rfl
    refine take_ (i := 0) (N := some 33) (v := ?_) (a' := ?_) #[true, false, true, false, false, true, true, false, false, false, false, false, false, false, false] rfl rfl (by kernel_rfl) (fun _ _ _ h => h) (Or.inl ⟨by rfl, ?_⟩) hHeld ?_ ?_
    rotate_left
    · rintro w' ⟨s0, s1, s2, s3⟩
      go_simp
      with_reducible rfl
    rotate_left
    · simp only [Act.put, List.setIfInBounds_toArray, List.set_cons_zero, List.set_cons_succ, i64_w, i32_w]
      rfl
    refine take_ (i := 3) (N := some 36) (v := ?_) (a' := ?_) #[true, false, true, true, false, true, true, false, false, false, false, false, false, false, false] rfl rfl (by kernel_rfl) (fun _ _ _ h => h) (Or.inl ⟨by rfl, ?_⟩) hHeld ?_ ?_
    rotate_left
    · rintro w' ⟨s0, s1, s2, s3⟩
      go_simp
      with_reducible rfl
    rotate_left
    · simp only [Act.put, List.setIfInBounds_toArray, List.set_cons_zero, List.set_cons_succ, i64_w, i32_w]
      rfl
    refine take_ (i := 7) (N := some 40) (v := ?_) (a' := ?_) #[true, false, true, true, false, true, true, true, false, false, false, false, false, false, false] rfl rfl (by kernel_rfl) (fun _ _ _ h => h) (Or.inl ⟨by rfl, ?_⟩) hHeld ?_ ?_
    rotate_left
    · rintro w' ⟨s0, s1, s2, s3⟩
      go_simp
      with_reducible rfl
    rotate_left
    · simp only [Act.put, List.setIfInBounds_toArray, List.set_cons_zero, List.set_cons_succ, i64_w, i32_w]
      rfl
    refine pure_ (i := 8) (N := some 41) (v := ?_) (a' := ?_) #[true, false, true, true, false, true, true, true, true, false, false, false, false, false, false] rfl rfl (by kernel_rfl) (fun _ _ _ h => h) (Or.inl ⟨by rfl, ?_⟩) ?_ ?_
    rotate_left
    · intro w'
      go_simp
      with_reducible rfl
    rotate_left
    · simp only [Act.put, List.setIfInBounds_toArray, List.set_cons_zero, List.set_cons_succ, i64_w, i32_w]
      rfl
    refine pure_ (i := 9) (N := some 42) (v := ?_) (a' := ?_) #[true, false, true, true, false, true, true, true, true, true, false, false, false, false, false] rfl rfl (by kernel_rfl) (fun _ _ _ h => h) (Or.inl ⟨by rfl, ?_⟩) ?_ ?_
    rotate_left
    · intro w'
      go_simp
      with_reducible rfl
    rotate_left
    · simp only [Act.put, List.setIfInBounds_toArray, List.set_cons_zero, List.set_cons_succ, i64_w, i32_w]
      rfl
    refine join_ (σ := Value) 5 #[true, true, true, true, true, true, true, true, true, true, false, false, false, false, false] (fun s_ => [(34, .string (textOf a0 l2)), (37, s_)]) (fun s_ w' => (w'.cell? ⟨gb, 0, none⟩ = some (.int .i64 a0) ∧ w'.cell? ⟨gb, 1, none⟩ = some (.slice A1 l1.length c1) ∧ w'.cell? ⟨gq, 0, none⟩ = some (.int .i64 a0) ∧ w'.cell? ⟨gq, 1, none⟩ = some (.slice (some ⟨g, 0, none⟩) l1.length c)) ∧ Aside0 (Below w.heap.size w w') ∧ Aside0 (w'.heap[gb]? = some (.cells #[.int .i64 a0, .slice A1 l1.length c1] 25 (0, 0))) ∧ Aside0 (w'.heap[gq]? = some (.cells #[.int .i64 a0, .slice (some ⟨g, 0, none⟩) l1.length c] 25 (0, 0))) ∧ Aside0 (Kd.R (Kd.int .i64) 2 w' w.heap.size (fun _ => True) (.slice (some ⟨g, 0, none⟩) (l1.length + 1) c) (l2 ++ [-77])) ∧ Aside0 (Kd.R (Kd.int .i64) 2 w' w.heap.size (fun _ => True) s_ [])) ?_ ?_
    rotate_left
    · intro hCont
      refine two_ (i := 1) (j := 4) (Ni := some 34) (Nj := some 37) #[true, true, true, true, false, true, true, true, true, true, false, false, false, false, false] #[true, false, true, true, true, true, true, true, true, true, false, false, false, false, false] rfl rfl rfl rfl (by kernel_rfl) (by decide) (by decide) (fun K hK => ?_) (fun K hK => ?_)
      · skip
        refine goes_ Tryd.func6 (by kernel_rfl) rfl #[.agg #[.int .i64 a0, .slice (some ⟨g, 0, none⟩) l1.length c]] (by rfl) rfl rfl (by simp only [List.map_toArray, List.map_cons, List.map_nil]; rfl) ?_
        with_reducible refine (show_n a0 (some ⟨g, 0, none⟩) c l1.length l2 E1.out _ (take_of (by (with_reducible repeat (first | apply Kd.R_alloc | apply Kd.R_drewN | apply Kd.R_drew)); exact HO.out)) (by have := GCAP.out; omega) (PowAt_below HP.out (by repeat (first | (with_reducible first | exact HB.out | apply below_alloc | apply pw_below_drewN | apply below_drew1) | exact HB.out))) HK2.out).mono ?_
        rintro e w10 ⟨rfl, hb⟩
        refine ⟨_, rfl, ?_⟩
        have n0_ := Aside0.mk (Kd.R_below (by (with_reducible repeat (first | apply Kd.R_alloc | apply Kd.R_drewN | apply Kd.R_drew)); exact HO.out) hb)
        have n1_ := Aside0.mk (blk_below (by (with_reducible repeat (first | refine blk_drewN ?_ _ | refine blk_drew ?_ | refine blk_alloc ?_ _)); exact BK.out) hb)
        have n2_ := Aside0.mk (blk_below (by (with_reducible repeat (first | refine blk_drewN ?_ _ | refine blk_drew ?_ | refine blk_alloc ?_ _)); exact BQ.out) hb)
        have n3_ := Aside0.mk (below_step (by repeat (first | (with_reducible first | exact HB.out | apply below_alloc | apply pw_below_drewN | apply below_drew1) | exact HB.out)) hb)
        clear HB BK BQ HO hb
        have HO := n0_
        have BK := n1_
        have BQ := n2_
        have HB := n3_
        clear n0_ n1_ n2_ n3_
        refine hK.out _ _ ⟨(blk_cell BK.out 0).trans rfl, (blk_cell BK.out 1).trans rfl, (blk_cell BQ.out 0).trans rfl, (blk_cell BQ.out 1).trans rfl⟩ (fun hHeld => ?_)
        clear hK K
        refine norm_ (a' := ?_) ?_ ?_
        rotate_left
        · show Act.put _ (some 34) _ = _
          simp only [Act.put, List.setIfInBounds_toArray, List.set_cons_zero, List.set_cons_succ, i64_w, i32_w]
          rfl
        refine one_ (i := 4) (N := some 37) #[true, true, true, true, true, true, true, true, true, true, false, false, false, false, false] rfl rfl (by kernel_rfl) (by decide) (fun K hK => ?_)
        refine Kd.R_lit_step (Kd.int .i64) (w0 := w) w.heap.size 2 (by rfl) (N := 37) rfl (xs := ([] : List Int)) (inner := []) (ok := fun _ => True) (okp := fun _ => False) ?hr (Reps.none _ _) (fun _ hk => hk.elim) trivial ?hB ?hS (by simp) ?_
        (case hr => first | (go_simp; done) | (go_simp; rfl))
        (case hB => exact (by repeat (first | (with_reducible first | exact HB.out | apply below_alloc | apply pw_below_drewN | apply below_drew1) | exact HB.out)))
        (case hS => exact below_size (by repeat (first | (with_reducible first | exact HB.out | apply below_alloc | apply pw_below_drewN | apply below_drew1) | exact HB.out)))
        intro v37 w11 ho hb hg hat
        have n0_ := Aside0.mk (Kd.R_grown (by (with_reducible repeat (first | apply Kd.R_alloc | apply Kd.R_drewN | apply Kd.R_drew)); exact HO.out) hg (fun _ _ => by simp))
        have n1_ := Aside0.mk ((hg.block gb (blk_lt ((by (with_reducible repeat (first | refine blk_drewN ?_ _ | refine blk_drew ?_ | refine blk_alloc ?_ _)); exact BK.out) : (_ : World).heap[gb]? = _)) (by simp)).trans (by (with_reducible repeat (first | refine blk_drewN ?_ _ | refine blk_drew ?_ | refine blk_alloc ?_ _)); exact BK.out))
        have n2_ := Aside0.mk ((hg.block gq (blk_lt ((by (with_reducible repeat (first | refine blk_drewN ?_ _ | refine blk_drew ?_ | refine blk_alloc ?_ _)); exact BQ.out) : (_ : World).heap[gq]? = _)) (by simp)).trans (by (with_reducible repeat (first | refine blk_drewN ?_ _ | refine blk_drew ?_ | refine blk_alloc ?_ _)); exact BQ.out))
        have n3_ := Aside0.mk (hb)
        have n4_ := Aside0.mk (ho)
        clear HB BK BQ HO hb ho hg hat
        have HO := n0_
        have BK := n1_
        have BQ := n2_
        have HB := n3_
        have HN := n4_
        clear n0_ n1_ n2_ n3_ n4_
        refine hK.out _ _ ⟨(blk_cell BK.out 0).trans rfl, (blk_cell BK.out 1).trans rfl, (blk_cell BQ.out 0).trans rfl, (blk_cell BQ.out 1).trans rfl⟩ (fun hHeld => ?_)
        clear hK K
        refine norm_ (a' := ?_) ?_ ?_
        rotate_left
        · show Act.put _ (some 37) _ = _
          simp only [Act.put, List.setIfInBounds_toArray, List.set_cons_zero, List.set_cons_succ, i64_w, i32_w]
          rfl
        exact norm_ (by simp only [putAll, Act.put, List.setIfInBounds_toArray, List.set_cons_zero, List.set_cons_succ]) (hCont v37 _ ⟨⟨(blk_cell BK.out 0).trans rfl, (blk_cell BK.out 1).trans rfl, (blk_cell BQ.out 0).trans rfl, (blk_cell BQ.out 1).trans rfl⟩, HB, BK, BQ, HO, HN⟩)
      · skip
        refine Kd.R_lit_step (Kd.int .i64) (w0 := w) w.heap.size 2 (by rfl) (N := 37) rfl (xs := ([] : List Int)) (inner := []) (ok := fun _ => True) (okp := fun _ => False) ?hr (Reps.none _ _) (fun _ hk => hk.elim) trivial ?hB ?hS (by simp) ?_
        (case hr => first | (go_simp; done) | (go_simp; rfl))
        (case hB => exact (by repeat (first | (with_reducible first | exact HB.out | apply below_alloc | apply pw_below_drewN | apply below_drew1) | exact HB.out)))
        (case hS => exact below_size (by repeat (first | (with_reducible first | exact HB.out | apply below_alloc | apply pw_below_drewN | apply below_drew1) | exact HB.out)))
        intro v37 w11 ho hb hg hat
        have n0_ := Aside0.mk (Kd.R_grown (by (with_reducible repeat (first | apply Kd.R_alloc | apply Kd.R_drewN | apply Kd.R_drew)); exact HO.out) hg (fun _ _ => by simp))
        have n1_ := Aside0.mk ((hg.block gb (blk_lt ((by (with_reducible repeat (first | refine blk_drewN ?_ _ | refine blk_drew ?_ | refine blk_alloc ?_ _)); exact BK.out) : (_ : World).heap[gb]? = _)) (by simp)).trans (by (with_reducible repeat (first | refine blk_drewN ?_ _ | refine blk_drew ?_ | refine blk_alloc ?_ _)); exact BK.out))
        have n2_ := Aside0.mk ((hg.block gq (blk_lt ((by (with_reducible repeat (first | refine blk_drewN ?_ _ | refine blk_drew ?_ | refine blk_alloc ?_ _)); exact BQ.out) : (_ : World).heap[gq]? = _)) (by simp)).trans (by (with_reducible repeat (first | refine blk_drewN ?_ _ | refine blk_drew ?_ | refine blk_alloc ?_ _)); exact BQ.out))
        have n3_ := Aside0.mk (hb)
        have n4_ := Aside0.mk (ho)
        clear HB BK BQ HO hb ho hg hat
        have HO := n0_
        have BK := n1_
        have BQ := n2_
        have HB := n3_
        have HN := n4_
        clear n0_ n1_ n2_ n3_ n4_
        refine hK.out _ _ ⟨(blk_cell BK.out 0).trans rfl, (blk_cell BK.out 1).trans rfl, (blk_cell BQ.out 0).trans rfl, (blk_cell BQ.out 1).trans rfl⟩ (fun hHeld => ?_)
        clear hK K
        refine norm_ (a' := ?_) ?_ ?_
        rotate_left
        · show Act.put _ (some 37) _ = _
          simp only [Act.put, List.setIfInBounds_toArray, List.set_cons_zero, List.set_cons_succ, i64_w, i32_w]
          rfl
        refine one_ (i := 1) (N := some 34) #[true, true, true, true, true, true, true, true, true, true, false, false, false, false, false] rfl rfl (by kernel_rfl) (by decide) (fun K hK => ?_)
        refine goes_ Tryd.func6 (by kernel_rfl) rfl #[.agg #[.int .i64 a0, .slice (some ⟨g, 0, none⟩) l1.length c]] (by rfl) rfl rfl (by simp only [List.map_toArray, List.map_cons, List.map_nil]; rfl) ?_
        with_reducible refine (show_n a0 (some ⟨g, 0, none⟩) c l1.length l2 E1.out _ (take_of (by (with_reducible repeat (first | apply Kd.R_alloc | apply Kd.R_drewN | apply Kd.R_drew)); exact HO.out)) (by have := GCAP.out; omega) (PowAt_below HP.out (by repeat (first | (with_reducible first | exact HB.out | apply below_alloc | apply pw_below_drewN | apply below_drew1) | exact HB.out))) HK2.out).mono ?_
        rintro e w10 ⟨rfl, hb⟩
        refine ⟨_, rfl, ?_⟩
        have n0_ := Aside0.mk (Kd.R_below (by (with_reducible repeat (first | apply Kd.R_alloc | apply Kd.R_drewN | apply Kd.R_drew)); exact HO.out) hb)
        have n1_ := Aside0.mk (blk_below (by (with_reducible repeat (first | refine blk_drewN ?_ _ | refine blk_drew ?_ | refine blk_alloc ?_ _)); exact BK.out) hb)
        have n2_ := Aside0.mk (blk_below (by (with_reducible repeat (first | refine blk_drewN ?_ _ | refine blk_drew ?_ | refine blk_alloc ?_ _)); exact BQ.out) hb)
        have n3_ := Aside0.mk (below_step (by repeat (first | (with_reducible first | exact HB.out | apply below_alloc | apply pw_below_drewN | apply below_drew1) | exact HB.out)) hb)
        have n4_ := Aside0.mk (Kd.R_below (by (with_reducible repeat (first | apply Kd.R_alloc | apply Kd.R_drewN | apply Kd.R_drew)); exact HN.out) hb)
        clear HB BK BQ HO hb HN
        have HO := n0_
        have BK := n1_
        have BQ := n2_
        have HB := n3_
        have HN := n4_
        clear n0_ n1_ n2_ n3_ n4_
        refine hK.out _ _ ⟨(blk_cell BK.out 0).trans rfl, (blk_cell BK.out 1).trans rfl, (blk_cell BQ.out 0).trans rfl, (blk_cell BQ.out 1).trans rfl⟩ (fun hHeld => ?_)
        clear hK K
        refine norm_ (a' := ?_) ?_ ?_
        rotate_left
        · show Act.put _ (some 34) _ = _
          simp only [Act.put, List.setIfInBounds_toArray, List.set_cons_zero, List.set_cons_succ, i64_w, i32_w]
          rfl
        exact norm_ (by simp only [putAll, Act.put, List.setIfInBounds_toArray, List.set_cons_zero, List.set_cons_succ]) (hCont v37 _ ⟨⟨(blk_cell BK.out 0).trans rfl, (blk_cell BK.out 1).trans rfl, (blk_cell BQ.out 0).trans rfl, (blk_cell BQ.out 1).trans rfl⟩, HB, BK, BQ, HO, HN⟩)
    clear HB BK BQ HO
    rintro v37 w12 ⟨hS_, HB, BK, BQ, HO, HN⟩
    have hHeld := hS_
    clear hS_
    refine norm_ (a' := ?_) ?_ ?_
    rotate_left
    · simp only [putAll, Act.put, List.setIfInBounds_toArray, List.set_cons_zero, List.set_cons_succ]
      rfl
    refine one_ (i := 10) (N := some 43) #[true, true, true, true, true, true, true, true, true, true, true, false, false, false, false] rfl rfl (by kernel_rfl) (by decide) (fun K hK => ?_)
    refine Kd.R_append_rows_step (Kd.int .i64) (w0 := w) w.heap.size (by rfl) (.tmp 37) (.tmp 42) 23 2 (.int .i64 0) 8 rfl Tryd.underlying23 info2 rfl (by decide) (by omega) v37 [] l2 (some ⟨g, 0, none⟩) l1.length c (fun _ => True) (fun _ => False) rfl rfl ?aO ?aR (fun _ _ h => h) (fun _ h => h.elim) (fun _ _ => trivial) ?aB ?aS ?aL ?_
    (case aO => exact (by (with_reducible repeat (first | apply Kd.R_alloc | apply Kd.R_drewN | apply Kd.R_drew)); exact HN.out))
    (case aR => rw [← E1.out]; exact take_of (by (with_reducible repeat (first | apply Kd.R_alloc | apply Kd.R_drewN | apply Kd.R_drew)); exact HO.out))
    (case aB => exact (by repeat (first | (with_reducible first | exact HB.out | apply below_alloc | apply pw_below_drewN | apply below_drew1) | exact HB.out)))
    (case aS => exact below_size (by repeat (first | (with_reducible first | exact HB.out | apply below_alloc | apply pw_below_drewN | apply below_drew1) | exact HB.out)))
    (case aL => have := HLEN.out; simp only [List.length_nil]; omega)
    intro v43 w13 ho hb hg hat
    rw [List.nil_append] at ho
    have n2_ : w13.heap[gb]? = some (.cells #[.int .i64 a0, .slice A1 l1.length c1] 25 (0, 0)) := (by refine grown_keep (base := w.heap.size) (ok := fun _ => True) (xs := []) hg ?_ ?_ (by decide); exact (by (with_reducible repeat (first | refine blk_drewN ?_ _ | refine blk_drew ?_ | refine blk_alloc ?_ _)); exact BK.out); exact (by (with_reducible repeat (first | apply Kd.R_alloc | apply Kd.R_drewN | apply Kd.R_drew)); exact HN.out))
    have n3_ : w13.heap[gq]? = some (.cells #[.int .i64 a0, .slice (some ⟨g, 0, none⟩) l1.length c] 25 (0, 0)) := (by refine grown_keep (base := w.heap.size) (ok := fun _ => True) (xs := []) hg ?_ ?_ (by decide); exact (by (with_reducible repeat (first | refine blk_drewN ?_ _ | refine blk_drew ?_ | refine blk_alloc ?_ _)); exact BQ.out); exact (by (with_reducible repeat (first | apply Kd.R_alloc | apply Kd.R_drewN | apply Kd.R_drew)); exact HN.out))
    clear HB BK BQ HO HN
    have HB := Aside0.mk hb
    have BK := Aside0.mk n2_
    have BQ := Aside0.mk n3_
    have HN := Aside0.mk ho
    clear hb n2_ n3_ ho hg hat
    obtain ⟨A3, c3, e3, hc3, _⟩ := Kd.R_reads HN.out
    subst e3
    have HC3 := Aside0.mk hc3
    clear hc3
    refine hK.out _ _ ⟨(blk_cell BK.out 0).trans rfl, (blk_cell BK.out 1).trans rfl, (blk_cell BQ.out 0).trans rfl, (blk_cell BQ.out 1).trans rfl⟩ (fun hHeld => ?_)
    clear hK K
    refine norm_ (a' := ?_) ?_ ?_
    rotate_left
    · show Act.put _ (some 43) _ = _
      simp only [Act.put, List.setIfInBounds_toArray, List.set_cons_zero, List.set_cons_succ, i64_w, i32_w]
      rfl
    refine pure_ (i := 11) (N := some 44) (v := ?_) (a' := ?_) #[true, true, true, true, true, true, true, true, true, true, true, true, false, false, false] rfl rfl (by kernel_rfl) (fun _ _ _ h => h) (Or.inl ⟨by rfl, ?_⟩) ?_ ?_
    rotate_left
    · intro w'
      go_simp
      with_reducible rfl
    rotate_left
    · simp only [Act.put, List.setIfInBounds_toArray, List.set_cons_zero, List.set_cons_succ, i64_w, i32_w]
      rfl
    refine one_ (i := 12) (N := some 45) #[true, true, true, true, true, true, true, true, true, true, true, true, true, false, false] rfl rfl (by kernel_rfl) (by decide) (fun K hK => ?_)
    refine goes_ Tryd.func7 (by kernel_rfl) rfl #[.agg #[.int .i64 a0, .slice A3 l2.length c3]] (by rfl) rfl rfl (by simp only [List.map_toArray, List.map_cons, List.map_nil]; rfl) ?_
    with_reducible refine (ref_n a0 A3 c3 l2.length l2 rfl _ (Kd.R_reads' (by (with_reducible repeat (first | apply Kd.R_alloc | apply Kd.R_drewN | apply Kd.R_drew)); exact HN.out)).2.2 HC3.out HK2.out).mono ?_
    rintro e w14 ⟨rfl, hb⟩
    refine ⟨_, rfl, ?_⟩
    have n0_ := Aside0.mk (blk_below (by (with_reducible repeat (first | refine blk_drewN ?_ _ | refine blk_drew ?_ | refine blk_alloc ?_ _)); exact BK.out) hb)
    have n1_ := Aside0.mk (blk_below (by (with_reducible repeat (first | refine blk_drewN ?_ _ | refine blk_drew ?_ | refine blk_alloc ?_ _)); exact BQ.out) hb)
    have n2_ := Aside0.mk (below_step (by repeat (first | (with_reducible first | exact HB.out | apply below_alloc | apply pw_below_drewN | apply below_drew1) | exact HB.out)) hb)
    clear HB BK BQ hb
    have BK := n0_
    have BQ := n1_
    have HB := n2_
    clear n0_ n1_ n2_
    refine hK.out _ _ ⟨(blk_cell BK.out 0).trans rfl, (blk_cell BK.out 1).trans rfl, (blk_cell BQ.out 0).trans rfl, (blk_cell BQ.out 1).trans rfl⟩ (fun hHeld => ?_)
    clear hK K
    refine norm_ (a' := ?_) ?_ ?_
    rotate_left
    · show Act.put _ (some 45) _ = _
      simp only [Act.put, List.setIfInBounds_toArray, List.set_cons_zero, List.set_cons_succ, i64_w, i32_w]
      rfl
    refine pure_ (i := 13) (N := some 46) (v := ?_) (a' := ?_) #[true, true, true, true, true, true, true, true, true, true, true, true, true, true, false] rfl rfl (by kernel_rfl) (fun _ _ _ h => h) (Or.inl ⟨by rfl, ?_⟩) ?_ ?_
    rotate_left
    · intro w'
      go_simp
      with_reducible rfl
    rotate_left
    · simp only [Act.put, List.setIfInBounds_toArray, List.set_cons_zero, List.set_cons_succ, i64_w, i32_w]
      rfl
    refine pure_ (i := 14) (N := some 2) (v := ?_) (a' := ?_) #[true, true, true, true, true, true, true, true, true, true, true, true, true, true, true] rfl rfl (by kernel_rfl) (fun _ _ _ h => h) (Or.inl ⟨by rfl, ?_⟩) ?_ ?_
    rotate_left
    · intro w'
      go_simp
      with_reducible rfl
    rotate_left
    · simp only [Act.put, List.setIfInBounds_toArray, List.set_cons_zero, List.set_cons_succ, i64_w, i32_w]
      rfl
    refine done_ (by kernel_rfl) ?_

    go_wp2
    go_ret
    exact ⟨rfl, (by repeat (first | (with_reducible first | exact HB.out | apply below_alloc | apply pw_below_drewN | apply below_drew1) | exact HB.out))⟩
theorem law_walk (a0 : Int) (A1 : Option Addr) (c1 : Nat) (l1 : List Int) (w : World) (hr0 : Kd.C (Kd.int .i64) w A1 l1.length l1) (hc0 : l1.length ≤ c1) (ha : -9223372036854775808 ≤ a0 ∧ a0 ≤ 9223372036854775807) (hl : ∀ x ∈ l1, -9223372036854775808 ≤ x ∧ x ≤ 9223372036854775807) (hP : PowAt w) :
    Calls Tryd.prog 3 #[.agg #[.int .i64 a0, .slice A1 l1.length c1]] w fun e w' => e = .returned (.bool true) ∧ Below w.heap.size w w' := by
  by_cases h : 200000 < l1.length
  · exact long_walk a0 A1 c1 l1 w hr0 h
  · refine short_walk a0 A1 c1 l1 w hr0 hc0 ⟨ha, hl, by omega⟩ hP h (5 :: l1.drop 1) (fun hne => ?_)
    cases l1 with
    | nil => exact absurd rfl hne
    | cons x l =>
      refine ⟨rfl, rfl, ha, fun y hy => ?_, by simp only [List.length_cons, List.drop_one, List.tail_cons] at h ⊢; omega⟩
      · rcases List.mem_cons.1 hy with rfl | hy
        · decide
        · exact hl y (List.mem_cons_of_mem _ hy)
end Go.Proofs.YtpglakfafanhoaaDoor.SShows
