/- arrearslaw18.ScriptReadsBack by hand: the law returns true. Conditions: the reply can be read, the table of powers of ten stands. -/
import Derived.Test.YtpglakfafanhoaaDoorSOwn
import Derived.Test.YtpglakfafanhoaaDoorSBackN
import Derived.Test.YtpglakfafanhoaaDoorSShows
import Derived.Test.YtpglakfafanhoaaDoorPAx4
namespace Go.Proofs.YtpglakfafanhoaaDoor.SBack
open Go.RowKit Go.Proofs.YtpglakfafanhoaaDoorW.PrintWords Go.Proofs.YtpglakfafanhoaaDoorW.PrintLast Go.Proofs.YtpglakfafanhoaaDoorW.PrintMore Go.Proofs.YtpglakfafanhoaaDoor.PA Go.Proofs.YtpglakfafanhoaaDoor.SOwn Go.Proofs.YtpglakfafanhoaaDoor.SNum Go.Proofs.YtpglakfafanhoaaDoor.SBackN Go.Proofs.YtpglakfafanhoaaDoor.SShows
set_option linter.unusedVariables false
set_option linter.unusedSimpArgs false

/-- The place in the text behind i numbers. -/
def pos (a0 : Int) (l : List Int) (i : Nat) : Nat := (headB a0 ++ tailB (l.take i)).length
theorem tailB_app (l m : List Int) : tailB (l ++ m) = tailB l ++ tailB m := by
  induction l with
  | nil => rfl
  | cons x l ih => simp [tailB, ih]
theorem text_parts (a0 : Int) (l : List Int) (i : Nat) (hi : i < l.length) : headB a0 ++ tailB l = (headB a0 ++ tailB (l.take i)) ++ 32 :: (Lib.itoa (rd l i) ++ tailB (l.drop (i + 1))) := by
  have h : l = l.take i ++ (rd l i :: l.drop (i + 1)) := by
    have hd : l.drop i = rd l (i : Int) :: l.drop (i + 1) := by
      rw [List.drop_eq_getElem_cons hi]
      congr 1
      unfold rd
      rw [Int.toNat_natCast, List.getD_eq_getElem?_getD, List.getElem?_eq_getElem hi]
      rfl
    rw [← hd, List.take_append_drop]
  conv => lhs; rw [h, tailB_app]
  simp [tailB]
theorem ends_tail (l : List Int) : SBackN.Ends (tailB l) := by
  cases l with
  | nil => exact .inl rfl
  | cons x l => exact .inr ⟨_, rfl⟩
theorem pos_lt (a0 : Int) (l : List Int) (i : Nat) (hi : i < l.length) : pos a0 l i < (textOf a0 l).size := by
  unfold textOf
  rw [ba_size, text_parts a0 l i hi]
  unfold pos
  simp
theorem at_blank (a0 : Int) (l : List Int) (i : Nat) (hi : i < l.length) : bt (textOf a0 l) (pos a0 l i : Int) = 32 := by
  unfold textOf
  rw [text_parts a0 l i hi]
  exact bt_mid _ _ 32
theorem text_small {a0 : Int} {l : List Int} (h : Okr a0 l) : (headB a0 ++ tailB l).length ≤ 6400000 := by
  have := tail_bound h l.length
  rw [List.take_length] at this
  exact this
theorem pos_next (a0 : Int) (l : List Int) (i : Nat) (hi : i < l.length) : pos a0 l (i + 1) = pos a0 l i + 1 + (Lib.itoa (rd l (i : Int))).length := by
  unfold pos
  rw [show i + 1 = ((i : Int) + 1).toNat by omega, rd_take (by omega) (by omega), tailB_snoc, show (i : Int).toNat = i by omega]
  simp
  omega
theorem at_number {a0 : Int} {l : List Int} (h : Okr a0 l) (i : Nat) (hi : i < l.length) (k : Nat) (hk : 60 ≤ k) : arrearslaw18_number.f k (textOf a0 l) ((pos a0 l i + 1 : Nat) : Int) = some (rd l (i : Int), (pos a0 l (i + 1) : Int)) := by
  have hm := h.2.1 _ (rd_in (l := l) (x := (i : Int)) (by omega) (by omega))
  have hs := text_small h
  have e := text_parts a0 l i hi
  have e2 : headB a0 ++ tailB l = ((headB a0 ++ tailB (l.take i)) ++ [32]) ++ Lib.itoa (rd l (i : Int)) ++ tailB (l.drop (i + 1)) := by rw [e]; simp
  have hn := number_at ((headB a0 ++ tailB (l.take i)) ++ [32]) (tailB (l.drop (i + 1))) (rd l (i : Int)) hm.1 hm.2 (ends_tail _) (by rw [← e2]; omega) k hk
  rw [← e2, List.length_append, List.length_singleton] at hn
  rw [pos_next a0 l i hi]
  exact hn
theorem at_error {a0 : Int} {l : List Int} (h : Okr a0 l) (h0 : a0 ≠ 0) (k : Nat) (hk : 60 ≤ k) : arrearslaw18_number.f k (textOf a0 l) 6 = some (a0, (pos a0 l 0 : Int)) := by
  have hs := text_small h
  have e : headB a0 = [101, 114, 114, 111, 114, 32] ++ Lib.itoa a0 := if_neg h0
  have hn := number_at [101, 114, 114, 111, 114, 32] (tailB l) a0 h.1.1 h.1.2 (ends_tail _) (by rw [← e]; omega) k hk
  unfold textOf pos
  rw [← e] at hn
  rw [e] at hn ⊢
  simp only [List.take_zero, tailB, List.append_nil]
  rw [List.length_append]
  exact hn
theorem pos_end (a0 : Int) (l : List Int) : (pos a0 l l.length : Int) = ((textOf a0 l).size : Int) := by
  unfold pos textOf
  rw [ba_size, List.take_length]
theorem front_ok {a0 : Int} (l : List Int) (h0 : a0 = 0) : (textOf a0 l).extract 0 2 = ⟨#[111, 107]⟩ ∧ 2 ≤ (textOf a0 l).size ∧ pos a0 l 0 = 2 := by
  have e : headB a0 = [111, 107] := if_pos h0
  refine ⟨?_, ?_, ?_⟩
  · refine ba (l := [111, 107]) ?_
    unfold textOf
    rw [e, ByteArray.data_extract]
    simp
  · unfold textOf; rw [ba_size, e]; simp
  · unfold pos; rw [e]; rfl
theorem front_error {a0 : Int} (l : List Int) (h0 : a0 ≠ 0) : (textOf a0 l).extract 0 6 = ⟨#[101, 114, 114, 111, 114, 32]⟩ ∧ 7 ≤ (textOf a0 l).size := by
  have e : headB a0 = [101, 114, 114, 111, 114, 32] ++ Lib.itoa a0 := if_neg h0
  refine ⟨?_, ?_⟩
  · refine ba (l := [101, 114, 114, 111, 114, 32]) ?_
    unfold textOf
    rw [e, ByteArray.data_extract]
    simp
  · unfold textOf
    rw [ba_size, e, itoa_digs a0 h0]
    obtain ⟨c, t, ec, _⟩ := digs_head a0.natAbs (by omega)
    rw [ec]
    simp only [List.length_append, List.length_cons, List.length_nil]
    omega
theorem number_c {s : ByteArray} {at_ r1 r2 : Int} (h : ∀ k, 60 ≤ k → arrearslaw18_number.f k s at_ = some (r1, r2)) (w : World) : Calls Tryd.prog 9 #[.string s, .int .i64 at_] w fun e w' => e = .returned (.tuple #[.int .i64 r1, .int .i64 r2]) ∧ Drawn0 w w' :=
  arrearslaw18_number.calls 60 s at_ r1 r2 w (h 60 (Nat.le_refl _))
theorem long_walk (a0 : Int) (A1 : Option Addr) (c1 : Nat) (l1 : List Int) (w : World) (hr0 : Kd.C (Kd.int .i64) w A1 l1.length l1) (hlen : 200000 < l1.length) :
    Calls Tryd.prog 4 #[.agg #[.int .i64 a0, .slice A1 l1.length c1]] w fun e w' => e = .returned (.bool true) ∧ Below w.heap.size w w' := by
  have hu25 := Tryd.underlying25
  have HB := Aside0.mk (Below.refl w.heap.size w)
  have b0 : decide ((200000 : Int) < (l1.length : Int)) = true := decide_eq_true (by omega)
  have b1 : decide (200000 < l1.length) = true := decide_eq_true hlen
  clear hr0
  go_enter Tryd.func4, Tryd.ntmps4
  go_wp2_with (first | ((with_reducible refine gate_dst (N := 1) rfl ?_); refine box_event ?hg (N := 1) ?hd (cs := #[.int .i64 a0, .slice A1 l1.length c1]) (t := 25) ?hr ?_; (case hd => rfl); (case hg => rfl); (case hr => first | (go_simp; done) | (go_simp; rfl)); intro gb hg w3 hbox hb; have n0_ := Aside0.mk (below_step (by repeat (first | (with_reducible first | exact HB.out | apply below_alloc | apply pw_below_drewN | apply below_drew1) | exact HB.out)) hb); have n1_ := Aside0.mk (hbox); clear HB hb hbox hg; have HB := n0_; have BK := n1_; clear n0_ n1_; have hcz_0 : w3.cell? ⟨gb, 0, none⟩ = some (.int .i64 a0) := (blk_cell BK.out 0).trans rfl; have hcz_1 : w3.cell? ⟨gb, 1, none⟩ = some (.slice A1 l1.length c1) := (blk_cell BK.out 1).trans rfl; have hfz_0 := blk_frozen BK.out 0; have hfz_1 := blk_frozen BK.out 1))
  go_ret
  exact ⟨rfl, (by repeat (first | (with_reducible first | exact HB.out | apply below_alloc | apply pw_below_drewN | apply below_drew1) | exact HB.out))⟩
set_option maxHeartbeats 16000000 in
set_option maxRecDepth 100000 in
theorem short_walk (a0 : Int) (A1 : Option Addr) (c1 : Nat) (l1 : List Int) (w : World) (hr0 : Kd.C (Kd.int .i64) w A1 l1.length l1) (hc0 : l1.length ≤ c1) (hk : Okr a0 l1) (hP : PowAt w) (hlen : ¬ 200000 < l1.length) :
    Calls Tryd.prog 4 #[.agg #[.int .i64 a0, .slice A1 l1.length c1]] w fun e w' => e = .returned (.bool true) ∧ Below w.heap.size w w' := by
  have HR := Aside0.mk hr0
  have HC := Aside0.mk hc0
  have HK := Aside0.mk hk
  have HP := Aside0.mk hP
  have hts := text_small hk
  have htsz : (textOf a0 l1).size ≤ 6400000 := by unfold textOf; rw [ba_size]; exact hts
  have HTS := Aside0.mk htsz
  clear hr0 hc0 hk hP hts htsz
  have hu25 := Tryd.underlying25
  have HB := Aside0.mk (Below.refl w.heap.size w)
  have b0 : decide ((200000 : Int) < (l1.length : Int)) = false := decide_eq_false (by omega)
  have b1 : decide (200000 < l1.length) = false := decide_eq_false hlen
  have HLEN := Aside0.mk hlen
  clear hlen
  by_cases ha : a0 = 0
  · have b2 : (a0 == 0) = true := beq_iff_eq.2 ha
    obtain ⟨f1, f2, f3⟩ := front_ok l1 ha
    have HPOS := Aside0.mk f3
    have f4 : decide ((textOf a0 l1).size < 2) = false := decide_eq_false (by omega)
    have f5 : decide (((textOf a0 l1).size : Int) < 2) = false := decide_eq_false (by omega)
    have f6 : (2 : Int) ≤ ((textOf a0 l1).size : Int) := by omega
    clear f3 ha
    go_enter Tryd.func4, Tryd.ntmps4
    go_wp2_with (first | ((with_reducible refine gate_dst (N := 1) rfl ?_); refine box_event ?hg (N := 1) ?hd (cs := #[.int .i64 a0, .slice A1 l1.length c1]) (t := 25) ?hr ?_; (case hd => rfl); (case hg => rfl); (case hr => first | (go_simp; done) | (go_simp; rfl)); intro gb hg w3 hbox hb; have n0_ := Aside0.mk (below_step (by repeat (first | (with_reducible first | exact HB.out | apply below_alloc | apply pw_below_drewN | apply below_drew1) | exact HB.out)) hb); have n1_ := Aside0.mk (hbox); clear HB hb hbox hg; have HB := n0_; have BK := n1_; clear n0_ n1_; have hcz_0 : w3.cell? ⟨gb, 0, none⟩ = some (.int .i64 a0) := (blk_cell BK.out 0).trans rfl; have hcz_1 : w3.cell? ⟨gb, 1, none⟩ = some (.slice A1 l1.length c1) := (blk_cell BK.out 1).trans rfl; have hfz_0 := blk_frozen BK.out 0; have hfz_1 := blk_frozen BK.out 1) | (go_at_call 5; ((with_reducible refine (ownReply_calls a0 A1 c1 l1 _ (Kd.C_below HR.out (by repeat (first | (with_reducible first | exact HB.out | apply below_alloc | apply pw_below_drewN | apply below_drew1) | exact HB.out))) (by have := HLEN.out; omega)).mono ?_); rintro e w5 ⟨g, c, rfl, ho, hb⟩); have n0_ := Aside0.mk (Kd.R_lower ho (below_size (by repeat (first | (with_reducible first | exact HB.out | apply below_alloc | apply pw_below_drewN | apply below_drew1) | exact HB.out)))); have n1_ := Aside0.mk (Kd.R_base ho g (by simp [Value.ownBlock])); have n2_ := Aside0.mk ((Kd.R_reads' ho).2.1); have n3_ := Aside0.mk (blk_below (by (with_reducible repeat (first | refine blk_drewN ?_ _ | refine blk_drew ?_ | refine blk_alloc ?_ _)); exact BK.out) hb); have n4_ := Aside0.mk (below_step (by repeat (first | (with_reducible first | exact HB.out | apply below_alloc | apply pw_below_drewN | apply below_drew1) | exact HB.out)) hb); clear HB BK ho hb; have HO := n0_; have GL := n1_; have GCAP := n2_; have BK := n3_; have HB := n4_; clear n0_ n1_ n2_ n3_ n4_; (try clear hcz_0 hcz_1 hfz_0 hfz_1); (try clear hcq_0 hcq_1 hfq_0 hfq_1); have hcz_0 : w5.cell? ⟨gb, 0, none⟩ = some (.int .i64 a0) := (blk_cell BK.out 0).trans rfl; have hcz_1 : w5.cell? ⟨gb, 1, none⟩ = some (.slice A1 l1.length c1) := (blk_cell BK.out 1).trans rfl; have hfz_0 := blk_frozen BK.out 0; have hfz_1 := blk_frozen BK.out 1) | ((with_reducible refine gate_dst (N := 3) rfl ?_); refine box_event ?hg (N := 3) ?hd (cs := #[.int .i64 0, .slice none 0 0]) (t := 25) ?hr ?_; (case hd => rfl); (case hg => rfl); (case hr => first | (go_simp; done) | (go_simp; rfl)); intro gq hg w4 hbox hb; have n0_ := Aside0.mk (hg ▸ (Nat.ne_of_lt (blk_lt (by (with_reducible repeat (first | refine blk_drewN ?_ _ | refine blk_drew ?_ | refine blk_alloc ?_ _)); exact BK.out))) : gb ≠ gq); have n1_ := Aside0.mk (blk_below (by (with_reducible repeat (first | refine blk_drewN ?_ _ | refine blk_drew ?_ | refine blk_alloc ?_ _)); exact BK.out) hb); have n2_ := Aside0.mk (hbox); have n3_ := Aside0.mk (hg ▸ below_size (by repeat (first | (with_reducible first | exact HB.out | apply below_alloc | apply pw_below_drewN | apply below_drew1) | exact HB.out)) : w.heap.size ≤ gq); have n4_ := Aside0.mk (Kd.R_below (by (with_reducible repeat (first | apply Kd.R_alloc | apply Kd.R_drewN | apply Kd.R_drew)); exact HO.out) hb); have n5_ := Aside0.mk (below_step (by repeat (first | (with_reducible first | exact HB.out | apply below_alloc | apply pw_below_drewN | apply below_drew1) | exact HB.out)) hb); clear HB BK HO hb hbox hg; have GNE := n0_; have BK := n1_; have BQ := n2_; have GGQ := n3_; have HO := n4_; have HB := n5_; clear n0_ n1_ n2_ n3_ n4_ n5_; (try clear hcz_0 hcz_1 hfz_0 hfz_1); (try clear hcq_0 hcq_1 hfq_0 hfq_1); have hcz_0 : w4.cell? ⟨gb, 0, none⟩ = some (.int .i64 a0) := (blk_cell BK.out 0).trans rfl; have hcz_1 : w4.cell? ⟨gb, 1, none⟩ = some (.slice A1 l1.length c1) := (blk_cell BK.out 1).trans rfl; have hfz_0 := blk_frozen BK.out 0; have hfz_1 := blk_frozen BK.out 1; have hcq_0 : w4.cell? ⟨gq, 0, none⟩ = some (.int .i64 0) := (blk_cell BQ.out 0).trans rfl; have hcq_1 : w4.cell? ⟨gq, 1, none⟩ = some (.slice none 0 0) := (blk_cell BQ.out 1).trans rfl; have hfq_0 := blk_frozen BQ.out 0; have hfq_1 := blk_frozen BQ.out 1) | ((with_reducible refine gate_dst (N := 21) rfl ?_); refine sum_up (q_store a0 w gb gq g c A1 c1 l1 _ HB.out BK.out BQ.out HO.out GNE.out GGQ.out) ?_; clear HB BK BQ HO; intro w99 hs; obtain ⟨hs1, hs2, hs3, hs4⟩ := hs; have n0_ := Aside0.mk (hs1); have n1_ := Aside0.mk (hs2); have n2_ := Aside0.mk (hs3); have n3_ := Aside0.mk (hs4); clear hs1 hs2 hs3 hs4; have HB := n0_; have BK := n1_; have BQ := n2_; have HO := n3_; clear n0_ n1_ n2_ n3_; (try clear hcz_0 hcz_1 hfz_0 hfz_1); (try clear hcq_0 hcq_1 hfq_0 hfq_1); have hcz_0 : w99.cell? ⟨gb, 0, none⟩ = some (.int .i64 a0) := (blk_cell BK.out 0).trans rfl; have hcz_1 : w99.cell? ⟨gb, 1, none⟩ = some (.slice A1 l1.length c1) := (blk_cell BK.out 1).trans rfl; have hfz_0 := blk_frozen BK.out 0; have hfz_1 := blk_frozen BK.out 1; have hcq_0 : w99.cell? ⟨gq, 0, none⟩ = some (.int .i64 a0) := (blk_cell BQ.out 0).trans rfl; have hcq_1 : w99.cell? ⟨gq, 1, none⟩ = some (.slice (some ⟨g, 0, none⟩) l1.length c) := (blk_cell BQ.out 1).trans rfl; have hfq_0 := blk_frozen BQ.out 0; have hfq_1 := blk_frozen BQ.out 1) | (go_at_call 6; ((with_reducible refine (show_n a0 (some ⟨g, 0, none⟩) c l1.length l1 rfl _ (take_of (by (with_reducible repeat (first | apply Kd.R_alloc | apply Kd.R_drewN | apply Kd.R_drew)); exact HO.out)) (by have := GCAP.out; omega) (PowAt_below HP.out (by repeat (first | (with_reducible first | exact HB.out | apply below_alloc | apply pw_below_drewN | apply below_drew1) | exact HB.out))) HK.out).mono ?_); rintro e w6 ⟨rfl, hb⟩); have n0_ := Aside0.mk (Kd.R_below (by (with_reducible repeat (first | apply Kd.R_alloc | apply Kd.R_drewN | apply Kd.R_drew)); exact HO.out) hb); have n1_ := Aside0.mk (blk_below (by (with_reducible repeat (first | refine blk_drewN ?_ _ | refine blk_drew ?_ | refine blk_alloc ?_ _)); exact BK.out) hb); have n2_ := Aside0.mk (blk_below (by (with_reducible repeat (first | refine blk_drewN ?_ _ | refine blk_drew ?_ | refine blk_alloc ?_ _)); exact BQ.out) hb); have n3_ := Aside0.mk (below_step (by repeat (first | (with_reducible first | exact HB.out | apply below_alloc | apply pw_below_drewN | apply below_drew1) | exact HB.out)) hb); clear HB BK BQ HO hb; have HO := n0_; have BK := n1_; have BQ := n2_; have HB := n3_; clear n0_ n1_ n2_ n3_; (try clear hcz_0 hcz_1 hfz_0 hfz_1); (try clear hcq_0 hcq_1 hfq_0 hfq_1); have hcz_0 : w6.cell? ⟨gb, 0, none⟩ = some (.int .i64 a0) := (blk_cell BK.out 0).trans rfl; have hcz_1 : w6.cell? ⟨gb, 1, none⟩ = some (.slice A1 l1.length c1) := (blk_cell BK.out 1).trans rfl; have hfz_0 := blk_frozen BK.out 0; have hfz_1 := blk_frozen BK.out 1; have hcq_0 : w6.cell? ⟨gq, 0, none⟩ = some (.int .i64 a0) := (blk_cell BQ.out 0).trans rfl; have hcq_1 : w6.cell? ⟨gq, 1, none⟩ = some (.slice (some ⟨g, 0, none⟩) l1.length c) := (blk_cell BQ.out 1).trans rfl; have hfq_0 := blk_frozen BQ.out 0; have hfq_1 := blk_frozen BQ.out 1))
    go_loopg [6, 9] l1.length (fun kq v6 v9 w' => ∃ i : Nat, v9 = .int .i64 i ∧ (∃ x : Int, v6 = .int .i64 x ∧ Aside0 (x = (pos a0 l1 i : Int))) ∧ Aside0 (i + kq = l1.length) ∧ Aside0 (w'.heap[gb]? = some (.cells #[.int .i64 a0, .slice A1 l1.length c1] 25 (0, 0))) ∧ Aside0 (Below w.heap.size w w'))
    case atStart => exact ⟨0, rfl, ⟨_, rfl, ⟨by first | rfl | (rw [HPOS.out]; rfl)⟩⟩, ⟨by omega⟩, ⟨(by (with_reducible repeat (first | refine blk_drewN ?_ _ | refine blk_drew ?_ | refine blk_alloc ?_ _)); exact BK.out)⟩, ⟨(by repeat (first | (with_reducible first | exact HB.out | apply below_alloc | apply pw_below_drewN | apply below_drew1) | exact HB.out))⟩⟩
    case round =>
      obtain ⟨i, rfl, ⟨x6, rfl, HX6⟩, HI, BK, HB⟩ := hrel
      have hcz_0 : wr.cell? ⟨gb, 0, none⟩ = some (.int .i64 a0) := (blk_cell BK.out 0).trans rfl
      have hcz_1 : wr.cell? ⟨gb, 1, none⟩ = some (.slice A1 l1.length c1) := (blk_cell BK.out 1).trans rfl
      have hfz_0 := blk_frozen BK.out 0
      have hfz_1 := blk_frozen BK.out 1
      by_cases hx : i < l1.length
      · have hx1 : decide ((i : Int) < (l1.length : Int)) = true := decide_eq_true (by omega)
        have hx2 : decide (i < l1.length) = true := decide_eq_true hx
        obtain ⟨ad, ea, hc⟩ := Kd.at_int HR.out (i : Int) (by omega) (by omega)
        subst ea
        replace hc := (HB.out.cell (World.block_lt_of_cell? w _ hc)).trans hc
        rw [Int.toNat_natCast] at hc
        have hp := pos_lt a0 l1 i hx
        have e6 := HX6.out
        obtain ⟨y6, ey6⟩ : ∃ y : Int, y = ((pos a0 l1 (i + 1) : Nat) : Int) := ⟨_, rfl⟩
        have hp0 : 0 ≤ x6 := by omega
        have hp1 : x6 < ((textOf a0 l1).size : Int) := by omega
        have hpi : decide (((textOf a0 l1).size : Int) ≤ x6) = false := decide_eq_false (by omega)
        have hbt := bt_at (textOf a0 l1) x6
        have hb32 : bt (textOf a0 l1) x6 = 32 := by rw [e6]; exact at_blank a0 l1 i hx
        have hb1 : (bt (textOf a0 l1) x6 == 32) = true := beq_iff_eq.2 hb32
        have hb2 : (bt (textOf a0 l1) x6 != 32) = false := bne_eq_false_iff_eq.2 hb32
        have hy0 : 0 ≤ y6 := by omega
        have hnx : decide (y6 < 0) = false := decide_eq_false (by omega)
        have HX := Aside0.mk hx
        have hw : wrap64 (x6 + 1) = x6 + 1 := by
          have := HTS.out
          exact MB.w64 (by omega) (by omega)
        have hw2 : wrap64 ((i : Int) + 1) = ((i + 1 : Nat) : Int) := by
          have := HLEN.out
          exact MB.wi _ (by omega)
        have hin : (i : Int) < (l1.length : Int) := by omega
        have EY := Aside0.mk ey6
        have HNUM : Aside0 (∀ k, 60 ≤ k → arrearslaw18_number.f k (textOf a0 l1) (x6 + 1) = some (rd l1 (i : Int), y6)) := ⟨fun k hk => by rw [e6, ey6]; exact at_number HK.out i hx k hk⟩
        replace hp0 := eq_true hp0
        replace hp1 := eq_true hp1
        clear ey6 hx e6 hp
        clear hb32
        go_wp2_with (first | (go_at_call 9; ((with_reducible refine (number_c HNUM.out _).mono ?_); rintro e w9 ⟨rfl, ⟨⟨nd, rfl⟩⟩⟩)))
        go_roundg (l1.length - (i + 1))
        case measure => have := HX.out; have := HI.out; omega
        case rel => exact ⟨i + 1, (by first | rfl | go_num | simp), ⟨_, rfl, EY⟩, ⟨by have := HX.out; omega⟩, ⟨(by (with_reducible repeat (first | refine blk_drewN ?_ _ | refine blk_drew ?_ | refine blk_alloc ?_ _)); exact BK.out)⟩, ⟨(by repeat (first | (with_reducible first | exact HB.out | apply below_alloc | apply pw_below_drewN | apply below_drew1) | exact HB.out))⟩⟩
      · have hx1 : decide ((i : Int) < (l1.length : Int)) = false := decide_eq_false (by omega)
        have hx2 : decide (i < l1.length) = false := decide_eq_false hx
        have he : i = l1.length := by have := HI.out; omega
        subst he
        have hpe : x6 = ((textOf a0 l1).size : Int) := HX6.out.trans (pos_end a0 l1)
        have HPE := Aside0.mk hpe
        have hpb : (x6 == ((textOf a0 l1).size : Int)) = true := beq_iff_eq.2 hpe
        clear hpe
        go_wp2
        go_ret
        exact ⟨rfl, (by repeat (first | (with_reducible first | exact HB.out | apply below_alloc | apply pw_below_drewN | apply below_drew1) | exact HB.out))⟩
  · have b2 : (a0 == 0) = false := beq_eq_false_iff_ne.2 ha
    obtain ⟨f1, f2⟩ := front_error l1 ha
    have HA := Aside0.mk ha
    have HPOS : Aside0 (pos a0 l1 0 = pos a0 l1 0) := ⟨rfl⟩
    have f4 : decide ((textOf a0 l1).size < 7) = false := decide_eq_false (by omega)
    have f5 : decide (((textOf a0 l1).size : Int) < 7) = false := decide_eq_false (by omega)
    have f6 : (6 : Int) ≤ ((textOf a0 l1).size : Int) := by omega
    have hnx0 : decide (((pos a0 l1 0 : Nat) : Int) < 0) = false := decide_eq_false (by omega)
    clear ha
    go_enter Tryd.func4, Tryd.ntmps4
    go_wp2_with (first | ((with_reducible refine gate_dst (N := 1) rfl ?_); refine box_event ?hg (N := 1) ?hd (cs := #[.int .i64 a0, .slice A1 l1.length c1]) (t := 25) ?hr ?_; (case hd => rfl); (case hg => rfl); (case hr => first | (go_simp; done) | (go_simp; rfl)); intro gb hg w3 hbox hb; have n0_ := Aside0.mk (below_step (by repeat (first | (with_reducible first | exact HB.out | apply below_alloc | apply pw_below_drewN | apply below_drew1) | exact HB.out)) hb); have n1_ := Aside0.mk (hbox); clear HB hb hbox hg; have HB := n0_; have BK := n1_; clear n0_ n1_; have hcz_0 : w3.cell? ⟨gb, 0, none⟩ = some (.int .i64 a0) := (blk_cell BK.out 0).trans rfl; have hcz_1 : w3.cell? ⟨gb, 1, none⟩ = some (.slice A1 l1.length c1) := (blk_cell BK.out 1).trans rfl; have hfz_0 := blk_frozen BK.out 0; have hfz_1 := blk_frozen BK.out 1) | (go_at_call 5; ((with_reducible refine (ownReply_calls a0 A1 c1 l1 _ (Kd.C_below HR.out (by repeat (first | (with_reducible first | exact HB.out | apply below_alloc | apply pw_below_drewN | apply below_drew1) | exact HB.out))) (by have := HLEN.out; omega)).mono ?_); rintro e w5 ⟨g, c, rfl, ho, hb⟩); have n0_ := Aside0.mk (Kd.R_lower ho (below_size (by repeat (first | (with_reducible first | exact HB.out | apply below_alloc | apply pw_below_drewN | apply below_drew1) | exact HB.out)))); have n1_ := Aside0.mk (Kd.R_base ho g (by simp [Value.ownBlock])); have n2_ := Aside0.mk ((Kd.R_reads' ho).2.1); have n3_ := Aside0.mk (blk_below (by (with_reducible repeat (first | refine blk_drewN ?_ _ | refine blk_drew ?_ | refine blk_alloc ?_ _)); exact BK.out) hb); have n4_ := Aside0.mk (below_step (by repeat (first | (with_reducible first | exact HB.out | apply below_alloc | apply pw_below_drewN | apply below_drew1) | exact HB.out)) hb); clear HB BK ho hb; have HO := n0_; have GL := n1_; have GCAP := n2_; have BK := n3_; have HB := n4_; clear n0_ n1_ n2_ n3_ n4_; (try clear hcz_0 hcz_1 hfz_0 hfz_1); (try clear hcq_0 hcq_1 hfq_0 hfq_1); have hcz_0 : w5.cell? ⟨gb, 0, none⟩ = some (.int .i64 a0) := (blk_cell BK.out 0).trans rfl; have hcz_1 : w5.cell? ⟨gb, 1, none⟩ = some (.slice A1 l1.length c1) := (blk_cell BK.out 1).trans rfl; have hfz_0 := blk_frozen BK.out 0; have hfz_1 := blk_frozen BK.out 1) | ((with_reducible refine gate_dst (N := 3) rfl ?_); refine box_event ?hg (N := 3) ?hd (cs := #[.int .i64 0, .slice none 0 0]) (t := 25) ?hr ?_; (case hd => rfl); (case hg => rfl); (case hr => first | (go_simp; done) | (go_simp; rfl)); intro gq hg w4 hbox hb; have n0_ := Aside0.mk (hg ▸ (Nat.ne_of_lt (blk_lt (by (with_reducible repeat (first | refine blk_drewN ?_ _ | refine blk_drew ?_ | refine blk_alloc ?_ _)); exact BK.out))) : gb ≠ gq); have n1_ := Aside0.mk (blk_below (by (with_reducible repeat (first | refine blk_drewN ?_ _ | refine blk_drew ?_ | refine blk_alloc ?_ _)); exact BK.out) hb); have n2_ := Aside0.mk (hbox); have n3_ := Aside0.mk (hg ▸ below_size (by repeat (first | (with_reducible first | exact HB.out | apply below_alloc | apply pw_below_drewN | apply below_drew1) | exact HB.out)) : w.heap.size ≤ gq); have n4_ := Aside0.mk (Kd.R_below (by (with_reducible repeat (first | apply Kd.R_alloc | apply Kd.R_drewN | apply Kd.R_drew)); exact HO.out) hb); have n5_ := Aside0.mk (below_step (by repeat (first | (with_reducible first | exact HB.out | apply below_alloc | apply pw_below_drewN | apply below_drew1) | exact HB.out)) hb); clear HB BK HO hb hbox hg; have GNE := n0_; have BK := n1_; have BQ := n2_; have GGQ := n3_; have HO := n4_; have HB := n5_; clear n0_ n1_ n2_ n3_ n4_ n5_; (try clear hcz_0 hcz_1 hfz_0 hfz_1); (try clear hcq_0 hcq_1 hfq_0 hfq_1); have hcz_0 : w4.cell? ⟨gb, 0, none⟩ = some (.int .i64 a0) := (blk_cell BK.out 0).trans rfl; have hcz_1 : w4.cell? ⟨gb, 1, none⟩ = some (.slice A1 l1.length c1) := (blk_cell BK.out 1).trans rfl; have hfz_0 := blk_frozen BK.out 0; have hfz_1 := blk_frozen BK.out 1; have hcq_0 : w4.cell? ⟨gq, 0, none⟩ = some (.int .i64 0) := (blk_cell BQ.out 0).trans rfl; have hcq_1 : w4.cell? ⟨gq, 1, none⟩ = some (.slice none 0 0) := (blk_cell BQ.out 1).trans rfl; have hfq_0 := blk_frozen BQ.out 0; have hfq_1 := blk_frozen BQ.out 1) | ((with_reducible refine gate_dst (N := 21) rfl ?_); refine sum_up (q_store a0 w gb gq g c A1 c1 l1 _ HB.out BK.out BQ.out HO.out GNE.out GGQ.out) ?_; clear HB BK BQ HO; intro w99 hs; obtain ⟨hs1, hs2, hs3, hs4⟩ := hs; have n0_ := Aside0.mk (hs1); have n1_ := Aside0.mk (hs2); have n2_ := Aside0.mk (hs3); have n3_ := Aside0.mk (hs4); clear hs1 hs2 hs3 hs4; have HB := n0_; have BK := n1_; have BQ := n2_; have HO := n3_; clear n0_ n1_ n2_ n3_; (try clear hcz_0 hcz_1 hfz_0 hfz_1); (try clear hcq_0 hcq_1 hfq_0 hfq_1); have hcz_0 : w99.cell? ⟨gb, 0, none⟩ = some (.int .i64 a0) := (blk_cell BK.out 0).trans rfl; have hcz_1 : w99.cell? ⟨gb, 1, none⟩ = some (.slice A1 l1.length c1) := (blk_cell BK.out 1).trans rfl; have hfz_0 := blk_frozen BK.out 0; have hfz_1 := blk_frozen BK.out 1; have hcq_0 : w99.cell? ⟨gq, 0, none⟩ = some (.int .i64 a0) := (blk_cell BQ.out 0).trans rfl; have hcq_1 : w99.cell? ⟨gq, 1, none⟩ = some (.slice (some ⟨g, 0, none⟩) l1.length c) := (blk_cell BQ.out 1).trans rfl; have hfq_0 := blk_frozen BQ.out 0; have hfq_1 := blk_frozen BQ.out 1) | (go_at_call 6; ((with_reducible refine (show_n a0 (some ⟨g, 0, none⟩) c l1.length l1 rfl _ (take_of (by (with_reducible repeat (first | apply Kd.R_alloc | apply Kd.R_drewN | apply Kd.R_drew)); exact HO.out)) (by have := GCAP.out; omega) (PowAt_below HP.out (by repeat (first | (with_reducible first | exact HB.out | apply below_alloc | apply pw_below_drewN | apply below_drew1) | exact HB.out))) HK.out).mono ?_); rintro e w6 ⟨rfl, hb⟩); have n0_ := Aside0.mk (Kd.R_below (by (with_reducible repeat (first | apply Kd.R_alloc | apply Kd.R_drewN | apply Kd.R_drew)); exact HO.out) hb); have n1_ := Aside0.mk (blk_below (by (with_reducible repeat (first | refine blk_drewN ?_ _ | refine blk_drew ?_ | refine blk_alloc ?_ _)); exact BK.out) hb); have n2_ := Aside0.mk (blk_below (by (with_reducible repeat (first | refine blk_drewN ?_ _ | refine blk_drew ?_ | refine blk_alloc ?_ _)); exact BQ.out) hb); have n3_ := Aside0.mk (below_step (by repeat (first | (with_reducible first | exact HB.out | apply below_alloc | apply pw_below_drewN | apply below_drew1) | exact HB.out)) hb); clear HB BK BQ HO hb; have HO := n0_; have BK := n1_; have BQ := n2_; have HB := n3_; clear n0_ n1_ n2_ n3_; (try clear hcz_0 hcz_1 hfz_0 hfz_1); (try clear hcq_0 hcq_1 hfq_0 hfq_1); have hcz_0 : w6.cell? ⟨gb, 0, none⟩ = some (.int .i64 a0) := (blk_cell BK.out 0).trans rfl; have hcz_1 : w6.cell? ⟨gb, 1, none⟩ = some (.slice A1 l1.length c1) := (blk_cell BK.out 1).trans rfl; have hfz_0 := blk_frozen BK.out 0; have hfz_1 := blk_frozen BK.out 1; have hcq_0 : w6.cell? ⟨gq, 0, none⟩ = some (.int .i64 a0) := (blk_cell BQ.out 0).trans rfl; have hcq_1 : w6.cell? ⟨gq, 1, none⟩ = some (.slice (some ⟨g, 0, none⟩) l1.length c) := (blk_cell BQ.out 1).trans rfl; have hfq_0 := blk_frozen BQ.out 0; have hfq_1 := blk_frozen BQ.out 1) | (go_at_call 9; ((with_reducible refine (number_c (fun k hk => at_error HK.out HA.out k hk) _).mono ?_); rintro e w9 ⟨rfl, ⟨⟨nd, rfl⟩⟩⟩)))
    go_loopg [6, 9] l1.length (fun kq v6 v9 w' => ∃ i : Nat, v9 = .int .i64 i ∧ (∃ x : Int, v6 = .int .i64 x ∧ Aside0 (x = (pos a0 l1 i : Int))) ∧ Aside0 (i + kq = l1.length) ∧ Aside0 (w'.heap[gb]? = some (.cells #[.int .i64 a0, .slice A1 l1.length c1] 25 (0, 0))) ∧ Aside0 (Below w.heap.size w w'))
    case atStart => exact ⟨0, rfl, ⟨_, rfl, ⟨by first | rfl | (rw [HPOS.out]; rfl)⟩⟩, ⟨by omega⟩, ⟨(by (with_reducible repeat (first | refine blk_drewN ?_ _ | refine blk_drew ?_ | refine blk_alloc ?_ _)); exact BK.out)⟩, ⟨(by repeat (first | (with_reducible first | exact HB.out | apply below_alloc | apply pw_below_drewN | apply below_drew1) | exact HB.out))⟩⟩
    case round =>
      obtain ⟨i, rfl, ⟨x6, rfl, HX6⟩, HI, BK, HB⟩ := hrel
      have hcz_0 : wr.cell? ⟨gb, 0, none⟩ = some (.int .i64 a0) := (blk_cell BK.out 0).trans rfl
      have hcz_1 : wr.cell? ⟨gb, 1, none⟩ = some (.slice A1 l1.length c1) := (blk_cell BK.out 1).trans rfl
      have hfz_0 := blk_frozen BK.out 0
      have hfz_1 := blk_frozen BK.out 1
      by_cases hx : i < l1.length
      · have hx1 : decide ((i : Int) < (l1.length : Int)) = true := decide_eq_true (by omega)
        have hx2 : decide (i < l1.length) = true := decide_eq_true hx
        obtain ⟨ad, ea, hc⟩ := Kd.at_int HR.out (i : Int) (by omega) (by omega)
        subst ea
        replace hc := (HB.out.cell (World.block_lt_of_cell? w _ hc)).trans hc
        rw [Int.toNat_natCast] at hc
        have hp := pos_lt a0 l1 i hx
        have e6 := HX6.out
        obtain ⟨y6, ey6⟩ : ∃ y : Int, y = ((pos a0 l1 (i + 1) : Nat) : Int) := ⟨_, rfl⟩
        have hp0 : 0 ≤ x6 := by omega
        have hp1 : x6 < ((textOf a0 l1).size : Int) := by omega
        have hpi : decide (((textOf a0 l1).size : Int) ≤ x6) = false := decide_eq_false (by omega)
        have hbt := bt_at (textOf a0 l1) x6
        have hb32 : bt (textOf a0 l1) x6 = 32 := by rw [e6]; exact at_blank a0 l1 i hx
        have hb1 : (bt (textOf a0 l1) x6 == 32) = true := beq_iff_eq.2 hb32
        have hb2 : (bt (textOf a0 l1) x6 != 32) = false := bne_eq_false_iff_eq.2 hb32
        have hy0 : 0 ≤ y6 := by omega
        have hnx : decide (y6 < 0) = false := decide_eq_false (by omega)
        have HX := Aside0.mk hx
        have hw : wrap64 (x6 + 1) = x6 + 1 := by
          have := HTS.out
          exact MB.w64 (by omega) (by omega)
        have hw2 : wrap64 ((i : Int) + 1) = ((i + 1 : Nat) : Int) := by
          have := HLEN.out
          exact MB.wi _ (by omega)
        have hin : (i : Int) < (l1.length : Int) := by omega
        have EY := Aside0.mk ey6
        have HNUM : Aside0 (∀ k, 60 ≤ k → arrearslaw18_number.f k (textOf a0 l1) (x6 + 1) = some (rd l1 (i : Int), y6)) := ⟨fun k hk => by rw [e6, ey6]; exact at_number HK.out i hx k hk⟩
        replace hp0 := eq_true hp0
        replace hp1 := eq_true hp1
        clear ey6 hx e6 hp
        clear hb32
        go_wp2_with (first | (go_at_call 9; ((with_reducible refine (number_c HNUM.out _).mono ?_); rintro e w9 ⟨rfl, ⟨⟨nd, rfl⟩⟩⟩)))
        go_roundg (l1.length - (i + 1))
        case measure => have := HX.out; have := HI.out; omega
        case rel => exact ⟨i + 1, (by first | rfl | go_num | simp), ⟨_, rfl, EY⟩, ⟨by have := HX.out; omega⟩, ⟨(by (with_reducible repeat (first | refine blk_drewN ?_ _ | refine blk_drew ?_ | refine blk_alloc ?_ _)); exact BK.out)⟩, ⟨(by repeat (first | (with_reducible first | exact HB.out | apply below_alloc | apply pw_below_drewN | apply below_drew1) | exact HB.out))⟩⟩
      · have hx1 : decide ((i : Int) < (l1.length : Int)) = false := decide_eq_false (by omega)
        have hx2 : decide (i < l1.length) = false := decide_eq_false hx
        have he : i = l1.length := by have := HI.out; omega
        subst he
        have hpe : x6 = ((textOf a0 l1).size : Int) := HX6.out.trans (pos_end a0 l1)
        have HPE := Aside0.mk hpe
        have hpb : (x6 == ((textOf a0 l1).size : Int)) = true := beq_iff_eq.2 hpe
        clear hpe
        go_wp2
        go_ret
        exact ⟨rfl, (by repeat (first | (with_reducible first | exact HB.out | apply below_alloc | apply pw_below_drewN | apply below_drew1) | exact HB.out))⟩
theorem law_walk (a0 : Int) (A1 : Option Addr) (c1 : Nat) (l1 : List Int) (w : World) (hr0 : Kd.C (Kd.int .i64) w A1 l1.length l1) (hc0 : l1.length ≤ c1) (ha : -9223372036854775808 ≤ a0 ∧ a0 ≤ 9223372036854775807) (hl : ∀ x ∈ l1, -9223372036854775808 ≤ x ∧ x ≤ 9223372036854775807) (hP : PowAt w) :
    Calls Tryd.prog 4 #[.agg #[.int .i64 a0, .slice A1 l1.length c1]] w fun e w' => e = .returned (.bool true) ∧ Below w.heap.size w w' := by
  by_cases h : 200000 < l1.length
  · exact long_walk a0 A1 c1 l1 w hr0 h
  · exact short_walk a0 A1 c1 l1 w hr0 hc0 ⟨ha, hl, by omega⟩ hP h
end Go.Proofs.YtpglakfafanhoaaDoor.SBack
