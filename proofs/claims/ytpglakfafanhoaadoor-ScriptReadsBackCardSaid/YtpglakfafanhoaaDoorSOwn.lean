/- arrearslaw18.ownReply by hand: the reply over memory of its own, and that memory with the mark behind it. Conditions: the numbers can be read, at most 300000 of them. -/
import Derived.Test.YtpglakfafanhoaaDoorPAx2
import Derived.Test.YtpglakfafanhoaaDoorPAx3
import Derived.BigRegion
namespace Go.Proofs.YtpglakfafanhoaaDoor.SOwn
open Go.RowKit Go.Proofs.YtpglakfafanhoaaDoorW.PrintWords Go.Proofs.YtpglakfafanhoaaDoorW.PrintLast Go.Proofs.YtpglakfafanhoaaDoorW.PrintMore Go.Proofs.YtpglakfafanhoaaDoor.PA
set_option linter.unusedVariables false
set_option linter.unusedSimpArgs false

theorem cut_own {g c : Nat} {n : Nat} (hn : n + 1 ≤ c) : ∀ W : World, (Instr.slice 23 (.slice (some ⟨g, 0, none⟩) (n + 1) c) none (some (.int .i64 (n : Int))) none).run Tryd.prog W = .ok (.slice (some ⟨g, 0, none⟩) n c) W := by
  obtain ⟨i, hi, _⟩ := Option.map_eq_some_iff.1 info2
  have h := cut_to (P := Tryd.prog) 23 2 .i64 Tryd.underlying23 hi (some ⟨g, 0, none⟩) (n + 1) c (n : Int) (by omega) (by omega) hn
  simpa using h
theorem grown_keep {W w1 : World} {v : Value} {xs : List Int} {base : Nat} {ok : Nat → Prop} {g t : Nat} {cells : Array Value} (hg : W.grownBy w1 v.ownBlock) (hb : W.heap[g]? = some (.cells cells t (0, 0))) (ho : Kd.R (Kd.int .i64) 2 W base ok v xs) (ht : 2 ≠ t) : w1.heap[g]? = some (.cells cells t (0, 0)) :=
  (hg.block g (blk_lt hb) (Kd.R_ne ho hb ht)).trans hb
set_option maxHeartbeats 8000000 in
set_option maxRecDepth 100000 in
theorem ownReply_calls (a0 : Int) (A1 : Option Addr) (c1 : Nat) (l1 : List Int) (w : World) (hr0 : Kd.C (Kd.int .i64) w A1 l1.length l1) (hlen : l1.length ≤ 300000) :
    Calls Tryd.prog 5 #[.agg #[.int .i64 a0, .slice A1 l1.length c1]] w fun e w' => ∃ (g c : Nat), e = .returned (.tuple #[.agg #[.int .i64 a0, .slice (some ⟨g, 0, none⟩) l1.length c], .slice (some ⟨g, 0, none⟩) (l1.length + 1) c]) ∧ Kd.R (Kd.int .i64) 2 w' w.heap.size (fun _ => True) (.slice (some ⟨g, 0, none⟩) (l1.length + 1) c) (l1 ++ [-77]) ∧ Below w.heap.size w w' := by
  have HR := Aside0.mk hr0
  have HL := Aside0.mk hlen
  clear hr0 hlen
  have hu25 := Tryd.underlying25
  have HB := Aside0.mk (Below.refl w.heap.size w)
  go_enter Tryd.func5, Tryd.ntmps5
  go_upto_region 3 with (first | ((with_reducible refine gate_dst (N := 1) rfl ?_); refine box_event ?hg (N := 1) ?hd (cs := #[.int .i64 a0, .slice A1 l1.length c1]) (t := 25) ?hr ?_; (case hd => rfl); (case hg => rfl); (case hr => first | (go_simp; done) | (go_simp; rfl)); intro gb hg w3 hbox hb; have n0_ := Aside0.mk (below_step (by repeat (first | (with_reducible first | exact HB.out | apply below_alloc | apply pw_below_drewN | apply below_drew1) | exact HB.out)) hb); have n1_ := Aside0.mk hbox; clear HB; have HB := n0_; have BK := n1_; clear n0_ n1_ hb hbox hg) | ((with_reducible refine gate_dst (N := 2) rfl ?_); refine box_event ?hg (N := 2) ?hd (cs := #[.int .i64 0, .slice none 0 0]) (t := 25) ?hr ?_; (case hd => rfl); (case hg => rfl); (case hr => first | (go_simp; done) | (go_simp; rfl)); intro gq hg w4 hbox hb; have n0_ := Aside0.mk (below_step (by repeat (first | (with_reducible first | exact HB.out | apply below_alloc | apply pw_below_drewN | apply below_drew1) | exact HB.out)) hb); have n1_ := Aside0.mk hbox; have n2_ := Aside0.mk (hg ▸ (Nat.ne_of_lt (blk_lt (by (with_reducible repeat (first | refine blk_drewN ?_ _ | refine blk_drew ?_ | refine blk_alloc ?_ _)); exact BK.out))) : gb ≠ gq); have n3_ := Aside0.mk (blk_below (by (with_reducible repeat (first | refine blk_drewN ?_ _ | refine blk_drew ?_ | refine blk_alloc ?_ _)); exact BK.out) hb); have n4_ := Aside0.mk (hg ▸ below_size (by repeat (first | (with_reducible first | exact HB.out | apply below_alloc | apply pw_below_drewN | apply below_drew1) | exact HB.out)) : w.heap.size ≤ gq); clear HB BK; have HB := n0_; have BQ := n1_; have GNE := n2_; have BK := n3_; have GGQ := n4_; clear n0_ n1_ n2_ n3_ n4_ hb hbox hg))
  go_loopg [4, 5] l1.length (fun kq v4 v5 w' => ∃ x : Int, v5 = .int .i64 x ∧ Aside0 (0 ≤ x) ∧ Aside0 (x + kq = l1.length) ∧ Aside0 (Kd.R (Kd.int .i64) 2 w' w.heap.size (fun _ => True) v4 (l1.take x.toNat)) ∧ Aside0 (w'.heap[gb]? = some (.cells #[.int .i64 a0, .slice A1 l1.length c1] 25 (0, 0))) ∧ Aside0 (w'.heap[gq]? = some (.cells #[.int .i64 0, .slice none 0 0] 25 (0, 0))) ∧ Aside0 (Below w.heap.size w w'))
  case atStart => exact ⟨0, rfl, ⟨Int.le_refl _⟩, ⟨by omega⟩, ⟨Kd.R_nil _ _ _ _ _⟩, ⟨(by (with_reducible repeat (first | refine blk_drewN ?_ _ | refine blk_drew ?_ | refine blk_alloc ?_ _)); exact BK.out)⟩, ⟨(by (with_reducible repeat (first | refine blk_drewN ?_ _ | refine blk_drew ?_ | refine blk_alloc ?_ _)); exact BQ.out)⟩, ⟨(by repeat (first | (with_reducible first | exact HB.out | apply below_alloc | apply pw_below_drewN | apply below_drew1) | exact HB.out))⟩⟩
  case round =>
    obtain ⟨x, rfl, HX0, HX1, HO, BK, BQ, HB⟩ := hrel
    have hcz_0 : wr.cell? ⟨gb, 0, none⟩ = some (.int .i64 a0) := (blk_cell BK.out 0).trans rfl
    have hcz_1 : wr.cell? ⟨gb, 1, none⟩ = some (.slice A1 l1.length c1) := (blk_cell BK.out 1).trans rfl
    have hfz_0 := blk_frozen BK.out 0
    have hfz_1 := blk_frozen BK.out 1
    by_cases hx : x < l1.length
    · have hx0 := HX0.out
      obtain ⟨ad, ea, hc⟩ := Kd.at_int HR.out x hx0 hx
      subst ea
      replace hc := (HB.out.cell (World.block_lt_of_cell? w _ hc)).trans hc
      have HT := Aside0.mk (rd_take hx0 hx)
      have hw : wrap64 (x + 1) = x + 1 := by
        have := HL.out
        unfold wrap64
        omega
      have HLT : Aside0 ((l1.take x.toNat).length ≤ 300000) := ⟨Nat.le_trans (List.length_take_le' _ _) HL.out⟩
      go_wp2_with (first | ((with_reducible refine gate_builtin (b := .append) (xs := #[.tmp 13, .tmp 19]) rfl ?_); at_builtin; refine Kd.R_append (Kd.int .i64) (w0 := w) w.heap.size rfl (.tmp 13) (.tmp 19) 23 2 (.int .i64 0) 8 rfl Tryd.underlying23 info2 rfl (by decide) (by omega) u4 (l1.take x.toNat) (rd l1 x) [.int .i64 (rd l1 x)] (fun _ => True) (fun _ => False) rfl rfl ?aP (fun _ hk => hk.elim) ?aF ?aO ?aB ?aS ?aL ?_; (case aP => exact rfl); (case aB => exact (by repeat (first | (with_reducible first | exact HB.out | apply below_alloc | apply pw_below_drewN | apply below_drew1) | exact HB.out))); (case aF => exact (fun _ _ => trivial)); (case aO => exact (by (with_reducible repeat (first | apply Kd.R_alloc | apply Kd.R_drewN | apply Kd.R_drew)); exact HO.out)); (case aS => exact (below_size (by repeat (first | (with_reducible first | exact HB.out | apply below_alloc | apply pw_below_drewN | apply below_drew1) | exact HB.out)))); (case aL => have := HLT.out; omega); intro v103 w5 ho hb hg hat; have n0_ := Aside0.mk hb; have n1_ := Aside0.mk ho; have n2_ : w5.heap[gb]? = some (.cells #[.int .i64 a0, .slice _ l1.length c1] 25 (0, 0)) := (by refine grown_keep (base := w.heap.size) (ok := fun _ => True) (xs := l1.take x.toNat) hg ?_ ?_ (by decide); exact (by (with_reducible repeat (first | refine blk_drewN ?_ _ | refine blk_drew ?_ | refine blk_alloc ?_ _)); exact BK.out); exact (by (with_reducible repeat (first | apply Kd.R_alloc | apply Kd.R_drewN | apply Kd.R_drew)); exact HO.out)); have n3_ : w5.heap[gq]? = some (.cells #[.int .i64 0, .slice none 0 0] 25 (0, 0)) := (by refine grown_keep (base := w.heap.size) (ok := fun _ => True) (xs := l1.take x.toNat) hg ?_ ?_ (by decide); exact (by (with_reducible repeat (first | refine blk_drewN ?_ _ | refine blk_drew ?_ | refine blk_alloc ?_ _)); exact BQ.out); exact (by (with_reducible repeat (first | apply Kd.R_alloc | apply Kd.R_drewN | apply Kd.R_drew)); exact HO.out)); clear HB HO BK BQ; (try clear hcz_0 hcz_1 hfz_0 hfz_1); have HB := n0_; have HO := n1_; have BK := Aside0.mk n2_; have BQ := Aside0.mk n3_; clear n0_ n1_ n2_ n3_ ho hb hg hat))
      go_roundg (l1.length - (x + 1).toNat)
      case measure => have := HX0.out; have := HX1.out; omega
      case rel => exact ⟨x + 1, (by first | rfl | (simp; done) | go_num | (simp [*]; done)), ⟨by have := HX0.out; omega⟩, ⟨by have := HX0.out; omega⟩, ⟨by rw [HT.out]; exact HO.out⟩, BK, BQ, ⟨(by repeat (first | (with_reducible first | exact HB.out | apply below_alloc | apply pw_below_drewN | apply below_drew1) | exact HB.out))⟩⟩
    · have e : l1.take x.toNat = l1 := List.take_of_length_le (by omega)
      rw [e] at HO
      clear e
      have GQ := Aside0.mk GGQ.out
      go_upto_region 7 with (first | ((with_reducible refine gate_builtin (b := .append) (xs := #[.tmp 21, .tmp 22]) rfl ?_); at_builtin; refine Kd.R_append (Kd.int .i64) (w0 := w) w.heap.size rfl (.tmp 21) (.tmp 22) 23 2 (.int .i64 0) 8 rfl Tryd.underlying23 info2 rfl (by decide) (by omega) u4 (l1) (-77) [.int .i64 (-77)] (fun _ => True) (fun _ => False) rfl rfl ?aP (fun _ hk => hk.elim) ?aF ?aO ?aB ?aS ?aL ?_; (case aP => exact rfl); (case aB => exact (by repeat (first | (with_reducible first | exact HB.out | apply below_alloc | apply pw_below_drewN | apply below_drew1) | exact HB.out))); (case aF => exact (fun _ _ => trivial)); (case aO => exact (by (with_reducible repeat (first | apply Kd.R_alloc | apply Kd.R_drewN | apply Kd.R_drew)); exact HO.out)); (case aS => exact (below_size (by repeat (first | (with_reducible first | exact HB.out | apply below_alloc | apply pw_below_drewN | apply below_drew1) | exact HB.out)))); (case aL => have := HL.out; omega); intro v103 w5 ho hb hg hat; have n0_ := Aside0.mk hb; have n1_ := Aside0.mk ho; have n2_ : w5.heap[gb]? = some (.cells #[.int .i64 a0, .slice _ l1.length c1] 25 (0, 0)) := (by refine grown_keep (base := w.heap.size) (ok := fun _ => True) (xs := l1) hg ?_ ?_ (by decide); exact (by (with_reducible repeat (first | refine blk_drewN ?_ _ | refine blk_drew ?_ | refine blk_alloc ?_ _)); exact BK.out); exact (by (with_reducible repeat (first | apply Kd.R_alloc | apply Kd.R_drewN | apply Kd.R_drew)); exact HO.out)); have n3_ : w5.heap[gq]? = some (.cells #[.int .i64 0, .slice none 0 0] 25 (0, 0)) := (by refine grown_keep (base := w.heap.size) (ok := fun _ => True) (xs := l1) hg ?_ ?_ (by decide); exact (by (with_reducible repeat (first | refine blk_drewN ?_ _ | refine blk_drew ?_ | refine blk_alloc ?_ _)); exact BQ.out); exact (by (with_reducible repeat (first | apply Kd.R_alloc | apply Kd.R_drewN | apply Kd.R_drew)); exact HO.out)); clear HB HO BK BQ; (try clear hcz_0 hcz_1 hfz_0 hfz_1); have HB := n0_; have HO := n1_; have BK := Aside0.mk n2_; have BQ := Aside0.mk n3_; clear n0_ n1_ n2_ n3_ ho hb hg hat))
      obtain ⟨g, cap, ev, hg0, hg1, cells, hg2⟩ := Kd.R_form HO.out (by simp)
      rw [List.length_append, List.length_singleton] at ev
      subst ev
      obtain ⟨e1, e2, _⟩ := Kd.R_reads' HO.out
      have hcut := cut_own (g := g) (c := cap) (n := l1.length) e2
      have hcz_0 : w5.cell? ⟨gb, 0, none⟩ = some (.int .i64 a0) := (blk_cell BK.out 0).trans rfl
      have hcz_1 : w5.cell? ⟨gb, 1, none⟩ = some (.slice A1 l1.length c1) := (blk_cell BK.out 1).trans rfl
      have hfz_0 := blk_frozen BK.out 0
      have hfz_1 := blk_frozen BK.out 1
      have hcq_0 : w5.cell? ⟨gq, 0, none⟩ = some (.int .i64 0) := (blk_cell BQ.out 0).trans rfl
      have hcq_1 : w5.cell? ⟨gq, 1, none⟩ = some (.slice none 0 0) := (blk_cell BQ.out 1).trans rfl
      have hfq_0 := blk_frozen BQ.out 0
      have hfq_1 := blk_frozen BQ.out 1
      have hne := GNE.out
      have hne' : gq ≠ gb := fun h => hne h.symm
      clear e1 e2 hg2 hg0 hg1
      go_region
      all_goals go_wp2
      refine bodyPost_ret (v := .tuple #[.agg #[.int .i64 a0, .slice (some ⟨g, 0, none⟩) l1.length cap], .slice (some ⟨g, 0, none⟩) (l1.length + 1) cap]) ?_ rfl ⟨g, cap, rfl, ?_, ?_⟩
      · simp [results, Tryd.results5, go_sem, hcq_0, hcq_1, hu25]
      · have hd : ∀ q, q ∈ 2 :: (Kd.int .i64).E → q ≠ 25 := by intro q hq; simp [Kd.int, Kd.scalar] at hq; omega
        exact Kd.R_drew (Kd.R_set (Kd.R_set HO.out BQ.out hd 0 _) (blk_put BQ.out 0 (.int .i64 a0) rfl) hd 1 _)
      · exact below_drew (Below.setCell (p := ⟨gq, 1, none⟩) (Below.setCell (p := ⟨gq, 0, none⟩) HB.out GQ.out _) GQ.out _)
end Go.Proofs.YtpglakfafanhoaaDoor.SOwn
