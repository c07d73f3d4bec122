/- arrearslaw18.ScriptOneForm by hand: it answers true. Conditions: the tables stand as laid; the line's bytes are bytes. -/
import Derived.Test.YtjhodgcjkobpoaaDoorZFLawK
namespace Go.Proofs.YtjhodgcjkobpoaaDoor.FOne
open Go.RowKit Go.Proofs.YtjhodgcjkobpoaaDoorW.PrintWords Go.Proofs.YtjhodgcjkobpoaaDoorW.PrintLast Go.Proofs.YtjhodgcjkobpoaaDoorW.PrintMore Go.Proofs.YtjhodgcjkobpoaaDoor.PA Go.Proofs.YtjhodgcjkobpoaaDoor.MB Go.Proofs.YtjhodgcjkobpoaaDoor.MByt Go.Proofs.YtjhodgcjkobpoaaDoor.FTell Go.Proofs.YtjhodgcjkobpoaaDoor.FFields Go.Proofs.YtjhodgcjkobpoaaDoor.FWhole Go.Proofs.YtjhodgcjkobpoaaDoor.FRead Go.Proofs.YtjhodgcjkobpoaaDoor.FReads Go.Proofs.YtjhodgcjkobpoaaDoor.FKind Go.Proofs.YtjhodgcjkobpoaaDoor.FFormat Go.Proofs.YtjhodgcjkobpoaaDoor.FParse Go.Proofs.YtjhodgcjkobpoaaDoor.FParse2 Go.Proofs.YtjhodgcjkobpoaaDoor.FInv Go.Proofs.YtjhodgcjkobpoaaDoor.FLawK
set_option linter.unusedVariables false
set_option linter.unusedSimpArgs false
theorem first_line : parseP (strOfNums ([112, 114, 111, 109, 105, 115, 101, 32, 55, 32, 45, 48, 46, 48, 53, 32, 51, 48] : List Int)) = .op ⟨6, 7, -5, 0, 0, 30, ⟨#[]⟩⟩ := by kernel_rfl
theorem rd_nat (l : List Int) (i : Nat) : rd l (i : Int) = l.getD i 0 := by
  show l.getD ((i : Int)).toNat 0 = _
  rw [Int.toNat_natCast]
theorem wrap_step {i n : Nat} (h : i < n) (hn : (n : Int) ≤ 200000) : wrap64 ((i : Int) + 1) = ((i + 1 : Nat) : Int) := by unfold wrap64; omega
theorem snoc_ne {l : List Int} {i : Nat} (h : ∀ j, j < i → l.getD j 0 ≠ 10) (h1 : l.getD i 0 ≠ 10) : ∀ j, j < i + 1 → l.getD j 0 ≠ 10 := fun j hj => by
  rcases Nat.lt_or_ge j i with c | c
  · exact h j c
  · rw [show j = i by omega]; exact h1
theorem all_ne {l : List Int} {i : Nat} (hi : l.length ≤ i) (h : ∀ j, j < i → l.getD j 0 ≠ 10) : ∀ x ∈ l, x ≠ 10 := fun x hx => by
  obtain ⟨j, hj, rfl⟩ := List.getElem_of_mem hx
  have := h j (by omega)
  rwa [List.getD_eq_getElem?_getD, List.getElem?_eq_getElem hj] at this
set_option maxHeartbeats 8000000 in
set_option maxRecDepth 100000 in
theorem one_long (A0 : Option Addr) (c0 : Nat) (l0 : List Int) (w : World) (hr0 : Kd.C (Kd.int .u8) w A0 l0.length l0) (hrP : PowAt w) (hby : ∀ x ∈ l0, 0 ≤ x ∧ x ≤ 255) (hz : 200000 < l0.length) : Calls Tryd.prog 6 #[.slice A0 l0.length c0] w fun e w' => e = .returned (.bool true) ∧ Below w.heap.size w w' := by
  have hu := Tryd.underlying23
  have HB := Aside0.mk (Below.refl w.heap.size w)
  have HRP := Aside0.mk hrP
  have HR0 := Aside0.mk hr0
  have HBY := Aside0.mk hby
  have hlen : (l0.length : Int) ≤ 9223372036854775807 := by have := (Kd.reads_of_C (enc := Value.int .u8) (d := (0 : Int)) (h1 := fun _ => rfl) hr0).2.1; omega
  clear hrP hr0 hby
  have z1 : decide ((l0.length : Int) > 200000) = true := decide_eq_true (by omega)
  have z2 : decide (200000 < l0.length) = true := decide_eq_true hz
  clear hz
  go_enter Tryd.func6, Tryd.ntmps6
  go_wp2_with (first | ((with_reducible refine gate_dst (N := 10) rfl ?_); refine lit_event ?hg (N := 10) ?hd (xs := ([112, 114, 111, 109, 105, 115, 101, 32, 55, 32, 45, 48, 46, 48, 53, 32, 51, 48] : List Int)) (n := 18) ?hr ?_; (case hd => rfl); (case hg => rfl); (case hr => first | (go_simp; done) | (go_simp; rfl)); intro g1 hg w3 hbox hb; have n0_ := Aside0.mk (hg ▸ below_size (by repeat (first | (with_reducible first | exact HB.out | apply below_alloc | apply pw_below_drewN | apply below_drew1) | exact HB.out)) : w.heap.size ≤ g1); have n1_ := Aside0.mk (below_step (by repeat (first | (with_reducible first | exact HB.out | apply below_alloc | apply pw_below_drewN | apply below_drew1) | exact HB.out)) hb); have n2_ := Aside0.mk (hbox); clear HB hb hbox; have G1 := n0_; have HB := n1_; have BL := n2_; clear n0_ n1_ n2_; clear hg) | ((with_reducible refine gate_dst (N := 11) rfl ?_); refine mark_event rfl (N := 11) rfl (g := g1) ([112, 114, 111, 109, 105, 115, 101, 32, 55, 32, 45, 48, 46, 48, 53, 32, 51, 48] : List Int) rfl rfl rfl (by decide) BL.out ?_; intro w4 hc ht; have n0_ := Aside0.mk (hc); have n1_ := Aside0.mk (ht.below HB.out G1.out (below_size HB.out)); clear HB BL hc ht; have HC := n0_; have HB := n1_; clear n0_ n1_) | (go_at_call 9; (with_reducible refine (parse_op_c 6 7 (-5) 0 0 30 ⟨#[]⟩ _ _ ([112, 114, 111, 109, 105, 115, 101, 32, 55, 32, 45, 48, 46, 48, 53, 32, 51, 48] : List Int) 18 rfl first_line _ HC.out (PowAt_below HRP.out (by repeat (first | (with_reducible first | exact HB.out | apply below_alloc | apply pw_below_drewN | apply below_drew1) | exact HB.out)))).mono ?_); rintro e w5 ⟨rfl, hb⟩; (try clear hcb_0 hcb_1 hcb_2 hcb_3 hcb_4 hcb_5 hcb_6); (try clear hcv); have n0_ := Aside0.mk (below_step (by repeat (first | (with_reducible first | exact HB.out | apply below_alloc | apply pw_below_drewN | apply below_drew1) | exact HB.out)) hb); clear HB hb; have HB := n0_; clear n0_) | ((with_reducible refine gate_dst (N := 3) rfl ?_); refine box_event ?hg (N := 3) ?hd (cs := #[.int .i64 0, .int .i64 0, .int .i64 0, .int .i64 0, .int .i64 0, .int .i64 0, .string ⟨#[]⟩]) (t := 23) ?hr ?_; (case hd => rfl); (case hg => rfl); (case hr => first | (go_simp; done) | (go_simp; rfl)); intro gb hg w3 hbox hb; have n0_ := Aside0.mk (hg ▸ below_size (by repeat (first | (with_reducible first | exact HB.out | apply below_alloc | apply pw_below_drewN | apply below_drew1) | exact HB.out)) : w.heap.size ≤ gb); have n1_ := Aside0.mk (below_step (by repeat (first | (with_reducible first | exact HB.out | apply below_alloc | apply pw_below_drewN | apply below_drew1) | exact HB.out)) hb); have n2_ := Aside0.mk (hbox); clear HB hb hbox; have GK := n0_; have HB := n1_; have BK := n2_; clear n0_ n1_ n2_; clear hg) | ((with_reducible refine gate_store (p := 3) rfl ?_); refine row_event rfl rfl rfl (g := gb) #[.int .i64 (6), .int .i64 (7), .int .i64 (-5), .int .i64 (0), .int .i64 (0), .int .i64 (30), .string ⟨#[]⟩] rfl ?hy BK.out Zcs_info rfl (one_cells _ _ _ _ _ _ _) ?_; (case hy => first | rfl | (go_simp; done) | (go_simp; rfl)); intro w4 hrow ht; (try clear hcb_0 hcb_1 hcb_2 hcb_3 hcb_4 hcb_5 hcb_6); (try clear hcv); have n0_ := Aside0.mk (ht.below HB.out GK.out (below_size HB.out)); have n1_ := Aside0.mk (hrow); clear HB BK hrow ht; have HB := n0_; have BK := n1_; clear n0_ n1_; have hcb_0 : w4.cell? ⟨gb, 0, none⟩ = some (.int .i64 (6)) := (blk_cell BK.out 0).trans rfl; have hcb_1 : w4.cell? ⟨gb, 1, none⟩ = some (.int .i64 (7)) := (blk_cell BK.out 1).trans rfl; have hcb_2 : w4.cell? ⟨gb, 2, none⟩ = some (.int .i64 (-5)) := (blk_cell BK.out 2).trans rfl; have hcb_3 : w4.cell? ⟨gb, 3, none⟩ = some (.int .i64 (0)) := (blk_cell BK.out 3).trans rfl; have hcb_4 : w4.cell? ⟨gb, 4, none⟩ = some (.int .i64 (0)) := (blk_cell BK.out 4).trans rfl; have hcb_5 : w4.cell? ⟨gb, 5, none⟩ = some (.int .i64 (30)) := (blk_cell BK.out 5).trans rfl; have hcb_6 : w4.cell? ⟨gb, 6, none⟩ = some (.string ⟨#[]⟩) := (blk_cell BK.out 6).trans rfl) | (go_at_call 11; (with_reducible refine (equal_c 6 7 (-5) 0 0 30 ⟨#[]⟩ _).mono ?_); rintro e w5 ⟨rfl, hb⟩; (try clear hcb_0 hcb_1 hcb_2 hcb_3 hcb_4 hcb_5 hcb_6); (try clear hcv); have n0_ := Aside0.mk (blk_below BK.out hb); have n1_ := Aside0.mk (below_step (by repeat (first | (with_reducible first | exact HB.out | apply below_alloc | apply pw_below_drewN | apply below_drew1) | exact HB.out)) hb); clear BK HB hb; have BK := n0_; have HB := n1_; clear n0_ n1_; have hcb_0 : w5.cell? ⟨gb, 0, none⟩ = some (.int .i64 (6)) := (blk_cell BK.out 0).trans rfl; have hcb_1 : w5.cell? ⟨gb, 1, none⟩ = some (.int .i64 (7)) := (blk_cell BK.out 1).trans rfl; have hcb_2 : w5.cell? ⟨gb, 2, none⟩ = some (.int .i64 (-5)) := (blk_cell BK.out 2).trans rfl; have hcb_3 : w5.cell? ⟨gb, 3, none⟩ = some (.int .i64 (0)) := (blk_cell BK.out 3).trans rfl; have hcb_4 : w5.cell? ⟨gb, 4, none⟩ = some (.int .i64 (0)) := (blk_cell BK.out 4).trans rfl; have hcb_5 : w5.cell? ⟨gb, 5, none⟩ = some (.int .i64 (30)) := (blk_cell BK.out 5).trans rfl; have hcb_6 : w5.cell? ⟨gb, 6, none⟩ = some (.string ⟨#[]⟩) := (blk_cell BK.out 6).trans rfl))
  go_ret
  exact ⟨rfl, HB.out⟩
set_option maxHeartbeats 8000000 in
set_option maxRecDepth 100000 in
theorem one_go (A0 : Option Addr) (c0 : Nat) (l0 : List Int) (w : World) (hr0 : Kd.C (Kd.int .u8) w A0 l0.length l0) (hrP : PowAt w) (hby : ∀ x ∈ l0, 0 ≤ x ∧ x ≤ 255) (hz : ¬ 200000 < l0.length)
    (hend : (∀ x ∈ l0, x ≠ 10) → (∃ a0 a1 a2 a3 a4 a5 a6, parseP (strOfNums l0) = .op ⟨a0, a1, a2, a3, a4, a5, a6⟩ ∧ fmtF a0 a1 a2 a3 a4 a5 a6 = some (strOfNums l0, true)) ∨ ((parseP (strOfNums l0)).o = Zo ∧ PR.errno (parseP (strOfNums l0)) ≠ 0 ∧ 0 ≤ PR.place (parseP (strOfNums l0)) ∧ PR.place (parseP (strOfNums l0)) ≤ l0.length)) : Calls Tryd.prog 6 #[.slice A0 l0.length c0] w fun e w' => e = .returned (.bool true) ∧ Below w.heap.size w w' := by
  have HEND := Aside0.mk hend
  clear hend
  have hu := Tryd.underlying23
  have HB := Aside0.mk (Below.refl w.heap.size w)
  have HRP := Aside0.mk hrP
  have HR0 := Aside0.mk hr0
  have HBY := Aside0.mk hby
  have hlen : (l0.length : Int) ≤ 9223372036854775807 := by have := (Kd.reads_of_C (enc := Value.int .u8) (d := (0 : Int)) (h1 := fun _ => rfl) hr0).2.1; omega
  clear hrP hr0 hby
  have z1 : decide ((l0.length : Int) > 200000) = false := decide_eq_false (by omega)
  have z2 : decide (200000 < l0.length) = false := decide_eq_false hz
  have hzl : (l0.length : Int) ≤ 200000 := by omega
  clear hz hlen
  go_enter Tryd.func6, Tryd.ntmps6
  go_wp2_with (first | ((with_reducible refine gate_dst (N := 10) rfl ?_); refine lit_event ?hg (N := 10) ?hd (xs := ([112, 114, 111, 109, 105, 115, 101, 32, 55, 32, 45, 48, 46, 48, 53, 32, 51, 48] : List Int)) (n := 18) ?hr ?_; (case hd => rfl); (case hg => rfl); (case hr => first | (go_simp; done) | (go_simp; rfl)); intro g1 hg w3 hbox hb; have n0_ := Aside0.mk (hg ▸ below_size (by repeat (first | (with_reducible first | exact HB.out | apply below_alloc | apply pw_below_drewN | apply below_drew1) | exact HB.out)) : w.heap.size ≤ g1); have n1_ := Aside0.mk (below_step (by repeat (first | (with_reducible first | exact HB.out | apply below_alloc | apply pw_below_drewN | apply below_drew1) | exact HB.out)) hb); have n2_ := Aside0.mk (hbox); clear HB hb hbox; have G1 := n0_; have HB := n1_; have BL := n2_; clear n0_ n1_ n2_; clear hg) | ((with_reducible refine gate_dst (N := 11) rfl ?_); refine mark_event rfl (N := 11) rfl (g := g1) ([112, 114, 111, 109, 105, 115, 101, 32, 55, 32, 45, 48, 46, 48, 53, 32, 51, 48] : List Int) rfl rfl rfl (by decide) BL.out ?_; intro w4 hc ht; have n0_ := Aside0.mk (hc); have n1_ := Aside0.mk (ht.below HB.out G1.out (below_size HB.out)); clear HB BL hc ht; have HC := n0_; have HB := n1_; clear n0_ n1_) | (go_at_call 9; (with_reducible refine (parse_op_c 6 7 (-5) 0 0 30 ⟨#[]⟩ _ _ ([112, 114, 111, 109, 105, 115, 101, 32, 55, 32, 45, 48, 46, 48, 53, 32, 51, 48] : List Int) 18 rfl first_line _ HC.out (PowAt_below HRP.out (by repeat (first | (with_reducible first | exact HB.out | apply below_alloc | apply pw_below_drewN | apply below_drew1) | exact HB.out)))).mono ?_); rintro e w5 ⟨rfl, hb⟩; (try clear hcb_0 hcb_1 hcb_2 hcb_3 hcb_4 hcb_5 hcb_6); (try clear hcv); have n0_ := Aside0.mk (below_step (by repeat (first | (with_reducible first | exact HB.out | apply below_alloc | apply pw_below_drewN | apply below_drew1) | exact HB.out)) hb); clear HB hb; have HB := n0_; clear n0_) | ((with_reducible refine gate_dst (N := 3) rfl ?_); refine box_event ?hg (N := 3) ?hd (cs := #[.int .i64 0, .int .i64 0, .int .i64 0, .int .i64 0, .int .i64 0, .int .i64 0, .string ⟨#[]⟩]) (t := 23) ?hr ?_; (case hd => rfl); (case hg => rfl); (case hr => first | (go_simp; done) | (go_simp; rfl)); intro gb hg w3 hbox hb; have n0_ := Aside0.mk (hg ▸ below_size (by repeat (first | (with_reducible first | exact HB.out | apply below_alloc | apply pw_below_drewN | apply below_drew1) | exact HB.out)) : w.heap.size ≤ gb); have n1_ := Aside0.mk (below_step (by repeat (first | (with_reducible first | exact HB.out | apply below_alloc | apply pw_below_drewN | apply below_drew1) | exact HB.out)) hb); have n2_ := Aside0.mk (hbox); clear HB hb hbox; have GK := n0_; have HB := n1_; have BK := n2_; clear n0_ n1_ n2_; clear hg) | ((with_reducible refine gate_store (p := 3) rfl ?_); refine row_event rfl rfl rfl (g := gb) #[.int .i64 (6), .int .i64 (7), .int .i64 (-5), .int .i64 (0), .int .i64 (0), .int .i64 (30), .string ⟨#[]⟩] rfl ?hy BK.out Zcs_info rfl (one_cells _ _ _ _ _ _ _) ?_; (case hy => first | rfl | (go_simp; done) | (go_simp; rfl)); intro w4 hrow ht; (try clear hcb_0 hcb_1 hcb_2 hcb_3 hcb_4 hcb_5 hcb_6); (try clear hcv); have n0_ := Aside0.mk (ht.below HB.out GK.out (below_size HB.out)); have n1_ := Aside0.mk (hrow); clear HB BK hrow ht; have HB := n0_; have BK := n1_; clear n0_ n1_; have hcb_0 : w4.cell? ⟨gb, 0, none⟩ = some (.int .i64 (6)) := (blk_cell BK.out 0).trans rfl; have hcb_1 : w4.cell? ⟨gb, 1, none⟩ = some (.int .i64 (7)) := (blk_cell BK.out 1).trans rfl; have hcb_2 : w4.cell? ⟨gb, 2, none⟩ = some (.int .i64 (-5)) := (blk_cell BK.out 2).trans rfl; have hcb_3 : w4.cell? ⟨gb, 3, none⟩ = some (.int .i64 (0)) := (blk_cell BK.out 3).trans rfl; have hcb_4 : w4.cell? ⟨gb, 4, none⟩ = some (.int .i64 (0)) := (blk_cell BK.out 4).trans rfl; have hcb_5 : w4.cell? ⟨gb, 5, none⟩ = some (.int .i64 (30)) := (blk_cell BK.out 5).trans rfl; have hcb_6 : w4.cell? ⟨gb, 6, none⟩ = some (.string ⟨#[]⟩) := (blk_cell BK.out 6).trans rfl) | (go_at_call 11; (with_reducible refine (equal_c 6 7 (-5) 0 0 30 ⟨#[]⟩ _).mono ?_); rintro e w5 ⟨rfl, hb⟩; (try clear hcb_0 hcb_1 hcb_2 hcb_3 hcb_4 hcb_5 hcb_6); (try clear hcv); have n0_ := Aside0.mk (blk_below BK.out hb); have n1_ := Aside0.mk (below_step (by repeat (first | (with_reducible first | exact HB.out | apply below_alloc | apply pw_below_drewN | apply below_drew1) | exact HB.out)) hb); clear BK HB hb; have BK := n0_; have HB := n1_; clear n0_ n1_; have hcb_0 : w5.cell? ⟨gb, 0, none⟩ = some (.int .i64 (6)) := (blk_cell BK.out 0).trans rfl; have hcb_1 : w5.cell? ⟨gb, 1, none⟩ = some (.int .i64 (7)) := (blk_cell BK.out 1).trans rfl; have hcb_2 : w5.cell? ⟨gb, 2, none⟩ = some (.int .i64 (-5)) := (blk_cell BK.out 2).trans rfl; have hcb_3 : w5.cell? ⟨gb, 3, none⟩ = some (.int .i64 (0)) := (blk_cell BK.out 3).trans rfl; have hcb_4 : w5.cell? ⟨gb, 4, none⟩ = some (.int .i64 (0)) := (blk_cell BK.out 4).trans rfl; have hcb_5 : w5.cell? ⟨gb, 5, none⟩ = some (.int .i64 (30)) := (blk_cell BK.out 5).trans rfl; have hcb_6 : w5.cell? ⟨gb, 6, none⟩ = some (.string ⟨#[]⟩) := (blk_cell BK.out 6).trans rfl))
  clear hcb_0 hcb_1 hcb_2 hcb_3 hcb_4 hcb_5 hcb_6 HC z1 z2
  go_loopg [6] l0.length (fun kq v6 w' => ∃ i : Nat, v6 = .int .i64 (i : Int) ∧ Aside0 (i + kq = l0.length) ∧ Aside0 (∀ j, j < i → l0.getD j 0 ≠ 10) ∧ Aside0 (w'.heap[gb]? = some (.cells #[.int .i64 (6), .int .i64 (7), .int .i64 (-5), .int .i64 (0), .int .i64 (0), .int .i64 (30), .string ⟨#[]⟩] 23 (0, 0))) ∧ Aside0 (Below w.heap.size w w'))
  case atStart => exact ⟨0, rfl, ⟨by omega⟩, ⟨fun j h => absurd h (Nat.not_lt_zero j)⟩, BK, HB⟩
  case round =>
    obtain ⟨i, rfl, HI, HN, BK, HB⟩ := hrel
    by_cases hx : i < l0.length
    · have p0 : 0 ≤ (i : Int) := by omega
      have q0 : (i : Int) < (l0.length : Int) := by omega
      have lt1 : decide ((i : Int) < (l0.length : Int)) = true := decide_eq_true q0
      obtain ⟨ad, e, hx0⟩ := Kd.at_int HR0.out (i : Int) p0 q0
      subst e
      replace hx0 := (HB.out.cell (World.block_lt_of_cell? w _ hx0)).trans hx0
      have HX := Aside0.mk hx
      have hrd : rd l0 (i : Int) = l0.getD i 0 := rd_nat l0 i
      rw [hrd, Int.toNat_natCast] at hx0
      generalize hy : l0.getD i 0 = y at *
      have HY := Aside0.mk hy
      by_cases h10 : y = 10
      · have c1 : (y == 10) = true := beq_iff_eq.2 h10
        clear h10 hy hx hrd
        go_wp2
        go_ret
        exact ⟨rfl, HB.out⟩
      · have c1 : (y == 10) = false := beq_eq_false_iff_ne.2 h10
        have hw : wrap64 ((i : Int) + 1) = ((i + 1 : Nat) : Int) := wrap_step hx hzl
        have HN2 : Aside0 (∀ j, j < i + 1 → l0.getD j 0 ≠ 10) := ⟨snoc_ne HN.out (by rw [hy]; exact h10)⟩
        clear h10 hy hx hrd
        go_wp2
        go_roundg (l0.length - (i + 1))
        case measure => exact sub_lt HX.out HI.out
        case rel => exact ⟨i + 1, (by first | rfl | (simp; done) | go_num | (simp [*]; done)), ⟨sub_step HX.out HI.out⟩, HN2, BK, HB⟩
    · have lt1 : decide ((i : Int) < (l0.length : Int)) = false := decide_eq_false (by omega)
      have hno : ∀ x ∈ l0, x ≠ 10 := all_ne (Nat.le_of_not_lt hx) HN.out
      have hcb_0 : wr.cell? ⟨gb, 0, none⟩ = some (.int .i64 (6)) := (blk_cell BK.out 0).trans rfl
      have hcb_1 : wr.cell? ⟨gb, 1, none⟩ = some (.int .i64 (7)) := (blk_cell BK.out 1).trans rfl
      have hcb_2 : wr.cell? ⟨gb, 2, none⟩ = some (.int .i64 (-5)) := (blk_cell BK.out 2).trans rfl
      have hcb_3 : wr.cell? ⟨gb, 3, none⟩ = some (.int .i64 (0)) := (blk_cell BK.out 3).trans rfl
      have hcb_4 : wr.cell? ⟨gb, 4, none⟩ = some (.int .i64 (0)) := (blk_cell BK.out 4).trans rfl
      have hcb_5 : wr.cell? ⟨gb, 5, none⟩ = some (.int .i64 (30)) := (blk_cell BK.out 5).trans rfl
      have hcb_6 : wr.cell? ⟨gb, 6, none⟩ = some (.string ⟨#[]⟩) := (blk_cell BK.out 6).trans rfl
      rcases HEND.out hno with ⟨a0, a1, a2, a3, a4, a5, a6, hp, hf⟩ | ⟨h1, h2, h3, h4⟩
      · have HP := Aside0.mk hp
        have HF := Aside0.mk hf
        clear hp hf hno
        go_wp2_with (first | (go_at_call 9; (with_reducible refine (parse_op_c a0 a1 a2 a3 a4 a5 a6 _ _ l0 _ rfl HP.out _ (Kd.C_below HR0.out HB.out) (PowAt_below HRP.out (by repeat (first | (with_reducible first | exact HB.out | apply below_alloc | apply pw_below_drewN | apply below_drew1) | exact HB.out)))).mono ?_); rintro e w5 ⟨rfl, hb⟩; (try clear hcb_0 hcb_1 hcb_2 hcb_3 hcb_4 hcb_5 hcb_6); (try clear hcv); have n0_ := Aside0.mk (blk_below BK.out hb); have n1_ := Aside0.mk (below_step (by repeat (first | (with_reducible first | exact HB.out | apply below_alloc | apply pw_below_drewN | apply below_drew1) | exact HB.out)) hb); clear BK HB hb; have BK := n0_; have HB := n1_; clear n0_ n1_) | ((with_reducible refine gate_store (p := 3) rfl ?_); refine row_event rfl rfl rfl (g := gb) #[.int .i64 a0, .int .i64 a1, .int .i64 a2, .int .i64 a3, .int .i64 a4, .int .i64 a5, .string a6] rfl ?hy BK.out Zcs_info rfl (one_cells _ _ _ _ _ _ _) ?_; (case hy => first | rfl | (go_simp; done) | (go_simp; rfl)); intro w4 hrow ht; (try clear hcb_0 hcb_1 hcb_2 hcb_3 hcb_4 hcb_5 hcb_6); (try clear hcv); have n0_ := Aside0.mk (ht.below HB.out GK.out (below_size HB.out)); have n1_ := Aside0.mk (hrow); clear HB BK hrow ht; have HB := n0_; have BK := n1_; clear n0_ n1_; have hcb_0 : w4.cell? ⟨gb, 0, none⟩ = some (.int .i64 a0) := (blk_cell BK.out 0).trans rfl; have hcb_1 : w4.cell? ⟨gb, 1, none⟩ = some (.int .i64 a1) := (blk_cell BK.out 1).trans rfl; have hcb_2 : w4.cell? ⟨gb, 2, none⟩ = some (.int .i64 a2) := (blk_cell BK.out 2).trans rfl; have hcb_3 : w4.cell? ⟨gb, 3, none⟩ = some (.int .i64 a3) := (blk_cell BK.out 3).trans rfl; have hcb_4 : w4.cell? ⟨gb, 4, none⟩ = some (.int .i64 a4) := (blk_cell BK.out 4).trans rfl; have hcb_5 : w4.cell? ⟨gb, 5, none⟩ = some (.int .i64 a5) := (blk_cell BK.out 5).trans rfl; have hcb_6 : w4.cell? ⟨gb, 6, none⟩ = some (.string a6) := (blk_cell BK.out 6).trans rfl) | (go_at_call 7; (with_reducible refine (format_ok_c a0 a1 a2 a3 a4 a5 a6 _ true HF.out _ (PowAt_below HRP.out (by repeat (first | (with_reducible first | exact HB.out | apply below_alloc | apply pw_below_drewN | apply below_drew1) | exact HB.out)))).mono ?_); rintro e w5 ⟨rfl, hb⟩; (try clear hcb_0 hcb_1 hcb_2 hcb_3 hcb_4 hcb_5 hcb_6); (try clear hcv); have n0_ := Aside0.mk (blk_below BK.out hb); have n1_ := Aside0.mk (below_step (by repeat (first | (with_reducible first | exact HB.out | apply below_alloc | apply pw_below_drewN | apply below_drew1) | exact HB.out)) hb); clear BK HB hb; have BK := n0_; have HB := n1_; clear n0_ n1_; have hcb_0 : w5.cell? ⟨gb, 0, none⟩ = some (.int .i64 a0) := (blk_cell BK.out 0).trans rfl; have hcb_1 : w5.cell? ⟨gb, 1, none⟩ = some (.int .i64 a1) := (blk_cell BK.out 1).trans rfl; have hcb_2 : w5.cell? ⟨gb, 2, none⟩ = some (.int .i64 a2) := (blk_cell BK.out 2).trans rfl; have hcb_3 : w5.cell? ⟨gb, 3, none⟩ = some (.int .i64 a3) := (blk_cell BK.out 3).trans rfl; have hcb_4 : w5.cell? ⟨gb, 4, none⟩ = some (.int .i64 a4) := (blk_cell BK.out 4).trans rfl; have hcb_5 : w5.cell? ⟨gb, 5, none⟩ = some (.int .i64 a5) := (blk_cell BK.out 5).trans rfl; have hcb_6 : w5.cell? ⟨gb, 6, none⟩ = some (.string a6) := (blk_cell BK.out 6).trans rfl; have hcv := Kd.C_string (src := 30) (dst := 9) (e := 5) (c := c0) Tryd.underlying30 Tryd.underlying5 Tryd.underlying9 (Kd.C_below HR0.out HB.out)))
        go_ret
        exact ⟨rfl, HB.out⟩
      · obtain ⟨er, her⟩ : ∃ er, PR.errno (parseP (strOfNums l0)) = er := ⟨_, rfl⟩
        obtain ⟨pl, hpl⟩ : ∃ pl, PR.place (parseP (strOfNums l0)) = pl := ⟨_, rfl⟩
        have H1 := Aside0.mk h1
        have HER := Aside0.mk her
        have HPL := Aside0.mk hpl
        rw [her] at h2
        rw [hpl] at h3 h4
        have d1 : (er == 0) = false := beq_eq_false_iff_ne.2 h2
        have d2 : (er != 0) = true := bne_iff_ne.2 h2
        have d3 : decide (pl ≥ 0) = true := decide_eq_true h3
        have d4 : decide (0 ≤ pl) = true := decide_eq_true h3
        have d5 : decide (pl ≤ (l0.length : Int)) = true := decide_eq_true h4
        clear h1 her hpl h2 h3 h4 hno
        go_wp2_with (first | (go_at_call 9; (with_reducible refine (parse_err_c _ _ l0 _ er pl rfl H1.out HER.out HPL.out _ (Kd.C_below HR0.out HB.out) (PowAt_below HRP.out (by repeat (first | (with_reducible first | exact HB.out | apply below_alloc | apply pw_below_drewN | apply below_drew1) | exact HB.out)))).mono ?_); rintro e w5 ⟨rfl, hb⟩; (try clear hcb_0 hcb_1 hcb_2 hcb_3 hcb_4 hcb_5 hcb_6); (try clear hcv); have n0_ := Aside0.mk (blk_below BK.out hb); have n1_ := Aside0.mk (below_step (by repeat (first | (with_reducible first | exact HB.out | apply below_alloc | apply pw_below_drewN | apply below_drew1) | exact HB.out)) hb); clear BK HB hb; have BK := n0_; have HB := n1_; clear n0_ n1_) | ((with_reducible refine gate_store (p := 3) rfl ?_); refine row_event rfl rfl rfl (g := gb) #[.int .i64 0, .int .i64 0, .int .i64 0, .int .i64 0, .int .i64 0, .int .i64 0, .string ⟨#[]⟩] rfl ?hy BK.out Zcs_info rfl (one_cells _ _ _ _ _ _ _) ?_; (case hy => first | rfl | (go_simp; done) | (go_simp; rfl)); intro w4 hrow ht; (try clear hcb_0 hcb_1 hcb_2 hcb_3 hcb_4 hcb_5 hcb_6); (try clear hcv); have n0_ := Aside0.mk (ht.below HB.out GK.out (below_size HB.out)); have n1_ := Aside0.mk (hrow); clear HB BK hrow ht; have HB := n0_; have BK := n1_; clear n0_ n1_; have hcb_0 : w4.cell? ⟨gb, 0, none⟩ = some (.int .i64 0) := (blk_cell BK.out 0).trans rfl; have hcb_1 : w4.cell? ⟨gb, 1, none⟩ = some (.int .i64 0) := (blk_cell BK.out 1).trans rfl; have hcb_2 : w4.cell? ⟨gb, 2, none⟩ = some (.int .i64 0) := (blk_cell BK.out 2).trans rfl; have hcb_3 : w4.cell? ⟨gb, 3, none⟩ = some (.int .i64 0) := (blk_cell BK.out 3).trans rfl; have hcb_4 : w4.cell? ⟨gb, 4, none⟩ = some (.int .i64 0) := (blk_cell BK.out 4).trans rfl; have hcb_5 : w4.cell? ⟨gb, 5, none⟩ = some (.int .i64 0) := (blk_cell BK.out 5).trans rfl; have hcb_6 : w4.cell? ⟨gb, 6, none⟩ = some (.string ⟨#[]⟩) := (blk_cell BK.out 6).trans rfl) | (go_at_call 11; (with_reducible refine (equal_c 0 0 0 0 0 0 ⟨#[]⟩ _).mono ?_); rintro e w5 ⟨rfl, hb⟩; (try clear hcb_0 hcb_1 hcb_2 hcb_3 hcb_4 hcb_5 hcb_6); (try clear hcv); have n0_ := Aside0.mk (blk_below BK.out hb); have n1_ := Aside0.mk (below_step (by repeat (first | (with_reducible first | exact HB.out | apply below_alloc | apply pw_below_drewN | apply below_drew1) | exact HB.out)) hb); clear BK HB hb; have BK := n0_; have HB := n1_; clear n0_ n1_; have hcb_0 : w5.cell? ⟨gb, 0, none⟩ = some (.int .i64 0) := (blk_cell BK.out 0).trans rfl; have hcb_1 : w5.cell? ⟨gb, 1, none⟩ = some (.int .i64 0) := (blk_cell BK.out 1).trans rfl; have hcb_2 : w5.cell? ⟨gb, 2, none⟩ = some (.int .i64 0) := (blk_cell BK.out 2).trans rfl; have hcb_3 : w5.cell? ⟨gb, 3, none⟩ = some (.int .i64 0) := (blk_cell BK.out 3).trans rfl; have hcb_4 : w5.cell? ⟨gb, 4, none⟩ = some (.int .i64 0) := (blk_cell BK.out 4).trans rfl; have hcb_5 : w5.cell? ⟨gb, 5, none⟩ = some (.int .i64 0) := (blk_cell BK.out 5).trans rfl; have hcb_6 : w5.cell? ⟨gb, 6, none⟩ = some (.string ⟨#[]⟩) := (blk_cell BK.out 6).trans rfl))
        go_ret
        exact ⟨rfl, HB.out⟩
theorem one_c (A0 : Option Addr) (c0 : Nat) (l0 : List Int) (w : World) (hr0 : Kd.C (Kd.int .u8) w A0 l0.length l0) (hrP : PowAt w) (hby : ∀ x ∈ l0, 0 ≤ x ∧ x ≤ 255) : Calls Tryd.prog 6 #[.slice A0 l0.length c0] w fun e w' => e = .returned (.bool true) ∧ Below w.heap.size w w' := by
  by_cases hz : 200000 < l0.length
  · exact one_long A0 c0 l0 w hr0 hrP hby hz
  refine one_go A0 c0 l0 w hr0 hrP hby hz (fun hn => ?_)
  have hbs : byts (strOfNums l0) = l0 := byts_of hby
  have hsz : (strOfNums l0).size = l0.length := by rw [← byts_len, hbs]
  rcases parse_place (strOfNums l0) with ⟨⟨a0, a1, a2, a3, a4, a5, a6⟩, ho⟩ | ⟨h1, h2, h3, h4⟩
  · refine .inl ⟨a0, a1, a2, a3, a4, a5, a6, ho, parse_fmt (o := ⟨a0, a1, a2, a3, a4, a5, a6⟩) (fun c hc e => ?_) ho⟩
    subst e
    have hm : (10 : Int) ∈ byts (strOfNums l0) := List.mem_map.2 ⟨10, hc, rfl⟩
    rw [hbs] at hm
    exact hn 10 hm rfl
  · exact .inr ⟨h1, h2, h3, by rw [← hsz]; exact h4⟩
/-- The row's plain function: true, where the bytes are bytes. -/
def f (k : Nat) (l0 : List Int) : Option Bool := if ∀ x ∈ l0, 0 ≤ x ∧ x ≤ 255 then some true else none
theorem calls (k : Nat) (A0 : Option Addr) (c0 : Nat) (l0 : List Int) (r : Bool) (w : World) (hr0 : Kd.C (Kd.int .u8) w A0 l0.length l0) (hc0 : l0.length ≤ c0) (hrP : PowAt w) (h : f k l0 = some r) :
    Calls Tryd.prog 6 #[.slice A0 l0.length c0] w fun e w' => e = .returned (.bool r) ∧ Below w.heap.size w w' := by
  unfold f at h
  split at h
  · obtain rfl := Option.some.inj h
    exact one_c A0 c0 l0 w hr0 hrP (by assumption)
  · cases h
end Go.Proofs.YtjhodgcjkobpoaaDoor.FOne
