/- arrearslaw18.ScriptAmounts by hand: it answers true. Conditions: the tables stand as laid; the amount is an int64. -/
import Derived.Test.YtjhodgcjkobpoaaDoorXFLawK
import Derived.Test.YtjhodgcjkobpoaaDoorXPAx12
import Derived.Test.YtjhodgcjkobpoaaDoorXPAx2
namespace Go.Proofs.YtjhodgcjkobpoaaDoor.FAmts
open Go.RowKit Go.Proofs.YtjhodgcjkobpoaaDoorW.PrintWords Go.Proofs.YtjhodgcjkobpoaaDoorW.PrintLast Go.Proofs.YtjhodgcjkobpoaaDoorW.PrintMore Go.Proofs.YtjhodgcjkobpoaaDoor.PA Go.Proofs.YtjhodgcjkobpoaaDoor.MB Go.Proofs.YtjhodgcjkobpoaaDoor.MByt Go.Proofs.YtjhodgcjkobpoaaDoor.FTell Go.Proofs.YtjhodgcjkobpoaaDoor.FFields Go.Proofs.YtjhodgcjkobpoaaDoor.FWhole Go.Proofs.YtjhodgcjkobpoaaDoor.FRead Go.Proofs.YtjhodgcjkobpoaaDoor.FReads Go.Proofs.YtjhodgcjkobpoaaDoor.FKind Go.Proofs.YtjhodgcjkobpoaaDoor.FFormat Go.Proofs.YtjhodgcjkobpoaaDoor.FDec Go.Proofs.YtjhodgcjkobpoaaDoor.FParse Go.Proofs.YtjhodgcjkobpoaaDoor.FParse2 Go.Proofs.YtjhodgcjkobpoaaDoor.FBare Go.Proofs.YtjhodgcjkobpoaaDoor.FSp Go.Proofs.YtjhodgcjkobpoaaDoor.FInv Go.Proofs.YtjhodgcjkobpoaaDoor.FLawK
set_option linter.unusedVariables false
set_option linter.unusedSimpArgs false
theorem mparse_c (k : Nat) (s : ByteArray) (n : Int) (b : Bool) (h : money_Parse.f k s = some (n, b)) (w : World) : Calls Tryd.prog 12 #[.string s] w fun e w' => e = .returned (.tuple #[.int .i64 n, .bool b]) ∧ Below w.heap.size w w' := by
  refine (money_Parse.calls k s n b w h).mono ?_
  rintro e w' ⟨rfl, ⟨⟨nd, rfl⟩⟩⟩
  exact ⟨rfl, pw_below_drewN (Below.refl _ _) _⟩
theorem wrap_one {x n : Int} (h0 : 0 ≤ x) (h : x < n) (hn : n ≤ 90) : wrap64 (x + 1) = x + 1 := by unfold wrap64; omega
theorem snoc_bt {s : ByteArray} {x : Int} (h : ∀ j : Nat, (j : Int) < x → bt s (j : Int) ≠ 32) (h1 : bt s x ≠ 32) : ∀ j : Nat, (j : Int) < x + 1 → bt s (j : Int) ≠ 32 := fun j hj => by
  by_cases c : (j : Int) < x
  · exact h j c
  · rw [show (j : Int) = x by omega]; exact h1
theorem left_lt {x : Int} {n k : Nat} (h0 : 0 ≤ x) (h : x < n) (hk : x + k = n) : n - (x.toNat + 1) < k := by omega
theorem left_step {x : Int} {n : Nat} (h0 : 0 ≤ x) (h : x < n) : 0 ≤ x + 1 ∧ x + 1 + ((n - (x.toNat + 1) : Nat) : Int) = n := by omega
set_option maxHeartbeats 8000000 in
set_option maxRecDepth 100000 in
theorem amts_long (a0 : ByteArray) (a1 : Int) (w : World) (hrP : PowAt w) (t s1 : ByteArray) (hf : money_Format.f a1 = some t) (hts : t.size ≤ 21) (hs1 : (⟨#[112, 97, 121, 32, 55, 32]⟩ : ByteArray) ++ t = s1) (hp1 : parseP (strOfNums (byts s1)) = .op ⟨2, 7, a1, 0, 0, 0, ⟨#[]⟩⟩) (hz : 90 < a0.size) : Calls Tryd.prog 4 #[.string a0, .int .i64 a1] w fun e w' => e = .returned (.bool true) ∧ Below w.heap.size w w' := by
  have hu := Tryd.underlying23
  have HB := Aside0.mk (Below.refl w.heap.size w)
  have HRP := Aside0.mk hrP
  have HF := Aside0.mk hf
  have HT : Aside0 (s1.size ≤ 27) := ⟨by rw [← hs1, ByteArray.size_append]; have : (⟨#[112, 97, 121, 32, 55, 32]⟩ : ByteArray).size = 6 := rfl; omega⟩
  have HP1 := Aside0.mk hp1
  have hc1 : (9223372036854775807 < 6 + t.size) = False := eq_false (by omega)
  have hc2 : (9223372036854775807 < (⟨#[112, 97, 121, 32, 55, 32]⟩ : ByteArray).size + t.size) = False := eq_false (by have : (⟨#[112, 97, 121, 32, 55, 32]⟩ : ByteArray).size = 6 := rfl; omega)
  clear hrP hf hp1 hts
  have z1 : decide ((a0.size : Int) > 90) = true := decide_eq_true (by omega)
  have z2 : decide (90 < a0.size) = true := decide_eq_true hz
  clear hz
  go_enter Tryd.func4, Tryd.ntmps4
  go_wp2_with (first | (go_at_call 10; (with_reducible refine (money_Format.calls a1 t _ (PowAt_below HRP.out (by repeat (first | (with_reducible first | exact HB.out | apply below_alloc | apply pw_below_drewN | apply below_drew1) | exact HB.out))) HF.out).mono ?_); rintro e w5 ⟨rfl, hb⟩; have n0_ := Aside0.mk (below_step (by repeat (first | (with_reducible first | exact HB.out | apply below_alloc | apply pw_below_drewN | apply below_drew1) | exact HB.out)) hb); clear HB hb; have HB := n0_; clear n0_) | ((with_reducible refine gate_dst (N := 15) rfl ?_); refine conv_event rfl (N := 15) rfl s1 (byts s1) s1.size rfl (byts_len s1) (by have h_ := HT.out; omega) rfl rfl ?_; intro gc cc w6 hC hb hgc; (try clear hcb_0 hcb_1 hcb_2 hcb_3 hcb_4 hcb_5 hcb_6); have n0_ := Aside0.mk (hC); have n1_ := Aside0.mk (below_step (by repeat (first | (with_reducible first | exact HB.out | apply below_alloc | apply pw_below_drewN | apply below_drew1) | exact HB.out)) hb); clear hC hgc HB hb; have HC := n0_; have HB := n1_; clear n0_ n1_) | (go_at_call 9; (with_reducible refine (parse_op_c 2 7 a1 0 0 0 ⟨#[]⟩ _ _ (byts s1) s1.size (byts_len s1) HP1.out _ HC.out (PowAt_below HRP.out (by repeat (first | (with_reducible first | exact HB.out | apply below_alloc | apply pw_below_drewN | apply below_drew1) | exact HB.out)))).mono ?_); rintro e w5 ⟨rfl, hb⟩; (try clear hcb_0 hcb_1 hcb_2 hcb_3 hcb_4 hcb_5 hcb_6); have n0_ := Aside0.mk (below_step (by repeat (first | (with_reducible first | exact HB.out | apply below_alloc | apply pw_below_drewN | apply below_drew1) | exact HB.out)) hb); clear HC HB hb; have HB := n0_; clear n0_) | ((with_reducible refine gate_dst (N := 5) rfl ?_); refine box_event ?hg (N := 5) ?hd (cs := #[.int .i64 0, .int .i64 0, .int .i64 0, .int .i64 0, .int .i64 0, .int .i64 0, .string ⟨#[]⟩]) (t := 23) ?hr ?_; (case hd => rfl); (case hg => rfl); (case hr => first | (go_simp; done) | (go_simp; rfl)); intro gb hg w3 hbox hb; have n0_ := Aside0.mk (hg ▸ below_size (by repeat (first | (with_reducible first | exact HB.out | apply below_alloc | apply pw_below_drewN | apply below_drew1) | exact HB.out)) : w.heap.size ≤ gb); have n1_ := Aside0.mk (below_step (by repeat (first | (with_reducible first | exact HB.out | apply below_alloc | apply pw_below_drewN | apply below_drew1) | exact HB.out)) hb); have n2_ := Aside0.mk (hbox); clear HB hb hbox; have GK := n0_; have HB := n1_; have BK := n2_; clear n0_ n1_ n2_; clear hg) | ((with_reducible refine gate_store (p := 5) rfl ?_); refine row_event rfl rfl rfl (g := gb) #[.int .i64 2, .int .i64 7, .int .i64 a1, .int .i64 0, .int .i64 0, .int .i64 0, .string ⟨#[]⟩] rfl ?hy BK.out Zcs_info rfl (one_cells _ _ _ _ _ _ _) ?_; (case hy => first | rfl | (go_simp; done) | (go_simp; rfl)); intro w4 hrow ht; (try clear hcb_0 hcb_1 hcb_2 hcb_3 hcb_4 hcb_5 hcb_6); have n0_ := Aside0.mk (ht.below HB.out GK.out (below_size HB.out)); have n1_ := Aside0.mk (hrow); clear HB BK hrow ht; have HB := n0_; have BK := n1_; clear n0_ n1_; have hcb_0 : w4.cell? ⟨gb, 0, none⟩ = some (.int .i64 2) := (blk_cell BK.out 0).trans rfl; have hcb_1 : w4.cell? ⟨gb, 1, none⟩ = some (.int .i64 7) := (blk_cell BK.out 1).trans rfl; have hcb_2 : w4.cell? ⟨gb, 2, none⟩ = some (.int .i64 a1) := (blk_cell BK.out 2).trans rfl; have hcb_3 : w4.cell? ⟨gb, 3, none⟩ = some (.int .i64 0) := (blk_cell BK.out 3).trans rfl; have hcb_4 : w4.cell? ⟨gb, 4, none⟩ = some (.int .i64 0) := (blk_cell BK.out 4).trans rfl; have hcb_5 : w4.cell? ⟨gb, 5, none⟩ = some (.int .i64 0) := (blk_cell BK.out 5).trans rfl; have hcb_6 : w4.cell? ⟨gb, 6, none⟩ = some (.string ⟨#[]⟩) := (blk_cell BK.out 6).trans rfl) | (go_at_call 11; (with_reducible refine (equal_c 2 7 a1 0 0 0 ⟨#[]⟩ _).mono ?_); rintro e w5 ⟨rfl, hb⟩; (try clear hcb_0 hcb_1 hcb_2 hcb_3 hcb_4 hcb_5 hcb_6); have n0_ := Aside0.mk (blk_below BK.out hb); have n1_ := Aside0.mk (below_step (by repeat (first | (with_reducible first | exact HB.out | apply below_alloc | apply pw_below_drewN | apply below_drew1) | exact HB.out)) hb); clear BK HB hb; have BK := n0_; have HB := n1_; clear n0_ n1_; have hcb_0 : w5.cell? ⟨gb, 0, none⟩ = some (.int .i64 2) := (blk_cell BK.out 0).trans rfl; have hcb_1 : w5.cell? ⟨gb, 1, none⟩ = some (.int .i64 7) := (blk_cell BK.out 1).trans rfl; have hcb_2 : w5.cell? ⟨gb, 2, none⟩ = some (.int .i64 a1) := (blk_cell BK.out 2).trans rfl; have hcb_3 : w5.cell? ⟨gb, 3, none⟩ = some (.int .i64 0) := (blk_cell BK.out 3).trans rfl; have hcb_4 : w5.cell? ⟨gb, 4, none⟩ = some (.int .i64 0) := (blk_cell BK.out 4).trans rfl; have hcb_5 : w5.cell? ⟨gb, 5, none⟩ = some (.int .i64 0) := (blk_cell BK.out 5).trans rfl; have hcb_6 : w5.cell? ⟨gb, 6, none⟩ = some (.string ⟨#[]⟩) := (blk_cell BK.out 6).trans rfl))
  go_ret
  exact ⟨rfl, HB.out⟩
set_option maxHeartbeats 8000000 in
set_option maxRecDepth 100000 in
theorem amts_go (a0 : ByteArray) (a1 : Int) (w : World) (hrP : PowAt w) (t s1 : ByteArray) (hf : money_Format.f a1 = some t) (hts : t.size ≤ 21) (hs1 : (⟨#[112, 97, 121, 32, 55, 32]⟩ : ByteArray) ++ t = s1) (hp1 : parseP (strOfNums (byts s1)) = .op ⟨2, 7, a1, 0, 0, 0, ⟨#[]⟩⟩) (hz : ¬ 90 < a0.size) (s2 : ByteArray) (hs2 : (⟨#[119, 97, 105, 118, 101, 32, 55, 32]⟩ : ByteArray) ++ a0 = s2)
    (hend : (∀ j : Nat, j < a0.size → bt a0 (j : Int) ≠ 32) → ∃ (k : Nat) (n : Int), (money_Parse.f k a0 = some (n, true) ∧ parseP (strOfNums (byts s2)) = .op ⟨5, 7, n, 0, 0, 0, ⟨#[]⟩⟩) ∨ (money_Parse.f k a0 = some (n, false) ∧ parseP (strOfNums (byts s2)) = .plc 8 182)) : Calls Tryd.prog 4 #[.string a0, .int .i64 a1] w fun e w' => e = .returned (.bool true) ∧ Below w.heap.size w w' := by
  have HEND := Aside0.mk hend
  clear hend
  have hu := Tryd.underlying23
  have HB := Aside0.mk (Below.refl w.heap.size w)
  have HRP := Aside0.mk hrP
  have HF := Aside0.mk hf
  have HT : Aside0 (s1.size ≤ 27) := ⟨by rw [← hs1, ByteArray.size_append]; have : (⟨#[112, 97, 121, 32, 55, 32]⟩ : ByteArray).size = 6 := rfl; omega⟩
  have HP1 := Aside0.mk hp1
  have hc1 : (9223372036854775807 < 6 + t.size) = False := eq_false (by omega)
  have hc2 : (9223372036854775807 < (⟨#[112, 97, 121, 32, 55, 32]⟩ : ByteArray).size + t.size) = False := eq_false (by have : (⟨#[112, 97, 121, 32, 55, 32]⟩ : ByteArray).size = 6 := rfl; omega)
  clear hrP hf hp1 hts
  have z1 : decide ((a0.size : Int) > 90) = false := decide_eq_false (by omega)
  have z2 : decide (90 < a0.size) = false := decide_eq_false hz
  have hzl : (a0.size : Int) ≤ 90 := by omega
  clear hz
  go_enter Tryd.func4, Tryd.ntmps4
  go_wp2_with (first | (go_at_call 10; (with_reducible refine (money_Format.calls a1 t _ (PowAt_below HRP.out (by repeat (first | (with_reducible first | exact HB.out | apply below_alloc | apply pw_below_drewN | apply below_drew1) | exact HB.out))) HF.out).mono ?_); rintro e w5 ⟨rfl, hb⟩; have n0_ := Aside0.mk (below_step (by repeat (first | (with_reducible first | exact HB.out | apply below_alloc | apply pw_below_drewN | apply below_drew1) | exact HB.out)) hb); clear HB hb; have HB := n0_; clear n0_) | ((with_reducible refine gate_dst (N := 15) rfl ?_); refine conv_event rfl (N := 15) rfl s1 (byts s1) s1.size rfl (byts_len s1) (by have h_ := HT.out; omega) rfl rfl ?_; intro gc cc w6 hC hb hgc; (try clear hcb_0 hcb_1 hcb_2 hcb_3 hcb_4 hcb_5 hcb_6); have n0_ := Aside0.mk (hC); have n1_ := Aside0.mk (below_step (by repeat (first | (with_reducible first | exact HB.out | apply below_alloc | apply pw_below_drewN | apply below_drew1) | exact HB.out)) hb); clear hC hgc HB hb; have HC := n0_; have HB := n1_; clear n0_ n1_) | (go_at_call 9; (with_reducible refine (parse_op_c 2 7 a1 0 0 0 ⟨#[]⟩ _ _ (byts s1) s1.size (byts_len s1) HP1.out _ HC.out (PowAt_below HRP.out (by repeat (first | (with_reducible first | exact HB.out | apply below_alloc | apply pw_below_drewN | apply below_drew1) | exact HB.out)))).mono ?_); rintro e w5 ⟨rfl, hb⟩; (try clear hcb_0 hcb_1 hcb_2 hcb_3 hcb_4 hcb_5 hcb_6); have n0_ := Aside0.mk (below_step (by repeat (first | (with_reducible first | exact HB.out | apply below_alloc | apply pw_below_drewN | apply below_drew1) | exact HB.out)) hb); clear HC HB hb; have HB := n0_; clear n0_) | ((with_reducible refine gate_dst (N := 5) rfl ?_); refine box_event ?hg (N := 5) ?hd (cs := #[.int .i64 0, .int .i64 0, .int .i64 0, .int .i64 0, .int .i64 0, .int .i64 0, .string ⟨#[]⟩]) (t := 23) ?hr ?_; (case hd => rfl); (case hg => rfl); (case hr => first | (go_simp; done) | (go_simp; rfl)); intro gb hg w3 hbox hb; have n0_ := Aside0.mk (hg ▸ below_size (by repeat (first | (with_reducible first | exact HB.out | apply below_alloc | apply pw_below_drewN | apply below_drew1) | exact HB.out)) : w.heap.size ≤ gb); have n1_ := Aside0.mk (below_step (by repeat (first | (with_reducible first | exact HB.out | apply below_alloc | apply pw_below_drewN | apply below_drew1) | exact HB.out)) hb); have n2_ := Aside0.mk (hbox); clear HB hb hbox; have GK := n0_; have HB := n1_; have BK := n2_; clear n0_ n1_ n2_; clear hg) | ((with_reducible refine gate_store (p := 5) rfl ?_); refine row_event rfl rfl rfl (g := gb) #[.int .i64 2, .int .i64 7, .int .i64 a1, .int .i64 0, .int .i64 0, .int .i64 0, .string ⟨#[]⟩] rfl ?hy BK.out Zcs_info rfl (one_cells _ _ _ _ _ _ _) ?_; (case hy => first | rfl | (go_simp; done) | (go_simp; rfl)); intro w4 hrow ht; (try clear hcb_0 hcb_1 hcb_2 hcb_3 hcb_4 hcb_5 hcb_6); have n0_ := Aside0.mk (ht.below HB.out GK.out (below_size HB.out)); have n1_ := Aside0.mk (hrow); clear HB BK hrow ht; have HB := n0_; have BK := n1_; clear n0_ n1_; have hcb_0 : w4.cell? ⟨gb, 0, none⟩ = some (.int .i64 2) := (blk_cell BK.out 0).trans rfl; have hcb_1 : w4.cell? ⟨gb, 1, none⟩ = some (.int .i64 7) := (blk_cell BK.out 1).trans rfl; have hcb_2 : w4.cell? ⟨gb, 2, none⟩ = some (.int .i64 a1) := (blk_cell BK.out 2).trans rfl; have hcb_3 : w4.cell? ⟨gb, 3, none⟩ = some (.int .i64 0) := (blk_cell BK.out 3).trans rfl; have hcb_4 : w4.cell? ⟨gb, 4, none⟩ = some (.int .i64 0) := (blk_cell BK.out 4).trans rfl; have hcb_5 : w4.cell? ⟨gb, 5, none⟩ = some (.int .i64 0) := (blk_cell BK.out 5).trans rfl; have hcb_6 : w4.cell? ⟨gb, 6, none⟩ = some (.string ⟨#[]⟩) := (blk_cell BK.out 6).trans rfl) | (go_at_call 11; (with_reducible refine (equal_c 2 7 a1 0 0 0 ⟨#[]⟩ _).mono ?_); rintro e w5 ⟨rfl, hb⟩; (try clear hcb_0 hcb_1 hcb_2 hcb_3 hcb_4 hcb_5 hcb_6); have n0_ := Aside0.mk (blk_below BK.out hb); have n1_ := Aside0.mk (below_step (by repeat (first | (with_reducible first | exact HB.out | apply below_alloc | apply pw_below_drewN | apply below_drew1) | exact HB.out)) hb); clear BK HB hb; have BK := n0_; have HB := n1_; clear n0_ n1_; have hcb_0 : w5.cell? ⟨gb, 0, none⟩ = some (.int .i64 2) := (blk_cell BK.out 0).trans rfl; have hcb_1 : w5.cell? ⟨gb, 1, none⟩ = some (.int .i64 7) := (blk_cell BK.out 1).trans rfl; have hcb_2 : w5.cell? ⟨gb, 2, none⟩ = some (.int .i64 a1) := (blk_cell BK.out 2).trans rfl; have hcb_3 : w5.cell? ⟨gb, 3, none⟩ = some (.int .i64 0) := (blk_cell BK.out 3).trans rfl; have hcb_4 : w5.cell? ⟨gb, 4, none⟩ = some (.int .i64 0) := (blk_cell BK.out 4).trans rfl; have hcb_5 : w5.cell? ⟨gb, 5, none⟩ = some (.int .i64 0) := (blk_cell BK.out 5).trans rfl; have hcb_6 : w5.cell? ⟨gb, 6, none⟩ = some (.string ⟨#[]⟩) := (blk_cell BK.out 6).trans rfl))
  clear hcb_0 hcb_1 hcb_2 hcb_3 hcb_4 hcb_5 hcb_6 z1 z2 HT hc1 hc2
  have HT : Aside0 (s2.size ≤ 98) := ⟨by rw [← hs2, ByteArray.size_append]; have : (⟨#[119, 97, 105, 118, 101, 32, 55, 32]⟩ : ByteArray).size = 8 := rfl; omega⟩
  go_loopg [8] a0.size (fun kq v8 w' => ∃ x : Int, v8 = .int .i64 x ∧ Aside0 (0 ≤ x ∧ x + kq = a0.size) ∧ Aside0 (∀ j : Nat, (j : Int) < x → bt a0 (j : Int) ≠ 32) ∧ Aside0 (w'.heap[gb]? = some (.cells #[.int .i64 2, .int .i64 7, .int .i64 a1, .int .i64 0, .int .i64 0, .int .i64 0, .string ⟨#[]⟩] 23 (0, 0))) ∧ Aside0 (Below w.heap.size w w'))
  case atStart => exact ⟨0, rfl, ⟨⟨Int.le_refl _, by omega⟩⟩, ⟨fun j h => absurd h (by omega)⟩, BK, HB⟩
  case round =>
    obtain ⟨x, rfl, HI, HN, BK, HB⟩ := hrel
    by_cases hx : x < a0.size
    · have p0 : (0 ≤ x) = True := eq_true HI.out.1
      have q0 : (x < (a0.size : Int)) = True := eq_true hx
      have lt1 : decide (x < (a0.size : Int)) = true := decide_eq_true hx
      have hx4 := bt_at a0 x
      have HX := Aside0.mk hx
      by_cases h10 : bt a0 x = 32
      · have c1 : (bt a0 x == 32) = true := beq_iff_eq.2 h10
        clear h10 hx
        go_wp2
        go_ret
        exact ⟨rfl, HB.out⟩
      · have c1 : (bt a0 x == 32) = false := beq_eq_false_iff_ne.2 h10
        have hw : wrap64 (x + 1) = x + 1 := wrap_one HI.out.1 hx hzl
        have HN2 : Aside0 (∀ j : Nat, (j : Int) < x + 1 → bt a0 (j : Int) ≠ 32) := ⟨snoc_bt HN.out h10⟩
        clear h10 hx
        go_wp2
        go_roundg (a0.size - (x.toNat + 1))
        case measure => exact left_lt HI.out.1 HX.out HI.out.2
        case rel => exact ⟨x + 1, (by first | rfl | (simp; done) | go_num | (simp [*]; done)), ⟨left_step HI.out.1 HX.out⟩, HN2, BK, HB⟩
    · have lt1 : decide (x < (a0.size : Int)) = false := decide_eq_false hx
      have hno : ∀ j : Nat, j < a0.size → bt a0 (j : Int) ≠ 32 := fun j hj => HN.out j (by omega)
      have hc1 : (9223372036854775807 < 8 + a0.size) = False := eq_false (by omega)
      have hc2 : (9223372036854775807 < (⟨#[119, 97, 105, 118, 101, 32, 55, 32]⟩ : ByteArray).size + a0.size) = False := eq_false (by have : (⟨#[119, 97, 105, 118, 101, 32, 55, 32]⟩ : ByteArray).size = 8 := rfl; omega)
      have hcb_0 : wr.cell? ⟨gb, 0, none⟩ = some (.int .i64 2) := (blk_cell BK.out 0).trans rfl
      have hcb_1 : wr.cell? ⟨gb, 1, none⟩ = some (.int .i64 7) := (blk_cell BK.out 1).trans rfl
      have hcb_2 : wr.cell? ⟨gb, 2, none⟩ = some (.int .i64 a1) := (blk_cell BK.out 2).trans rfl
      have hcb_3 : wr.cell? ⟨gb, 3, none⟩ = some (.int .i64 0) := (blk_cell BK.out 3).trans rfl
      have hcb_4 : wr.cell? ⟨gb, 4, none⟩ = some (.int .i64 0) := (blk_cell BK.out 4).trans rfl
      have hcb_5 : wr.cell? ⟨gb, 5, none⟩ = some (.int .i64 0) := (blk_cell BK.out 5).trans rfl
      have hcb_6 : wr.cell? ⟨gb, 6, none⟩ = some (.string ⟨#[]⟩) := (blk_cell BK.out 6).trans rfl
      obtain ⟨k, n, ⟨hm, hp⟩ | ⟨hm, hp⟩⟩ := HEND.out hno
      · have HMP := Aside0.mk hm
        have HP := Aside0.mk hp
        clear hm hp hno
        go_wp2_with (first | (go_at_call 12; (with_reducible refine (mparse_c k a0 n true HMP.out _).mono ?_); rintro e w5 ⟨rfl, hb⟩; (try clear hcb_0 hcb_1 hcb_2 hcb_3 hcb_4 hcb_5 hcb_6); have n0_ := Aside0.mk (blk_below BK.out hb); have n1_ := Aside0.mk (below_step (by repeat (first | (with_reducible first | exact HB.out | apply below_alloc | apply pw_below_drewN | apply below_drew1) | exact HB.out)) hb); clear BK HB hb; have BK := n0_; have HB := n1_; clear n0_ n1_; have hcb_0 : w5.cell? ⟨gb, 0, none⟩ = some (.int .i64 2) := (blk_cell BK.out 0).trans rfl; have hcb_1 : w5.cell? ⟨gb, 1, none⟩ = some (.int .i64 7) := (blk_cell BK.out 1).trans rfl; have hcb_2 : w5.cell? ⟨gb, 2, none⟩ = some (.int .i64 a1) := (blk_cell BK.out 2).trans rfl; have hcb_3 : w5.cell? ⟨gb, 3, none⟩ = some (.int .i64 0) := (blk_cell BK.out 3).trans rfl; have hcb_4 : w5.cell? ⟨gb, 4, none⟩ = some (.int .i64 0) := (blk_cell BK.out 4).trans rfl; have hcb_5 : w5.cell? ⟨gb, 5, none⟩ = some (.int .i64 0) := (blk_cell BK.out 5).trans rfl; have hcb_6 : w5.cell? ⟨gb, 6, none⟩ = some (.string ⟨#[]⟩) := (blk_cell BK.out 6).trans rfl) | ((with_reducible refine gate_dst (N := 54) rfl ?_); refine conv_event rfl (N := 54) rfl s2 (byts s2) s2.size rfl (byts_len s2) (by have h_ := HT.out; omega) rfl rfl ?_; intro gc cc w6 hC hb hgc; (try clear hcb_0 hcb_1 hcb_2 hcb_3 hcb_4 hcb_5 hcb_6); have n0_ := Aside0.mk (hC); have n1_ := Aside0.mk (blk_below BK.out hb); have n2_ := Aside0.mk (below_step (by repeat (first | (with_reducible first | exact HB.out | apply below_alloc | apply pw_below_drewN | apply below_drew1) | exact HB.out)) hb); clear BK hC hgc HB hb; have HC := n0_; have BK := n1_; have HB := n2_; clear n0_ n1_ n2_) | (go_at_call 9; (with_reducible refine (parse_op_c 5 7 n 0 0 0 ⟨#[]⟩ _ _ (byts s2) s2.size (byts_len s2) HP.out _ HC.out (PowAt_below HRP.out (by repeat (first | (with_reducible first | exact HB.out | apply below_alloc | apply pw_below_drewN | apply below_drew1) | exact HB.out)))).mono ?_); rintro e w5 ⟨rfl, hb⟩; (try clear hcb_0 hcb_1 hcb_2 hcb_3 hcb_4 hcb_5 hcb_6); have n0_ := Aside0.mk (blk_below BK.out hb); have n1_ := Aside0.mk (below_step (by repeat (first | (with_reducible first | exact HB.out | apply below_alloc | apply pw_below_drewN | apply below_drew1) | exact HB.out)) hb); clear BK HC HB hb; have BK := n0_; have HB := n1_; clear n0_ n1_) | ((with_reducible refine gate_store (p := 5) rfl ?_); refine row_event rfl rfl rfl (g := gb) #[.int .i64 5, .int .i64 7, .int .i64 n, .int .i64 0, .int .i64 0, .int .i64 0, .string ⟨#[]⟩] rfl ?hy BK.out Zcs_info rfl (one_cells _ _ _ _ _ _ _) ?_; (case hy => first | rfl | (go_simp; done) | (go_simp; rfl)); intro w4 hrow ht; (try clear hcb_0 hcb_1 hcb_2 hcb_3 hcb_4 hcb_5 hcb_6); have n0_ := Aside0.mk (ht.below HB.out GK.out (below_size HB.out)); have n1_ := Aside0.mk (hrow); clear HB BK hrow ht; have HB := n0_; have BK := n1_; clear n0_ n1_; have hcb_0 : w4.cell? ⟨gb, 0, none⟩ = some (.int .i64 5) := (blk_cell BK.out 0).trans rfl; have hcb_1 : w4.cell? ⟨gb, 1, none⟩ = some (.int .i64 7) := (blk_cell BK.out 1).trans rfl; have hcb_2 : w4.cell? ⟨gb, 2, none⟩ = some (.int .i64 n) := (blk_cell BK.out 2).trans rfl; have hcb_3 : w4.cell? ⟨gb, 3, none⟩ = some (.int .i64 0) := (blk_cell BK.out 3).trans rfl; have hcb_4 : w4.cell? ⟨gb, 4, none⟩ = some (.int .i64 0) := (blk_cell BK.out 4).trans rfl; have hcb_5 : w4.cell? ⟨gb, 5, none⟩ = some (.int .i64 0) := (blk_cell BK.out 5).trans rfl; have hcb_6 : w4.cell? ⟨gb, 6, none⟩ = some (.string ⟨#[]⟩) := (blk_cell BK.out 6).trans rfl) | (go_at_call 11; (with_reducible refine (equal_c 5 7 n 0 0 0 ⟨#[]⟩ _).mono ?_); rintro e w5 ⟨rfl, hb⟩; (try clear hcb_0 hcb_1 hcb_2 hcb_3 hcb_4 hcb_5 hcb_6); have n0_ := Aside0.mk (blk_below BK.out hb); have n1_ := Aside0.mk (below_step (by repeat (first | (with_reducible first | exact HB.out | apply below_alloc | apply pw_below_drewN | apply below_drew1) | exact HB.out)) hb); clear BK HB hb; have BK := n0_; have HB := n1_; clear n0_ n1_))
        go_ret
        exact ⟨rfl, HB.out⟩
      · have HMP := Aside0.mk hm
        have h1 : (parseP (strOfNums (byts s2))).o = Zo := by rw [hp]; rfl
        have h2 : PR.errno (parseP (strOfNums (byts s2))) = 182 := by rw [hp]; rfl
        have h3 : PR.place (parseP (strOfNums (byts s2))) = 8 := by rw [hp]; rfl
        have H1 := Aside0.mk h1
        have H2 := Aside0.mk h2
        have H3 := Aside0.mk h3
        clear hm hp hno h1 h2 h3
        go_wp2_with (first | (go_at_call 12; (with_reducible refine (mparse_c k a0 n false HMP.out _).mono ?_); rintro e w5 ⟨rfl, hb⟩; (try clear hcb_0 hcb_1 hcb_2 hcb_3 hcb_4 hcb_5 hcb_6); have n0_ := Aside0.mk (blk_below BK.out hb); have n1_ := Aside0.mk (below_step (by repeat (first | (with_reducible first | exact HB.out | apply below_alloc | apply pw_below_drewN | apply below_drew1) | exact HB.out)) hb); clear BK HB hb; have BK := n0_; have HB := n1_; clear n0_ n1_; have hcb_0 : w5.cell? ⟨gb, 0, none⟩ = some (.int .i64 2) := (blk_cell BK.out 0).trans rfl; have hcb_1 : w5.cell? ⟨gb, 1, none⟩ = some (.int .i64 7) := (blk_cell BK.out 1).trans rfl; have hcb_2 : w5.cell? ⟨gb, 2, none⟩ = some (.int .i64 a1) := (blk_cell BK.out 2).trans rfl; have hcb_3 : w5.cell? ⟨gb, 3, none⟩ = some (.int .i64 0) := (blk_cell BK.out 3).trans rfl; have hcb_4 : w5.cell? ⟨gb, 4, none⟩ = some (.int .i64 0) := (blk_cell BK.out 4).trans rfl; have hcb_5 : w5.cell? ⟨gb, 5, none⟩ = some (.int .i64 0) := (blk_cell BK.out 5).trans rfl; have hcb_6 : w5.cell? ⟨gb, 6, none⟩ = some (.string ⟨#[]⟩) := (blk_cell BK.out 6).trans rfl) | ((with_reducible refine gate_dst (N := 54) rfl ?_); refine conv_event rfl (N := 54) rfl s2 (byts s2) s2.size rfl (byts_len s2) (by have h_ := HT.out; omega) rfl rfl ?_; intro gc cc w6 hC hb hgc; (try clear hcb_0 hcb_1 hcb_2 hcb_3 hcb_4 hcb_5 hcb_6); have n0_ := Aside0.mk (hC); have n1_ := Aside0.mk (blk_below BK.out hb); have n2_ := Aside0.mk (below_step (by repeat (first | (with_reducible first | exact HB.out | apply below_alloc | apply pw_below_drewN | apply below_drew1) | exact HB.out)) hb); clear BK hC hgc HB hb; have HC := n0_; have BK := n1_; have HB := n2_; clear n0_ n1_ n2_) | (go_at_call 9; (with_reducible refine (parse_err_c _ _ (byts s2) s2.size 182 8 (byts_len s2) H1.out H2.out H3.out _ HC.out (PowAt_below HRP.out (by repeat (first | (with_reducible first | exact HB.out | apply below_alloc | apply pw_below_drewN | apply below_drew1) | exact HB.out)))).mono ?_); rintro e w5 ⟨rfl, hb⟩; (try clear hcb_0 hcb_1 hcb_2 hcb_3 hcb_4 hcb_5 hcb_6); have n0_ := Aside0.mk (blk_below BK.out hb); have n1_ := Aside0.mk (below_step (by repeat (first | (with_reducible first | exact HB.out | apply below_alloc | apply pw_below_drewN | apply below_drew1) | exact HB.out)) hb); clear BK HC HB hb; have BK := n0_; have HB := n1_; clear n0_ n1_) | ((with_reducible refine gate_store (p := 5) rfl ?_); refine row_event rfl rfl rfl (g := gb) #[.int .i64 0, .int .i64 0, .int .i64 0, .int .i64 0, .int .i64 0, .int .i64 0, .string ⟨#[]⟩] rfl ?hy BK.out Zcs_info rfl (one_cells _ _ _ _ _ _ _) ?_; (case hy => first | rfl | (go_simp; done) | (go_simp; rfl)); intro w4 hrow ht; (try clear hcb_0 hcb_1 hcb_2 hcb_3 hcb_4 hcb_5 hcb_6); have n0_ := Aside0.mk (ht.below HB.out GK.out (below_size HB.out)); have n1_ := Aside0.mk (hrow); clear HB BK hrow ht; have HB := n0_; have BK := n1_; clear n0_ n1_; have hcb_0 : w4.cell? ⟨gb, 0, none⟩ = some (.int .i64 0) := (blk_cell BK.out 0).trans rfl; have hcb_1 : w4.cell? ⟨gb, 1, none⟩ = some (.int .i64 0) := (blk_cell BK.out 1).trans rfl; have hcb_2 : w4.cell? ⟨gb, 2, none⟩ = some (.int .i64 0) := (blk_cell BK.out 2).trans rfl; have hcb_3 : w4.cell? ⟨gb, 3, none⟩ = some (.int .i64 0) := (blk_cell BK.out 3).trans rfl; have hcb_4 : w4.cell? ⟨gb, 4, none⟩ = some (.int .i64 0) := (blk_cell BK.out 4).trans rfl; have hcb_5 : w4.cell? ⟨gb, 5, none⟩ = some (.int .i64 0) := (blk_cell BK.out 5).trans rfl; have hcb_6 : w4.cell? ⟨gb, 6, none⟩ = some (.string ⟨#[]⟩) := (blk_cell BK.out 6).trans rfl) | (go_at_call 11; (with_reducible refine (equal_c 0 0 0 0 0 0 ⟨#[]⟩ _).mono ?_); rintro e w5 ⟨rfl, hb⟩; (try clear hcb_0 hcb_1 hcb_2 hcb_3 hcb_4 hcb_5 hcb_6); have n0_ := Aside0.mk (blk_below BK.out hb); have n1_ := Aside0.mk (below_step (by repeat (first | (with_reducible first | exact HB.out | apply below_alloc | apply pw_below_drewN | apply below_drew1) | exact HB.out)) hb); clear BK HB hb; have BK := n0_; have HB := n1_; clear n0_ n1_))
        go_ret
        exact ⟨rfl, HB.out⟩
theorem pay_line {x : Int} (hx : I64 x) : ∃ t s1, money_Format.f x = some t ∧ t.size ≤ 21 ∧ (⟨#[112, 97, 121, 32, 55, 32]⟩ : ByteArray) ++ t = s1 ∧ parseP (strOfNums (byts s1)) = .op ⟨2, 7, x, 0, 0, 0, ⟨#[]⟩⟩ := by
  have hl : (strOfNums (MPars.fl x)).size ≤ 21 := by
    have := FAmt.fl_len hx
    rw [← FAmt.byts_fl, byts_len] at this
    exact this
  refine ⟨strOfNums (MPars.fl x), _, FAmt.format_eq hx, hl, rfl, ?_⟩
  rw [str_byts]
  have h7 : script_digits.f 7 = some (⟨#[55]⟩, true) := by
    rw [digits_eq (by decide) (by decide)]
    decide +kernel
  have hI : I6 ⟨2, 7, x, 0, 0, 0, ⟨#[]⟩⟩ := ⟨by show I64 7; unfold I64; decide, hx, by show I64 0; unfold I64; decide, by show I64 0; unfold I64; decide, by show I64 0; unfold I64; decide⟩
  have ht : TW ⟨2, 7, x, 0, 0, 0, ⟨#[]⟩⟩ (shapeL 2) [⟨#[55]⟩, strOfNums (MPars.fl x)] := by
    refine ⟨h7, ?_, trivial⟩
    show (money_Format.f x).map _ = _
    rw [FAmt.format_eq hx]
    rfl
  have hj : jb (nameAt 2) [⟨#[55]⟩, strOfNums (MPars.fl x)] = (⟨#[112, 97, 121, 32, 55, 32]⟩ : ByteArray) ++ strOfNums (MPars.fl x) := by
    apply data_inj
    rw [jb_data, ba_app]
    unfold jn
    simp only [List.map_cons, List.map_nil, List.flatMap_cons, List.flatMap_nil, List.append_nil]
    rfl
  have hf : fmtF 2 7 x 0 0 0 ⟨#[]⟩ = some ((⟨#[112, 97, 121, 32, 55, 32]⟩ : ByteArray) ++ strOfNums (MPars.fl x), true) := by
    unfold fmtF
    rw [if_neg (by decide), if_neg (by decide), fmtL_tw (shapeL 2) _ (nameAt 2) ⟨2, 7, x, 0, 0, 0, ⟨#[]⟩⟩ ht (by rw [hj, ByteArray.size_append]; have : (⟨#[112, 97, 121, 32, 55, 32]⟩ : ByteArray).size = 6 := rfl; omega), hj]
  obtain ⟨hp, _⟩ := fmt_parse (o := ⟨2, 7, x, 0, 0, 0, ⟨#[]⟩⟩) hI hf
  rw [hp]
  rfl
theorem waive_line {s : ByteArray} (hs : s.size ≤ 90) (hn : ∀ j : Nat, j < s.size → bt s (j : Int) ≠ 32) : ∃ (k : Nat) (n : Int), (money_Parse.f k s = some (n, true) ∧ parseP (strOfNums (byts ((⟨#[119, 97, 105, 118, 101, 32, 55, 32]⟩ : ByteArray) ++ s))) = .op ⟨5, 7, n, 0, 0, 0, ⟨#[]⟩⟩) ∨ (money_Parse.f k s = some (n, false) ∧ parseP (strOfNums (byts ((⟨#[119, 97, 105, 118, 101, 32, 55, 32]⟩ : ByteArray) ++ s))) = .plc 8 182) := by
  obtain ⟨k, hk⟩ := MText.parse_ev s (by omega)
  have hk1 : money_Parse.f k s = some ((am s).1, (am s).2) := hk k (Nat.le_refl _)
  refine ⟨k, (am s).1, ?_⟩
  have h32 : (32 : UInt8) ∉ s.data.toList := fun m => by
    obtain ⟨j, hj, e⟩ := List.getElem_of_mem m
    have hjs : j < s.size := by rw [Array.length_toList] at hj; exact hj
    refine hn j hjs ?_
    rw [bt_byts]
    unfold byts
    rw [List.getD_eq_getElem?_getD, List.getElem?_map, List.getElem?_eq_getElem hj, e]
    rfl
  rw [str_byts]
  have hw : wordsOf ((⟨#[119, 97, 105, 118, 101, 32, 55, 32]⟩ : ByteArray) ++ s) = ⟨#[119, 97, 105, 118, 101]⟩ :: [⟨#[55]⟩, s] := by
    refine words_jn ?_ (by decide) (fun w hm => ?_)
    · rw [ba_app]
      unfold jn
      simp only [List.map_cons, List.map_nil, List.flatMap_cons, List.flatMap_nil, List.append_nil]
      rfl
    · rcases List.mem_cons.1 hm with rfl | hm
      · decide
      · rw [List.mem_singleton.1 hm]; exact h32
  have hz : ¬ 100 < ((⟨#[119, 97, 105, 118, 101, 32, 55, 32]⟩ : ByteArray) ++ s).size := by rw [ByteArray.size_append]; have : (⟨#[119, 97, 105, 118, 101, 32, 55, 32]⟩ : ByteArray).size = 8 := rfl; omega
  have hkd : kindP ⟨#[119, 97, 105, 118, 101]⟩ = 5 := by decide +kernel
  have hw7 : wv ⟨#[55]⟩ = some 7 := by decide +kernel
  have hsh : shapeL 5 = [76, 65] := rfl
  have hp : parseP ((⟨#[119, 97, 105, 118, 101, 32, 55, 32]⟩ : ByteArray) ++ s) = prun [65] [s] ⟨5, 7, 0, 0, 0, 0, ⟨#[]⟩⟩ 8 := by
    unfold parseP
    rw [if_neg hz, hw, parseW_cons, hkd, if_neg (by decide), hsh, if_pos (show [(⟨#[55]⟩ : ByteArray), s].length = [76, 65].length from rfl), prun]
    have hr : readP 76 ⟨#[55]⟩ { Zo with a0 := 5 } = (false, ⟨5, 7, 0, 0, 0, 0, ⟨#[]⟩⟩) := by
      unfold readP
      rw [if_neg (by decide), if_neg (by decide), if_neg (by decide), if_neg (by decide), if_pos rfl, hw7]
      rfl
    rw [hr]
    rfl
  rw [hp, prun]
  have hr : readP 65 s ⟨5, 7, 0, 0, 0, 0, ⟨#[]⟩⟩ = if (am s).2 = true then (false, ⟨5, 7, (am s).1, 0, 0, 0, ⟨#[]⟩⟩) else (true, ⟨5, 7, 0, 0, 0, 0, ⟨#[]⟩⟩) := rfl
  rw [hr]
  cases ha : (am s).2 with
  | true =>
    rw [ha] at hk1
    exact .inl ⟨hk1, rfl⟩
  | false =>
    rw [ha] at hk1
    exact .inr ⟨hk1, rfl⟩
theorem amts_c (a0 : ByteArray) (a1 : Int) (h1 : I64 a1) (w : World) (hrP : PowAt w) : Calls Tryd.prog 4 #[.string a0, .int .i64 a1] w fun e w' => e = .returned (.bool true) ∧ Below w.heap.size w w' := by
  obtain ⟨t, s1, hf, hts, hs1, hp1⟩ := pay_line h1
  by_cases hz : 90 < a0.size
  · exact amts_long a0 a1 w hrP t s1 hf hts hs1 hp1 hz
  · exact amts_go a0 a1 w hrP t s1 hf hts hs1 hp1 hz _ rfl (fun hn => waive_line (Nat.le_of_not_lt hz) hn)
end Go.Proofs.YtjhodgcjkobpoaaDoor.FAmts
