/- arrearslaw18.ScriptFresh by hand: it answers true. Conditions: the variable MaxLen holds a number; the text's bytes are bytes. -/
import Derived.Test.YtpglakfafanhoaaNEv
import Derived.Deep.LoopGhost
import Derived.BigRegion
namespace Go.Proofs.Ytpglakfafanhoaa.NFresh
open Go.RowKit Go.Proofs.YtpglakfafanhoaaW.PrintWords Go.Proofs.YtpglakfafanhoaaW.PrintLast Go.Proofs.YtpglakfafanhoaaW.PrintMore Go.Proofs.Ytpglakfafanhoaa.PA Go.Proofs.Ytpglakfafanhoaa.NPl Go.Proofs.Ytpglakfafanhoaa.NRows Go.Proofs.Ytpglakfafanhoaa.NEv
set_option linter.unusedVariables false
set_option linter.unusedSimpArgs false
set_option maxHeartbeats 8000000 in
set_option maxRecDepth 100000 in
theorem fresh_long (A0 : Option Addr) (c0 : Nat) (l0 : List Int) (w : World) (hr0 : Kd.C (Kd.int .u8) w A0 l0.length l0) (hc0 : l0.length ≤ c0) (hrM : MaxAt w) (hby : ∀ x ∈ l0, 0 ≤ x ∧ x ≤ 255) (hz : 200000 < l0.length) : Calls Try.prog 4 #[.slice A0 l0.length c0] w fun e w' => e = .returned (.bool true) ∧ Below w.heap.size w w' := by
  have HB := Aside0.mk (Below.refl w.heap.size w)
  have HRM := Aside0.mk hrM
  have HR0 := Aside0.mk hr0
  have HC0 := Aside0.mk hc0
  clear hrM hr0 hc0
  have z1 : decide ((l0.length : Int) > 200000) = true := decide_eq_true (by omega)
  have z2 : decide (200000 < l0.length) = true := decide_eq_true hz
  clear hz hby
  go_enter Try.func4, Try.ntmps4
  go_wp2
  go_ret
  exact ⟨rfl, HB.out⟩
set_option maxHeartbeats 8000000 in
set_option maxRecDepth 100000 in
theorem fresh_many (A0 : Option Addr) (c0 : Nat) (l0 : List Int) (w : World) (hr0 : Kd.C (Kd.int .u8) w A0 l0.length l0) (hc0 : l0.length ≤ c0) (hrM : MaxAt w) (hby : ∀ x ∈ l0, 0 ≤ x ∧ x ≤ 255) (hz : ¬ 200000 < l0.length) (Ls : List (List Int)) (m : Nat) (hL : scan (HEAD5 ++ l0) [] = Ls) (hm : Ls.length = m) (h40 : 40 < m) : Calls Try.prog 4 #[.slice A0 l0.length c0] w fun e w' => e = .returned (.bool true) ∧ Below w.heap.size w w' := by
  have HB := Aside0.mk (Below.refl w.heap.size w)
  have HRM := Aside0.mk hrM
  have HR0 := Aside0.mk hr0
  have HC0 := Aside0.mk hc0
  clear hrM hr0 hc0
  have z1 : decide ((l0.length : Int) > 200000) = false := decide_eq_false (by omega)
  have z2 : decide (200000 < l0.length) = false := decide_eq_false (by omega)
  have HSM : Aside0 (l0.length ≤ 200000) := ⟨by omega⟩
  have HXL : Aside0 ((HEAD5 ++ l0).length = l0.length + 5) := ⟨by rw [List.length_append]; exact Nat.add_comm _ _⟩
  have HBY : Aside0 (∀ x ∈ HEAD5 ++ l0, 0 ≤ x ∧ x < 256) := ⟨fun x hx => by
    rcases List.mem_append.1 hx with h | h
    · exact (by decide : ∀ x ∈ HEAD5, (0 : Int) ≤ x ∧ x < 256) x h
    · have := hby x h; omega⟩
  have HL := Aside0.mk hL
  have HM := Aside0.mk hm
  have HP : Aside0 (0 < m) := ⟨by rw [← hm, ← hL, scan_calm]; exact Nat.succ_pos _⟩
  clear hz hby hL hm
  have z3 : decide ((m : Int) > 40) = true := decide_eq_true (by omega)
  have z4 : decide (40 < m) = true := decide_eq_true h40
  clear h40
  go_enter Try.func4, Try.ntmps4
  go_upto_region 5 with (first | ((with_reducible refine gate_dst (N := 24) rfl ?_); refine nlit_event ?hg (N := 24) ?hd ?hr ?_; (case hd => rfl); (case hg => rfl); (case hr => first | (go_simp; done) | (go_simp; rfl)); intro g1 hg w3 hbox hb; have n0_ := Aside0.mk (hg ▸ below_size (by repeat (first | (with_reducible first | exact HB.out | apply below_alloc | apply pw_below_drewN | apply below_drew1) | exact HB.out)) : w.heap.size ≤ g1); have n1_ := Aside0.mk (hbox); have n2_ := Aside0.mk (below_step (by repeat (first | (with_reducible first | exact HB.out | apply below_alloc | apply pw_below_drewN | apply below_drew1) | exact HB.out)) hb); clear HB hb hbox; have G1 := n0_; have BL := n1_; have HB := n2_; clear n0_ n1_ n2_; clear hg) | ((with_reducible refine gate_dst (N := 25) rfl ?_); refine nmark_event rfl (N := 25) rfl (g := g1) rfl rfl BL.out ?_; intro w4 hbox ht; have n0_ := Aside0.mk (hbox); have n1_ := Aside0.mk (ht.below HB.out G1.out (below_size HB.out)); clear HB BL hbox ht; have BL := n0_; have HB := n1_; clear n0_ n1_) | ((with_reducible refine gate_builtin (b := .append) (xs := #[.tmp 25, .tmp 26]) rfl ?_); at_builtin; refine njoin_event rfl (.tmp 25) (.tmp 26) rfl (g := g1) rfl BL.out (A := A0) (n := l0.length) (c := c0) (l := l0) rfl (Kd.C_below HR0.out (by repeat (first | (with_reducible first | exact HB.out | apply below_alloc | apply pw_below_drewN | apply below_drew1) | exact HB.out))) HSM.out (B := w.heap.size) G1.out (below_size HB.out) ?_; intro gx nx cx w7 cellsx fzx hnx hcx hwx hrx hb hgx; have n0_ := Aside0.mk (hwx); have n1_ := Aside0.mk (hrx); have n2_ := Aside0.mk (hnx); have n3_ := Aside0.mk (hcx); have n4_ := Aside0.mk (hgx); have n5_ := Aside0.mk (below_step (by repeat (first | (with_reducible first | exact HB.out | apply below_alloc | apply pw_below_drewN | apply below_drew1) | exact HB.out)) hb); clear HB hb hwx hrx hnx hcx hgx BL G1; have WX := n0_; have RX := n1_; have NX := n2_; have CX := n3_; have GX := n4_; have HB := n5_; clear n0_ n1_ n2_ n3_ n4_ n5_) | (go_at_call 10; (with_reducible refine (copied_c (some ⟨gx, 0, none⟩) cx (HEAD5 ++ l0) nx (HXL.out.trans NX.out.symm) (by have h2_ := NX.out; omega) (by have h_ := HSM.out; have h2_ := NX.out; omega) _ (C_row WX.out RX.out (HXL.out.trans NX.out.symm) (by have h_ := HSM.out; have h2_ := NX.out; omega)) CX.out).mono ?_); rintro e w5 ⟨gkp, vk, rfl, hk, hb, hgkp⟩; have n0_ := Aside0.mk (blk_below WX.out hb); have n1_ := Aside0.mk (hk); have n2_ := Aside0.mk (Nat.le_trans (below_size (by repeat (first | (with_reducible first | exact HB.out | apply below_alloc | apply pw_below_drewN | apply below_drew1) | exact HB.out))) hgkp); have n3_ := Aside0.mk (fun e => by have h_ := blk_lt WX.out; rw [e] at h_; exact absurd h_ (Nat.not_lt.2 hgkp) : gx ≠ gkp); have n4_ := Aside0.mk (below_step (by repeat (first | (with_reducible first | exact HB.out | apply below_alloc | apply pw_below_drewN | apply below_drew1) | exact HB.out)) hb); clear WX HB hb hk hgkp; have WX := n0_; have KX := n1_; have GK := n2_; have XK := n3_; have HB := n4_; clear n0_ n1_ n2_ n3_ n4_; obtain ⟨ck, cellsk_, ek_, hck_, _, _, _, _⟩ := KX.out; rw [HXL.out] at ek_ hck_; subst ek_; have CK := Aside0.mk hck_; clear hck_))
  go_upto_region 6 with (first | (go_at_call 6; (with_reducible refine (lines_c (some ⟨gx, 0, none⟩) cx (HEAD5 ++ l0) nx (HXL.out.trans NX.out.symm) Ls m HL.out HM.out HP.out (by have h_ := HSM.out; rw [List.length_append]; have h3_ : HEAD5.length = 5 := rfl; omega) HBY.out _ (C_row WX.out RX.out (HXL.out.trans NX.out.symm) (by have h_ := HSM.out; have h2_ := NX.out; omega)) CX.out (MaxAt_below HRM.out (by repeat (first | (with_reducible first | exact HB.out | apply below_alloc | apply pw_below_drewN | apply below_drew1) | exact HB.out)))).mono ?_); rintro e w5 ⟨h1, cl1, vs1, bs1, rfl, hc_, ht_, hr_, hi_, hh_, hbs_, hb⟩; have n0_ := Aside0.mk (blk_below WX.out hb); have n1_ := Aside0.mk (KX.out.below hb); have n2_ := Aside0.mk (hc_); have n3_ := Aside0.mk (ht_); have n4_ := Aside0.mk (hr_); have n5_ := Aside0.mk (hi_); have n6_ := Aside0.mk (Nat.le_trans (below_size (by repeat (first | (with_reducible first | exact HB.out | apply below_alloc | apply pw_below_drewN | apply below_drew1) | exact HB.out))) hh_); have n7_ := Aside0.mk (fun j hj => Nat.le_trans (below_size (by repeat (first | (with_reducible first | exact HB.out | apply below_alloc | apply pw_below_drewN | apply below_drew1) | exact HB.out))) (hbs_ j hj) : ∀ j, j < m → w.heap.size ≤ bs1 j); have n8_ := Aside0.mk (fun j hj e => by have h_ := blk_lt WX.out; rw [e] at h_; exact absurd h_ (Nat.not_lt.2 (hbs_ j hj)) : ∀ j, j < m → gx ≠ bs1 j); have n9_ := Aside0.mk (fun j hj e => by have h_ := KX.out.lt; rw [e] at h_; exact absurd h_ (Nat.not_lt.2 (hbs_ j hj)) : ∀ j, j < m → gkp ≠ bs1 j); have n10_ := Aside0.mk (below_step (by repeat (first | (with_reducible first | exact HB.out | apply below_alloc | apply pw_below_drewN | apply below_drew1) | exact HB.out)) hb); clear WX KX HB hb hc_ ht_ hr_ hi_ hh_ hbs_; have WX := n0_; have KX := n1_; have C1 := n2_; have T1 := n3_; have R1 := n4_; have I1 := n5_; have LH1 := n6_; have LB1 := n7_; have XB1 := n8_; have KB1 := n9_; have HB := n10_; clear n0_ n1_ n2_ n3_ n4_ n5_ n6_ n7_ n8_ n9_ n10_))
  go_upto_region 7 with (first | (go_at_call 6; (with_reducible refine (lines_c (some ⟨gx, 0, none⟩) cx (HEAD5 ++ l0) nx (HXL.out.trans NX.out.symm) Ls m HL.out HM.out HP.out (by have h_ := HSM.out; rw [List.length_append]; have h3_ : HEAD5.length = 5 := rfl; omega) HBY.out _ (C_row WX.out RX.out (HXL.out.trans NX.out.symm) (by have h_ := HSM.out; have h2_ := NX.out; omega)) CX.out (MaxAt_below HRM.out (by repeat (first | (with_reducible first | exact HB.out | apply below_alloc | apply pw_below_drewN | apply below_drew1) | exact HB.out)))).mono ?_); rintro e w5 ⟨h2, cl2, vs2, bs2, rfl, hc_, ht_, hr_, hi_, hh_, hbs_, hb⟩; have n0_ := Aside0.mk (blk_below WX.out hb); have n1_ := Aside0.mk (KX.out.below hb); have n2_ := Aside0.mk (T1.out.below hb); have n3_ := Aside0.mk (R1.out.below hb); have n4_ := Aside0.mk (hc_); have n5_ := Aside0.mk (ht_); have n6_ := Aside0.mk (hr_); have n7_ := Aside0.mk (hi_); have n8_ := Aside0.mk (Nat.le_trans (below_size (by repeat (first | (with_reducible first | exact HB.out | apply below_alloc | apply pw_below_drewN | apply below_drew1) | exact HB.out))) hh_); have n9_ := Aside0.mk (fun j hj => Nat.le_trans (below_size (by repeat (first | (with_reducible first | exact HB.out | apply below_alloc | apply pw_below_drewN | apply below_drew1) | exact HB.out))) (hbs_ j hj) : ∀ j, j < m → w.heap.size ≤ bs2 j); have n10_ := Aside0.mk (fun j hj e => by have h_ := blk_lt WX.out; rw [e] at h_; exact absurd h_ (Nat.not_lt.2 (hbs_ j hj)) : ∀ j, j < m → gx ≠ bs2 j); have n11_ := Aside0.mk (fun j hj e => by have h_ := KX.out.lt; rw [e] at h_; exact absurd h_ (Nat.not_lt.2 (hbs_ j hj)) : ∀ j, j < m → gkp ≠ bs2 j); have n12_ := Aside0.mk (fun i j hi hj e => by have h_ := (R1.out i hi).lt; rw [e] at h_; exact absurd h_ (Nat.not_lt.2 (hbs_ j hj)) : ∀ i j, i < m → j < m → bs1 i ≠ bs2 j); have n13_ := Aside0.mk (below_step (by repeat (first | (with_reducible first | exact HB.out | apply below_alloc | apply pw_below_drewN | apply below_drew1) | exact HB.out)) hb); clear WX KX T1 R1 HB hb hc_ ht_ hr_ hi_ hh_ hbs_; have WX := n0_; have KX := n1_; have T1 := n2_; have R1 := n3_; have C2 := n4_; have T2 := n5_; have R2 := n6_; have I2 := n7_; have LH2 := n8_; have LB2 := n9_; have XB2 := n10_; have KB2 := n11_; have DB := n12_; have HB := n13_; clear n0_ n1_ n2_ n3_ n4_ n5_ n6_ n7_ n8_ n9_ n10_ n11_ n12_ n13_))
  go_wp2
  go_ret
  exact ⟨rfl, HB.out⟩
theorem calm_text : (strOfNums CALM).toList = [99, 97, 108, 109] := by rw [ByteArray.toList_eq]; rfl
set_option maxHeartbeats 8000000 in
set_option maxRecDepth 100000 in
theorem fresh_go (A0 : Option Addr) (c0 : Nat) (l0 : List Int) (w : World) (hr0 : Kd.C (Kd.int .u8) w A0 l0.length l0) (hc0 : l0.length ≤ c0) (hrM : MaxAt w) (hby : ∀ x ∈ l0, 0 ≤ x ∧ x ≤ 255) (hz : ¬ 200000 < l0.length) (Ls : List (List Int)) (m : Nat) (hL : scan (HEAD5 ++ l0) [] = Ls) (hm : Ls.length = m) (h40 : ¬ 40 < m) (hlls : ∀ l ∈ Ls, l.length ≤ 1048576) (hlf : ∀ l ∈ Ls, l ≠ []) (hl0 : Ls.getD 0 [] = CALM) : Calls Try.prog 4 #[.slice A0 l0.length c0] w fun e w' => e = .returned (.bool true) ∧ Below w.heap.size w w' := by
  have HB := Aside0.mk (Below.refl w.heap.size w)
  have HRM := Aside0.mk hrM
  have HR0 := Aside0.mk hr0
  have HC0 := Aside0.mk hc0
  clear hrM hr0 hc0
  have z1 : decide ((l0.length : Int) > 200000) = false := decide_eq_false (by omega)
  have z2 : decide (200000 < l0.length) = false := decide_eq_false (by omega)
  have HSM : Aside0 (l0.length ≤ 200000) := ⟨by omega⟩
  have HXL : Aside0 ((HEAD5 ++ l0).length = l0.length + 5) := ⟨by rw [List.length_append]; exact Nat.add_comm _ _⟩
  have HBY : Aside0 (∀ x ∈ HEAD5 ++ l0, 0 ≤ x ∧ x < 256) := ⟨fun x hx => by
    rcases List.mem_append.1 hx with h | h
    · exact (by decide : ∀ x ∈ HEAD5, (0 : Int) ≤ x ∧ x < 256) x h
    · have := hby x h; omega⟩
  have HL := Aside0.mk hL
  have HM := Aside0.mk hm
  have HP : Aside0 (0 < m) := ⟨by rw [← hm, ← hL, scan_calm]; exact Nat.succ_pos _⟩
  clear hz hby hL hm
  have z3 : decide ((m : Int) > 40) = false := decide_eq_false (by omega)
  have z4 : decide (40 < m) = false := decide_eq_false (by omega)
  have HM40 : Aside0 (m ≤ 40) := ⟨by omega⟩
  have q0 : ((m : Int) == 0) = false := beq_eq_false_iff_ne.2 (by have h_ := HP.out; omega)
  have q1 : (0 < m) = True := eq_true HP.out
  have HLL : Aside0 (∀ l ∈ Ls, l.length ≤ 1048576) := ⟨hlls⟩
  have HFL : Aside0 (∀ l ∈ Ls, l ≠ []) := ⟨hlf⟩
  have HL0 : Aside0 (Ls.getD 0 [] = CALM) := ⟨hl0⟩
  clear h40 hlls hlf hl0
  go_enter Try.func4, Try.ntmps4
  go_upto_region 5 with (first | ((with_reducible refine gate_dst (N := 24) rfl ?_); refine nlit_event ?hg (N := 24) ?hd ?hr ?_; (case hd => rfl); (case hg => rfl); (case hr => first | (go_simp; done) | (go_simp; rfl)); intro g1 hg w3 hbox hb; have n0_ := Aside0.mk (hg ▸ below_size (by repeat (first | (with_reducible first | exact HB.out | apply below_alloc | apply pw_below_drewN | apply below_drew1) | exact HB.out)) : w.heap.size ≤ g1); have n1_ := Aside0.mk (hbox); have n2_ := Aside0.mk (below_step (by repeat (first | (with_reducible first | exact HB.out | apply below_alloc | apply pw_below_drewN | apply below_drew1) | exact HB.out)) hb); clear HB hb hbox; have G1 := n0_; have BL := n1_; have HB := n2_; clear n0_ n1_ n2_; clear hg) | ((with_reducible refine gate_dst (N := 25) rfl ?_); refine nmark_event rfl (N := 25) rfl (g := g1) rfl rfl BL.out ?_; intro w4 hbox ht; have n0_ := Aside0.mk (hbox); have n1_ := Aside0.mk (ht.below HB.out G1.out (below_size HB.out)); clear HB BL hbox ht; have BL := n0_; have HB := n1_; clear n0_ n1_) | ((with_reducible refine gate_builtin (b := .append) (xs := #[.tmp 25, .tmp 26]) rfl ?_); at_builtin; refine njoin_event rfl (.tmp 25) (.tmp 26) rfl (g := g1) rfl BL.out (A := A0) (n := l0.length) (c := c0) (l := l0) rfl (Kd.C_below HR0.out (by repeat (first | (with_reducible first | exact HB.out | apply below_alloc | apply pw_below_drewN | apply below_drew1) | exact HB.out))) HSM.out (B := w.heap.size) G1.out (below_size HB.out) ?_; intro gx nx cx w7 cellsx fzx hnx hcx hwx hrx hb hgx; have n0_ := Aside0.mk (hwx); have n1_ := Aside0.mk (hrx); have n2_ := Aside0.mk (hnx); have n3_ := Aside0.mk (hcx); have n4_ := Aside0.mk (hgx); have n5_ := Aside0.mk (below_step (by repeat (first | (with_reducible first | exact HB.out | apply below_alloc | apply pw_below_drewN | apply below_drew1) | exact HB.out)) hb); clear HB hb hwx hrx hnx hcx hgx BL G1; have WX := n0_; have RX := n1_; have NX := n2_; have CX := n3_; have GX := n4_; have HB := n5_; clear n0_ n1_ n2_ n3_ n4_ n5_) | (go_at_call 10; (with_reducible refine (copied_c (some ⟨gx, 0, none⟩) cx (HEAD5 ++ l0) nx (HXL.out.trans NX.out.symm) (by have h2_ := NX.out; omega) (by have h_ := HSM.out; have h2_ := NX.out; omega) _ (C_row WX.out RX.out (HXL.out.trans NX.out.symm) (by have h_ := HSM.out; have h2_ := NX.out; omega)) CX.out).mono ?_); rintro e w5 ⟨gkp, vk, rfl, hk, hb, hgkp⟩; have n0_ := Aside0.mk (blk_below WX.out hb); have n1_ := Aside0.mk (hk); have n2_ := Aside0.mk (Nat.le_trans (below_size (by repeat (first | (with_reducible first | exact HB.out | apply below_alloc | apply pw_below_drewN | apply below_drew1) | exact HB.out))) hgkp); have n3_ := Aside0.mk (fun e => by have h_ := blk_lt WX.out; rw [e] at h_; exact absurd h_ (Nat.not_lt.2 hgkp) : gx ≠ gkp); have n4_ := Aside0.mk (below_step (by repeat (first | (with_reducible first | exact HB.out | apply below_alloc | apply pw_below_drewN | apply below_drew1) | exact HB.out)) hb); clear WX HB hb hk hgkp; have WX := n0_; have KX := n1_; have GK := n2_; have XK := n3_; have HB := n4_; clear n0_ n1_ n2_ n3_ n4_; obtain ⟨ck, cellsk_, ek_, hck_, _, _, _, _⟩ := KX.out; rw [HXL.out] at ek_ hck_; subst ek_; have CK := Aside0.mk hck_; clear hck_))
  go_upto_region 6 with (first | (go_at_call 6; (with_reducible refine (lines_c (some ⟨gx, 0, none⟩) cx (HEAD5 ++ l0) nx (HXL.out.trans NX.out.symm) Ls m HL.out HM.out HP.out (by have h_ := HSM.out; rw [List.length_append]; have h3_ : HEAD5.length = 5 := rfl; omega) HBY.out _ (C_row WX.out RX.out (HXL.out.trans NX.out.symm) (by have h_ := HSM.out; have h2_ := NX.out; omega)) CX.out (MaxAt_below HRM.out (by repeat (first | (with_reducible first | exact HB.out | apply below_alloc | apply pw_below_drewN | apply below_drew1) | exact HB.out)))).mono ?_); rintro e w5 ⟨h1, cl1, vs1, bs1, rfl, hc_, ht_, hr_, hi_, hh_, hbs_, hb⟩; have n0_ := Aside0.mk (blk_below WX.out hb); have n1_ := Aside0.mk (KX.out.below hb); have n2_ := Aside0.mk (hc_); have n3_ := Aside0.mk (ht_); have n4_ := Aside0.mk (hr_); have n5_ := Aside0.mk (hi_); have n6_ := Aside0.mk (Nat.le_trans (below_size (by repeat (first | (with_reducible first | exact HB.out | apply below_alloc | apply pw_below_drewN | apply below_drew1) | exact HB.out))) hh_); have n7_ := Aside0.mk (fun j hj => Nat.le_trans (below_size (by repeat (first | (with_reducible first | exact HB.out | apply below_alloc | apply pw_below_drewN | apply below_drew1) | exact HB.out))) (hbs_ j hj) : ∀ j, j < m → w.heap.size ≤ bs1 j); have n8_ := Aside0.mk (fun j hj e => by have h_ := blk_lt WX.out; rw [e] at h_; exact absurd h_ (Nat.not_lt.2 (hbs_ j hj)) : ∀ j, j < m → gx ≠ bs1 j); have n9_ := Aside0.mk (fun j hj e => by have h_ := KX.out.lt; rw [e] at h_; exact absurd h_ (Nat.not_lt.2 (hbs_ j hj)) : ∀ j, j < m → gkp ≠ bs1 j); have n10_ := Aside0.mk (below_step (by repeat (first | (with_reducible first | exact HB.out | apply below_alloc | apply pw_below_drewN | apply below_drew1) | exact HB.out)) hb); clear WX KX HB hb hc_ ht_ hr_ hi_ hh_ hbs_; have WX := n0_; have KX := n1_; have C1 := n2_; have T1 := n3_; have R1 := n4_; have I1 := n5_; have LH1 := n6_; have LB1 := n7_; have XB1 := n8_; have KB1 := n9_; have HB := n10_; clear n0_ n1_ n2_ n3_ n4_ n5_ n6_ n7_ n8_ n9_ n10_))
  go_upto_region 7 with (first | (go_at_call 6; (with_reducible refine (lines_c (some ⟨gx, 0, none⟩) cx (HEAD5 ++ l0) nx (HXL.out.trans NX.out.symm) Ls m HL.out HM.out HP.out (by have h_ := HSM.out; rw [List.length_append]; have h3_ : HEAD5.length = 5 := rfl; omega) HBY.out _ (C_row WX.out RX.out (HXL.out.trans NX.out.symm) (by have h_ := HSM.out; have h2_ := NX.out; omega)) CX.out (MaxAt_below HRM.out (by repeat (first | (with_reducible first | exact HB.out | apply below_alloc | apply pw_below_drewN | apply below_drew1) | exact HB.out)))).mono ?_); rintro e w5 ⟨h2, cl2, vs2, bs2, rfl, hc_, ht_, hr_, hi_, hh_, hbs_, hb⟩; have n0_ := Aside0.mk (blk_below WX.out hb); have n1_ := Aside0.mk (KX.out.below hb); have n2_ := Aside0.mk (T1.out.below hb); have n3_ := Aside0.mk (R1.out.below hb); have n4_ := Aside0.mk (hc_); have n5_ := Aside0.mk (ht_); have n6_ := Aside0.mk (hr_); have n7_ := Aside0.mk (hi_); have n8_ := Aside0.mk (Nat.le_trans (below_size (by repeat (first | (with_reducible first | exact HB.out | apply below_alloc | apply pw_below_drewN | apply below_drew1) | exact HB.out))) hh_); have n9_ := Aside0.mk (fun j hj => Nat.le_trans (below_size (by repeat (first | (with_reducible first | exact HB.out | apply below_alloc | apply pw_below_drewN | apply below_drew1) | exact HB.out))) (hbs_ j hj) : ∀ j, j < m → w.heap.size ≤ bs2 j); have n10_ := Aside0.mk (fun j hj e => by have h_ := blk_lt WX.out; rw [e] at h_; exact absurd h_ (Nat.not_lt.2 (hbs_ j hj)) : ∀ j, j < m → gx ≠ bs2 j); have n11_ := Aside0.mk (fun j hj e => by have h_ := KX.out.lt; rw [e] at h_; exact absurd h_ (Nat.not_lt.2 (hbs_ j hj)) : ∀ j, j < m → gkp ≠ bs2 j); have n12_ := Aside0.mk (fun i j hi hj e => by have h_ := (R1.out i hi).lt; rw [e] at h_; exact absurd h_ (Nat.not_lt.2 (hbs_ j hj)) : ∀ i j, i < m → j < m → bs1 i ≠ bs2 j); have n13_ := Aside0.mk (below_step (by repeat (first | (with_reducible first | exact HB.out | apply below_alloc | apply pw_below_drewN | apply below_drew1) | exact HB.out)) hb); clear WX KX T1 R1 HB hb hc_ ht_ hr_ hi_ hh_ hbs_; have WX := n0_; have KX := n1_; have T1 := n2_; have R1 := n3_; have C2 := n4_; have T2 := n5_; have R2 := n6_; have I2 := n7_; have LH2 := n8_; have LB2 := n9_; have XB2 := n10_; have KB2 := n11_; have DB := n12_; have HB := n13_; clear n0_ n1_ n2_ n3_ n4_ n5_ n6_ n7_ n8_ n9_ n10_ n11_ n12_ n13_))
  go_upto_region 9 with (first | fail)
  obtain ⟨c1_, cells1_, e1_, hl1_, hm1_, hg1_, hs1_, hr1_⟩ := R1.out 0 HP.out
  simp only [HL0.out] at e1_ hl1_ hr1_
  have hc1_ : _ = some (Value.slice (some ⟨bs1 0, 0, none⟩) 4 c1_) := (T1.out.cell 0 HP.out).trans (congrArg some e1_)
  have hcv_ := Kd.C_string (src := 22) (dst := 9) (e := 5) (c := c1_) Try.underlying22 Try.underlying5 Try.underlying9 (C_row hg1_ hr1_ (show CALM.length = 4 from rfl) (by decide))
  have hct_ := calm_text
  have hct2_ : (strOfNums CALM).toList.length = 4 := by rw [calm_text]; rfl
  clear e1_ hl1_ hm1_ hg1_ hs1_ hr1_
  go_upto_region 11 with (first | (go_at_call 7; (with_reducible refine (alike_c (some ⟨h1, 0, none⟩) (some ⟨h2, 0, none⟩) cl1 cl2 Ls m HM.out (by have h_ := HM40.out; have h2_ := HM.out; omega) HLL.out _ (C_tab HM.out (by have h_ := HM40.out; omega) T1.out R1.out) C1.out (C_tab HM.out (by have h_ := HM40.out; omega) T2.out R2.out) C2.out).mono ?_); rintro e w5 ⟨rfl, hb⟩; have n0_ := Aside0.mk (blk_below WX.out hb); have n1_ := Aside0.mk (KX.out.below hb); have n2_ := Aside0.mk (T1.out.below hb); have n3_ := Aside0.mk (R1.out.below hb); have n4_ := Aside0.mk (T2.out.below hb); have n5_ := Aside0.mk (R2.out.below hb); have n6_ := Aside0.mk (below_step (by repeat (first | (with_reducible first | exact HB.out | apply below_alloc | apply pw_below_drewN | apply below_drew1) | exact HB.out)) hb); clear WX KX T1 R1 T2 R2 HB hb; have WX := n0_; have KX := n1_; have T1 := n2_; have R1 := n3_; have T2 := n4_; have R2 := n5_; have HB := n6_; clear n0_ n1_ n2_ n3_ n4_ n5_ n6_))
  go_wp2_with (first | ((with_reducible refine gate_dst (N := 53) rfl ?_); refine nnone_event ?hg (N := 53) ?hd ?hr ?_; (case hd => rfl); (case hg => rfl); (case hr => first | (go_simp; done) | (go_simp; rfl)); intro v53 w8 hown hb; have n0_ := Aside0.mk (hown); have n1_ := Aside0.mk (hb); clear hown hb; have OW := n0_; have HB5 := n1_; clear n0_ n1_) | ((with_reducible refine gate_builtin (b := .append) (xs := #[.tmp 53, .tmp 54]) rfl ?_); at_builtin; refine ntabs_event rfl (.tmp 53) (.tmp 54) rfl (w0 := w5) rfl OW.out (h1 := h1) (m := m) (c := cl1) rfl (T1.out.below HB5.out) (rowsn_one R1.out) (by have h_ := HM40.out; omega) (below_size HB5.out) HB5.out ?_; intro v5x w9 hown hb; have n0_ := Aside0.mk (hown); have n1_ := Aside0.mk (hb); clear hown hb OW HB5; have OW := n0_; have HB5 := n1_; clear n0_ n1_) | ((with_reducible refine gate_builtin (b := .append) (xs := #[.tmp 55, .tmp 56]) rfl ?_); at_builtin; refine ntabs_event rfl (.tmp 55) (.tmp 56) rfl (w0 := w5) rfl OW.out (h1 := h2) (m := m) (c := cl2) rfl (T2.out.below HB5.out) (rowsn_one R2.out) (by have h_ := HM40.out; omega) (below_size HB5.out) HB5.out ?_; intro v5x W0 hown hb; have n0_ := Aside0.mk (hown); have n1_ := Aside0.mk (hb); clear hown hb OW HB5; have OW := n0_; have HB5 := n1_; clear n0_ n1_))
  obtain ⟨N, hN⟩ : ∃ N, m + m = N := ⟨_, rfl⟩
  have ow_ := OW.out
  rw [Nat.zero_add, map_join m vs1 vs2] at ow_
  obtain ⟨h, cl, rfl, hcl, htab, hhB⟩ := own_tab ow_ (by have h_ := HP.out; omega)
  obtain ⟨vs, hvs⟩ : ∃ vs, vjoin m vs1 vs2 = vs := ⟨_, rfl⟩
  obtain ⟨bs, hbs⟩ : ∃ bs, vjoin m bs1 bs2 = bs := ⟨_, rfl⟩
  obtain ⟨LL, hLL⟩ : ∃ LL, Ls ++ Ls = LL := ⟨_, rfl⟩
  have T0 := Aside0.mk htab
  have R0 := Aside0.mk (rows_join HM.out (R1.out.below HB5.out) (R2.out.below HB5.out))
  have I0 := Aside0.mk (inj_join I1.out I2.out DB.out)
  have LB0 : Aside0 (∀ j, j < m + m → w.heap.size ≤ vjoin m bs1 bs2 j) := ⟨all_join LB1.out LB2.out⟩
  have XB0 : Aside0 (∀ j, j < m + m → gx ≠ vjoin m bs1 bs2 j) := ⟨all_join (P := fun x => gx ≠ x) XB1.out XB2.out⟩
  have KB0 : Aside0 (∀ j, j < m + m → gkp ≠ vjoin m bs1 bs2 j) := ⟨all_join (P := fun x => gkp ≠ x) KB1.out KB2.out⟩
  have WX0 := Aside0.mk (blk_below WX.out HB5.out)
  have KX0 := Aside0.mk (KX.out.below HB5.out)
  have HB0 := Aside0.mk (below_step HB.out HB5.out)
  have LH0 : Aside0 (w.heap.size ≤ h) := ⟨Nat.le_trans (below_size HB.out) hhB⟩
  have hll_ : LL.length = N := by rw [← hLL, List.length_append, HM.out]; exact hN
  have hlm_ : ∀ l ∈ LL, l ≠ [] ∧ l.length ≤ 1048576 := fun l hl => by
    rw [← hLL] at hl
    rcases List.mem_append.1 hl with h | h <;> exact ⟨HFL.out l h, HLL.out l h⟩
  rw [hvs] at T0 R0
  rw [hbs] at R0 I0 LB0 XB0 KB0
  rw [hLL] at R0
  rw [hN] at T0 R0 I0 LB0 XB0 KB0 hcl
  have CL0 := Aside0.mk hcl
  have HLN := Aside0.mk hll_
  have HLM := Aside0.mk hlm_
  have HLLs := Aside0.mk hLL
  have HN := Aside0.mk hN
  have HN80 : Aside0 (N ≤ 80) := ⟨by have h_ := HM40.out; omega⟩
  have HN0 : Aside0 (0 < N) := ⟨by have h_ := HP.out; omega⟩
  rw [hN]
  clear hvs hbs hLL hN hll_ hlm_ ow_ hcl htab hhB OW HB5 HB WX KX T1 T2 R1 R2 I1 I2 DB LB1 LB2 XB1 XB2 KB1 KB2 LH1 LH2 C1 C2 hc1_ hcv_ hct_ hct2_
  go_loopg [7, 8] N (fun kq v7 v8 w' => ∃ (i : Nat) (ws : Nat → Value) (bw : Nat → Nat), v8 = .int .i64 (i : Int) ∧ Aside0 (i + kq = N) ∧ Aside0 (w'.ownsRow W0.heap.size 22 1 v7 i ((List.range i).map ws)) ∧ Aside0 (RowsN w' i ws (fun j => LL.getD j []) bw) ∧ Aside0 (∀ j, j < i → W0.heap.size ≤ bw j) ∧ Aside0 (Below W0.heap.size W0 w'))
  case atStart => exact ⟨0, fun _ => undef, fun _ => 0, rfl, ⟨by omega⟩, ⟨own_nil _ _ _ _⟩, ⟨fun j hj => absurd hj (Nat.not_lt_zero j)⟩, ⟨fun j hj => absurd hj (Nat.not_lt_zero j)⟩, ⟨Below.refl _ _⟩⟩
  case round =>
    obtain ⟨i, ws, bw, rfl, HI, HO, HW, HLW, HBI⟩ := hrel
    by_cases hx : i < N
    · have p0 : 0 ≤ (i : Int) := Int.natCast_nonneg _
      have q0 : (i : Int) < (N : Int) := Int.ofNat_lt.2 hx
      have lt1 : decide ((i : Int) < (N : Int)) = true := decide_eq_true q0
      have lt2 : decide (i < N) = true := decide_eq_true hx
      have HX := Aside0.mk hx
      obtain ⟨ci, cellsi, ei, hli, hmi, hgi, hsi, hri⟩ := R0.out i hx
      obtain ⟨ni, hni⟩ : ∃ n, (LL.getD i []).length = n := ⟨_, rfl⟩
      have hlm_ := HLM.out (LL.getD i []) (by rw [List.getD_eq_getElem?_getD, List.getElem?_eq_getElem (by rw [HLN.out]; exact hx)]; exact List.getElem_mem _)
      have HNI := Aside0.mk hni
      have HNI0 : Aside0 (0 < ni) := ⟨by rw [← hni]; exact List.length_pos_iff.2 hlm_.1⟩
      have HNIM : Aside0 (ni ≤ 1048576) := ⟨by rw [← hni]; exact hlm_.2⟩
      simp only [hni] at ei hli
      have HNC := Aside0.mk hli
      have HGI := Aside0.mk (blk_below hgi HBI.out)
      have HRI := Aside0.mk hri
      have hc_ := ((T0.out.below HBI.out).cell i hx).trans (congrArg some ei)
      have hw := wrap_step hx (by have h_ := HN80.out; omega)
      clear hx hlm_ hni ei hli hmi hgi hsi hri
      go_wp2_with (first | (go_at_call 10; (with_reducible refine (copied_c (some ⟨bs i, 0, none⟩) ci (LL.getD i []) ni HNI.out HNI0.out HNIM.out _ (C_row HGI.out HRI.out HNI.out (by have h_ := HNIM.out; omega)) HNC.out).mono ?_); rintro e w5 ⟨gN, vN, rfl, hrow, hb, hgN⟩; have hrow2 := hrow; obtain ⟨cN, cellsN, eN, hN1_, hN2_, hN3_, hN4_, hN5_⟩ := hrow2; clear hN1_ hN2_ hN3_ hN4_ hN5_; rw [HNI.out] at eN; subst eN; have n0_ := Aside0.mk (hrow); have n1_ := Aside0.mk (own_below HO.out hb); have n2_ := Aside0.mk (HW.out.below hb); have n3_ := Aside0.mk (Nat.le_trans (below_size HBI.out) hgN); have n4_ := Aside0.mk (below_step HBI.out hb); clear HO HW HBI hrow hb hgN; have NR := n0_; have HO := n1_; have HW := n2_; have GN := n3_; have HBI := n4_; clear n0_ n1_ n2_ n3_ n4_) | ((with_reducible refine gate_builtin (b := .append) (xs := #[.tmp 64, .tmp 70]) rfl ?_); at_builtin; refine print_append_cells (w0 := W0) W0.heap.size rfl (.tmp 64) (.tmp 70) 24 22 (.slice none 0 0) 1 24 rfl Try.underlying24 infoRow rfl (by decide) (by decide) u7 i ((List.range i).map ws) [.slice (some ⟨gN, 0, none⟩) ni cN] rfl rfl rfl (fun u hu => by rw [List.mem_singleton.1 hu]; exact row1_one NR.out) HO.out HBI.out (below_size HBI.out) (by have h_ := HI.out; have h2_ := HN80.out; omega) ?_; intro v1 w7 hown hb hg hat; have n0_ := Aside0.mk (fun j hj => row1_grown (HW.out j hj) HO.out hg : RowsN w7 i ws (fun j => LL.getD j []) bw); have n1_ := Aside0.mk (row1_grown NR.out HO.out hg); have n2_ := Aside0.mk (map_snoc i ws (.slice (some ⟨gN, 0, none⟩) ni cN) ▸ hown); have n3_ := Aside0.mk (hb); clear HO HW HBI NR hown hb; have HW := n0_; have NR := n1_; have HO := n2_; have HBI := n3_; clear n0_ n1_ n2_ n3_; clear hg hat))
      go_roundg (N - (i + 1))
      case measure => exact sub_lt' HX.out HI.out
      case rel => exact ⟨i + 1, _, _, (by first | rfl | (simp; done) | go_num | (simp [*]; done)), ⟨sub_step' HX.out HI.out⟩, HO, ⟨rowsn_snoc HW.out NR.out⟩, ⟨all_snoc (P := fun x => W0.heap.size ≤ x) HLW.out GN.out⟩, HBI⟩
    · have lt1 : decide ((i : Int) < (N : Int)) = false := decide_eq_false (fun h_ => hx (Int.ofNat_lt.1 h_))
      have lt2 : decide (i < N) = false := decide_eq_false hx
      have ei : N = i := by have h_ := HI.out; omega
      subst ei
      clear hx lt1 lt2
      obtain ⟨hw, cw, rfl, hcw, htw, hwB⟩ := own_tab HO.out HN0.out
      obtain ⟨W1, hW1⟩ : ∃ W1, W1 = wr := ⟨_, rfl⟩
      subst hW1
      have T1 := Aside0.mk (T0.out.below HBI.out)
      have R1 := Aside0.mk (R0.out.below HBI.out)
      have TW := Aside0.mk htw
      have CW := Aside0.mk hcw
      have RW := Aside0.mk HW.out
      have WX1 := Aside0.mk (blk_below WX0.out HBI.out)
      have KX1 := Aside0.mk (KX0.out.below HBI.out)
      have HB1 := Aside0.mk (below_step HB0.out HBI.out)
      have BSW : Aside0 (∀ j, j < N → bs j < W0.heap.size) := ⟨fun j hj => (R0.out j hj).lt⟩
      have WB1 : Aside0 (∀ j, j < N → hw ≠ bs j) := ⟨fun j hj e => by have h_ := BSW.out j hj; rw [← e] at h_; exact absurd h_ (Nat.not_lt.2 hwB)⟩
      have BWB : Aside0 (∀ i, i < N → ∀ j, j < N → bw i ≠ bs j) := ⟨fun i hi j hj e => by have h_ := BSW.out j hj; rw [← e] at h_; exact absurd h_ (Nat.not_lt.2 (HLW.out i hi))⟩
      have HBS : Aside0 (∀ j, j < N → h ≠ bs j) := ⟨fun j hj e => by
        obtain ⟨_, t1, _⟩ := T1.out
        obtain ⟨_, _, _, _, _, t2, _, _⟩ := R1.out j hj
        exact blk_ne t1 t2 (by decide) e⟩
      have I1 := I0
      clear T0 R0 I0 HO HW HLW HBI WX0 KX0 HB0 htw hcw hwB BSW HI
      go_wp2
      go_loopg [9] N (fun kq v9 w' => ∃ i : Nat, v9 = .int .i64 (i : Int) ∧ Aside0 (i + kq = N) ∧ Aside0 (Kp bs N W1 w') ∧ Aside0 (RowsN w' N vs (fun j => if j < i then REP LL j else LL.getD j []) bs))
      case atStart => exact ⟨0, rfl, ⟨by omega⟩, ⟨Kp.refl _ _ _⟩, ⟨rowsn_congr R1.out (fun j _ => by rw [if_neg (Nat.not_lt_zero j)])⟩⟩
      case round =>
        obtain ⟨i, rfl, HI, HK, HR⟩ := hrel
        by_cases hx : i < N
        · have p0 : 0 ≤ (i : Int) := Int.natCast_nonneg _
          have q0 : (i : Int) < (N : Int) := Int.ofNat_lt.2 hx
          have lt1 : decide ((i : Int) < (N : Int)) = true := decide_eq_true q0
          have lt2 : decide (i < N) = true := decide_eq_true hx
          have HX := Aside0.mk hx
          obtain ⟨ci, cellsi, ei, hli, hmi, hgi, hsi, hri⟩ := R1.out i hx
          obtain ⟨ni, hni⟩ : ∃ n, (LL.getD i []).length = n := ⟨_, rfl⟩
          have hlm_ := HLM.out (LL.getD i []) (by rw [List.getD_eq_getElem?_getD, List.getElem?_eq_getElem (by rw [HLN.out]; exact hx)]; exact List.getElem_mem _)
          have HNI := Aside0.mk hni
          have HNIM : Aside0 (ni ≤ 1048576) := ⟨by rw [← hni]; exact hlm_.2⟩
          simp only [hni] at ei hli
          have HVI := Aside0.mk ei
          have hmod := mod_i hx HN80.out
          have hwu : wrap64 ((i : Int) + 1) = ((i + 1 : Nat) : Int) := wrap_step hx (by have h_ := HN80.out; omega)
          clear hx hlm_ hni ei hli hmi hgi hsi hri
          go_wp2
          obtain ⟨Wi, hWi⟩ : ∃ Wi, Wi = wr := ⟨_, rfl⟩
          subst hWi
          go_loopg [10] ni (fun kq v10 w' => ∃ k : Nat, v10 = .int .i64 (k : Int) ∧ Aside0 (k + kq = ni) ∧ Aside0 (Kp bs N W1 w') ∧ Aside0 (RowsN w' N vs (CUR LL i k) bs))
          case atStart => exact ⟨0, rfl, ⟨by omega⟩, HK, ⟨rowsn_congr HR.out (fun j _ => (cur_zero LL i j).symm)⟩⟩
          case round =>
            obtain ⟨k, rfl, HKQ, HK, HR⟩ := hrel
            have hc_ := ((HK.out.tab T1.out HBS.out).cell i HX.out).trans (congrArg some HVI.out)
            by_cases hk : k < ni
            · have p1 : 0 ≤ (k : Int) := Int.natCast_nonneg _
              have q1 : (k : Int) < (ni : Int) := Int.ofNat_lt.2 hk
              have lt3 : decide ((k : Int) < (ni : Int)) = true := decide_eq_true q1
              have lt4 : decide (k < ni) = true := decide_eq_true hk
              have HKX := Aside0.mk hk
              obtain ⟨c2, cells2, e2, hl2, hm2, hg2, hs2, hr2⟩ := HR.out i HX.out
              have HGI := Aside0.mk hg2
              have HRI := Aside0.mk hr2
              have hcx_ := (blk_cell hg2 k).trans (hr2 k (by rw [cur_len LL i k ni HNI.out (Nat.le_of_lt hk)]; exact hk))
              have hwk : wrap64 ((k : Int) + 1) = ((k + 1 : Nat) : Int) := wrap_step hk (by have h_ := HNIM.out; omega)
              clear hk e2 hl2 hm2 hg2 hs2 hr2
              go_wp2_with (first | ((with_reducible refine gate_store (p := 94) rfl ?_); have hfz_ := blk_frozen HGI.out k; refine nput_event rfl rfl rfl (g := bs i) (j := k) (x := .int .u8 (i : Int)) ?hr HGI.out ?_; (case hr => first | (go_simp; done) | (go_simp; rfl)); intro w4 hrow ht; clear hfz_; (try clear hcx_ hc_); have n0_ := Aside0.mk (rowsn_put HR.out I1.out HX.out (by rw [cur_len LL i k ni HNI.out (Nat.le_of_lt HKX.out)]; exact HKX.out) HGI.out HRI.out hrow ht (cur_step LL i k ni HNI.out HKX.out) (fun j _ hn => cur_else LL i k j hn)); have n1_ := Aside0.mk (HK.out.tz ht ⟨i, HX.out, rfl⟩); clear HR HK HGI HRI hrow ht; have HR := n0_; have HK := n1_; clear n0_ n1_))
              go_roundg (ni - (k + 1))
              case measure => exact sub_lt' HKX.out HKQ.out
              case rel => exact ⟨k + 1, (by first | rfl | (simp; done) | go_num | (simp [*]; done)), ⟨sub_step' HKX.out HKQ.out⟩, HK, HR⟩
            · have lt3 : decide ((k : Int) < (ni : Int)) = false := decide_eq_false (fun h_ => hk (Int.ofNat_lt.1 h_))
              have lt4 : decide (k < ni) = false := decide_eq_false hk
              have ek : ni = k := by have h_ := HKQ.out; omega
              clear hk
              go_wp2
              go_roundg (N - (i + 1))
              case measure => exact sub_lt' HX.out HI.out
              case rel => exact ⟨i + 1, (by first | rfl | (simp; done) | go_num | (simp [*]; done)), ⟨sub_step' HX.out HI.out⟩, HK, ⟨rowsn_congr HR.out (fun j _ => cur_full LL i k j (by rw [HNI.out, ek]))⟩⟩
        · have lt1 : decide ((i : Int) < (N : Int)) = false := decide_eq_false (fun h_ => hx (Int.ofNat_lt.1 h_))
          have lt2 : decide (i < N) = false := decide_eq_false hx
          have ei : N = i := by have h_ := HI.out; omega
          subst ei
          clear hx
          have HRA := Aside0.mk (rowsn_congr HR.out (f' := REP LL) (fun j hj => if_pos hj))
          have BS1 : Aside0 (∀ j, j < N → bs j < W1.heap.size) := ⟨fun j hj => (R1.out j hj).lt⟩
          clear HR HI lt1 lt2
          go_wp2
          obtain ⟨W2, hW2⟩ : ∃ W2, W2 = wr := ⟨_, rfl⟩
          subst hW2
          go_loopg [11, 12] N (fun kq v11 v12 w' => ∃ (i : Nat) (lv : Nat → Value) (lb : Nat → Nat), v12 = .int .i64 (i : Int) ∧ Aside0 (i + kq = N) ∧ Aside0 (Kp bs N W1 w') ∧ Aside0 (RowsW w' N vs (REP LL) bs) ∧ Aside0 (∀ j, j < N → i ≤ j → Row1 w' (vs j) (REP LL j) (bs j)) ∧ Aside0 (w'.ownsRow W1.heap.size 22 1 v11 i ((List.range i).map lv)) ∧ Aside0 (RowsW w' i lv (LNG LL) lb) ∧ Aside0 (∀ j, j < i → lb j = bs j ∨ W1.heap.size ≤ lb j))
          case atStart => exact ⟨0, fun _ => undef, fun _ => 0, rfl, ⟨by omega⟩, HK, ⟨rowsw_of HRA.out⟩, ⟨fun j hj _ => HRA.out j hj⟩, ⟨own_nil _ _ _ _⟩, ⟨fun j hj => absurd hj (Nat.not_lt_zero j)⟩, ⟨fun j hj => absurd hj (Nat.not_lt_zero j)⟩⟩
          case round =>
            obtain ⟨i, lv, lb, rfl, HI, HK, HA, HF, HO, HG, HLB⟩ := hrel
            by_cases hx : i < N
            · have p0 : 0 ≤ (i : Int) := Int.natCast_nonneg _
              have q0 : (i : Int) < (N : Int) := Int.ofNat_lt.2 hx
              have lt1 : decide ((i : Int) < (N : Int)) = true := decide_eq_true q0
              have lt2 : decide (i < N) = true := decide_eq_true hx
              have HX := Aside0.mk hx
              obtain ⟨ci, cellsi, ei, hli, hmi, hgi, hsi, hri⟩ := R1.out i hx
              obtain ⟨ni, hni⟩ : ∃ n, (LL.getD i []).length = n := ⟨_, rfl⟩
              have hlm_ := HLM.out (LL.getD i []) (by rw [List.getD_eq_getElem?_getD, List.getElem?_eq_getElem (by rw [HLN.out]; exact hx)]; exact List.getElem_mem _)
              have HNI := Aside0.mk hni
              have HNIM : Aside0 (ni ≤ 1048576) := ⟨by rw [← hni]; exact hlm_.2⟩
              simp only [hni] at ei hli
              have HVI := Aside0.mk ei
              have hwu : wrap64 ((i : Int) + 1) = ((i + 1 : Nat) : Int) := wrap_step hx (by have h_ := HN80.out; omega)
              have hw1 := wrap100 hx HN80.out
              have hmod := mod100 hx HN80.out
              clear hx hlm_ hni ei hli hmi hgi hsi hri
              go_wp2
              obtain ⟨Wi, hWi⟩ : ∃ Wi, Wi = wr := ⟨_, rfl⟩
              subst hWi
              have HO3 := HO
              clear HO
              go_loopg [13, 14] 64 (fun kq v13 v14 w' => ∃ k : Nat, v14 = .int .i64 (k : Int) ∧ Aside0 (k + kq = 64) ∧ Aside0 (Below Wi.heap.size Wi w') ∧ Aside0 (Kd.R (Kd.int .u8) 5 w' Wi.heap.size (fun _ => True) v13 (List.replicate k (100 + (i : Int)))))
              case atStart => exact ⟨0, rfl, ⟨by omega⟩, ⟨Below.refl _ _⟩, ⟨Kd.R_nil _ _ _ _ _⟩⟩
              case round =>
                obtain ⟨k, rfl, HKQ, HBW, HO⟩ := hrel
                by_cases hk : k < 64
                · have lt3 : decide ((k : Int) < 64) = true := decide_eq_true (by omega)
                  have lt4 : decide (k < 64) = true := decide_eq_true hk
                  have HKX := Aside0.mk hk
                  have hwk : wrap64 ((k : Int) + 1) = ((k + 1 : Nat) : Int) := wrap_step hk (by omega)
                  clear hk
                  go_wp2_with (first | ((with_reducible refine gate_builtin (b := .append) (xs := #[.tmp 105, .tmp 109]) rfl ?_); at_builtin; refine Kd.R_append (Kd.int .u8) (w0 := Wi) Wi.heap.size rfl (.tmp 105) (.tmp 109) 22 5 (.int .u8 0) 1 rfl Try.underlying22 info5 rfl (by decide) (by omega) u13 (List.replicate k (100 + (i : Int))) (100 + (i : Int)) [.int .u8 (100 + (i : Int))] (fun _ => True) (fun _ => False) rfl rfl ?aP (fun _ hk => hk.elim) ?aF ?aO ?aB ?aS ?aL ?_; (case aP => exact rfl); (case aB => exact HBW.out); (case aF => exact (fun _ _ => trivial)); (case aO => exact HO.out); (case aS => exact (below_size HBW.out)); (case aL => have h_ := HKX.out; rw [List.length_replicate]; omega); intro v103 w5 ho hb hg hat; have n0_ := Aside0.mk ((List.replicate_succ' (n := k) (a := 100 + (i : Int))).symm ▸ ho); have n1_ := Aside0.mk (hb); clear HO HBW ho hb; have HO := n0_; have HBW := n1_; clear n0_ n1_; clear hg hat))
                  go_roundg (64 - (k + 1))
                  case measure => exact sub_lt' HKX.out HKQ.out
                  case rel => exact ⟨k + 1, (by first | rfl | (simp; done) | go_num | (simp [*]; done)), ⟨sub_step' HKX.out HKQ.out⟩, HBW, HO⟩
                · have lt3 : decide ((k : Int) < 64) = false := decide_eq_false (by omega)
                  have lt4 : decide (k < 64) = false := decide_eq_false hk
                  have ek : k = 64 := by have h_ := HKQ.out; omega
                  subst ek
                  obtain ⟨gt, htl, hgt, _⟩ := row1_of_R HO.out (by rw [List.length_replicate]; decide)
                  obtain ⟨ct, cellst, et, _, _, _, _, _⟩ := id htl
                  rw [List.length_replicate] at et
                  subst et
                  have HTL := Aside0.mk htl
                  have HRI := Aside0.mk ((HF.out i HX.out (Nat.le_refl _)).below HBW.out)
                  rw [HVI.out] at HRI
                  have HF := Aside0.mk (fun (j : Nat) (hj : j < N) (hij : i ≤ j) => (HF.out j hj hij).below HBW.out)
                  have HA : Aside0 (RowsW wr N vs (REP LL) bs) := ⟨fun j hj => (HA.out j hj).below HBW.out⟩
                  have HG : Aside0 (RowsW wr i lv (LNG LL) lb) := ⟨fun j hj => (HG.out j hj).below HBW.out⟩
                  have HK := Aside0.mk (HK.out.below HBW.out)
                  have HO := Aside0.mk (own_below HO3.out HBW.out)
                  have hc_ := ((HK.out.tab T1.out HBS.out).cell i HX.out).trans (congrArg some HVI.out)
                  clear hk HO3 HKQ HBW htl hgt lt3 lt4
                  go_wp2_with (first | ((with_reducible refine gate_builtin (b := .append) (xs := #[.tmp 115, .tmp 116]) rfl ?_); at_builtin; refine nrow_event rfl (.tmp 115) (.tmp 116) rfl (v := .slice (some ⟨bs i, 0, none⟩) ni ci) (L := REP LL i) (M := List.replicate 64 (100 + (i : Int))) (g := bs i) (gt := gt) (m := 64) (c := ct) rfl HRI.out rfl HTL.out (by rw [rep_len LL i ni HNI.out, List.length_replicate]; have h_ := HNIM.out; omega) ?_; intro gl nl cl2 w5 hnl hrl hro hg hgl; have hszg_ := hg.size; have n0_ := Aside0.mk (hrl); have n1_ := Aside0.mk (hnl); have n2_ := Aside0.mk (fun j hj => by by_cases c : j = i; (rw [c, HVI.out]; exact hro); exact (HA.out j hj).kept (hg.block _ (HA.out j hj).lt (fun e => c (I1.out j i hj HX.out (Option.some.inj e)))) : RowsW w5 N vs (REP LL) bs); have n3_ := Aside0.mk (fun j hj hij => (HF.out j hj (by omega)).kept (hg.block _ (HF.out j hj (by omega)).lt (fun e => by have h_ := I1.out j i hj HX.out (Option.some.inj e); omega)) : ∀ j, j < N → i + 1 ≤ j → Row1 w5 (vs j) (REP LL j) (bs j)); have n4_ := Aside0.mk (fun j hj => (HG.out j hj).kept (hg.block _ (HG.out j hj).lt (fun e => by have h1_ := HX.out; rcases HLB.out j hj with h_ | h_; (have h2_ := I1.out j i (by omega) HX.out (h_.symm.trans (Option.some.inj e)); omega); (have h2_ := BS1.out i HX.out; have h3_ := Option.some.inj e; omega))) : RowsW w5 i lv (LNG LL) lb); have n5_ := Aside0.mk (own_move HO.out (fun k hk => hg.block k (own_lt HO.out k hk) (fun e => by have h1_ := own_base HO.out k hk; have h2_ := BS1.out i HX.out; have h3_ := Option.some.inj e; omega))); have n6_ := Aside0.mk ((by rcases hgl with h_ | h_; (exact .inl h_); (right; have h1_ := HK.out.size; omega) : gl = bs i ∨ W1.heap.size ≤ gl)); have n7_ := Aside0.mk (HK.out.grown (v := .slice (some ⟨bs i, 0, none⟩) ni ci) hg (fun k hk => .inl ⟨i, HX.out, Option.some.inj hk⟩)); clear HA HF HG HO HK HRI HTL hrl hro hnl hgl; have NR := n0_; have NNL := n1_; have HA := n2_; have HF := n3_; have HG := n4_; have HO := n5_; have HGL := n6_; have HK := n7_; clear n0_ n1_ n2_ n3_ n4_ n5_ n6_ n7_; clear hg hszg_) | ((with_reducible refine gate_builtin (b := .append) (xs := #[.tmp 111, .tmp 118]) rfl ?_); at_builtin; refine print_append_cells (w0 := w5) W1.heap.size rfl (.tmp 111) (.tmp 118) 24 22 (.slice none 0 0) 1 24 rfl Try.underlying24 infoRow rfl (by decide) (by decide) u11 i ((List.range i).map lv) [.slice (some ⟨gl, 0, none⟩) nl cl2] rfl rfl rfl (fun u hu => by rw [List.mem_singleton.1 hu]; rfl) HO.out (Below.refl _ _) HK.out.size (by have h_ := HX.out; have h2_ := HN80.out; omega) ?_; intro v1 w7 hown hb hg hat; have n0_ := Aside0.mk (NR.out.grown HO.out hg); have n1_ := Aside0.mk (fun j hj => (HA.out j hj).grown HO.out hg : RowsW w7 N vs (REP LL) bs); have n2_ := Aside0.mk (fun j hj hij => row1_grown (HF.out j hj hij) HO.out hg : ∀ j, j < N → i + 1 ≤ j → Row1 w7 (vs j) (REP LL j) (bs j)); have n3_ := Aside0.mk (fun j hj => (HG.out j hj).grown HO.out hg : RowsW w7 i lv (LNG LL) lb); have n4_ := Aside0.mk (HK.out.grown hg (fun k hk => .inr (own_base HO.out k hk))); have n5_ := Aside0.mk (map_snoc i lv (.slice (some ⟨gl, 0, none⟩) nl cl2) ▸ hown); clear NR HA HF HG HK HO hown; have NR := n0_; have HA := n1_; have HF := n2_; have HG := n3_; have HK := n4_; have HO := n5_; clear n0_ n1_ n2_ n3_ n4_ n5_; clear hg hat hb))
                  go_roundg (N - (i + 1))
                  case measure => exact sub_lt' HX.out HI.out
                  case rel => exact ⟨i + 1, _, _, (by first | rfl | (simp; done) | go_num | (simp [*]; done)), ⟨sub_step' HX.out HI.out⟩, HK, HA, HF, HO, ⟨rowsw_snoc HG.out NR.out⟩, ⟨fun j hj => by
                    by_cases c : j < i
                    · simp only [if_pos c]; exact HLB.out j c
                    · have e : j = i := by omega
                      subst e
                      simp only [if_neg c]; exact HGL.out⟩⟩
            · have lt1 : decide ((i : Int) < (N : Int)) = false := decide_eq_false (fun h_ => hx (Int.ofNat_lt.1 h_))
              have lt2 : decide (i < N) = false := decide_eq_false hx
              have ei : N = i := by have h_ := HI.out; omega
              subst ei
              clear hx
              obtain ⟨hl, cl3, rfl, hcl3, htl3, hlB⟩ := own_tab HO.out HN0.out
              obtain ⟨W3, hW3⟩ : ∃ W3, W3 = wr := ⟨_, rfl⟩
              subst hW3
              have TL := Aside0.mk htl3
              have TC := Aside0.mk (HK.out.tab T1.out HBS.out)
              have TWc := Aside0.mk (HK.out.tab TW.out WB1.out)
              have RWc := Aside0.mk (HK.out.rows RW.out BWB.out)
              clear hcl3 htl3 hlB lt1 lt2 HI
              go_wp2
              go_loopg [15] N (fun kq v15 w' => ∃ i : Nat, v15 = .int .i64 (i : Int) ∧ Aside0 (i + kq = N) ∧ Aside0 (w' = W3))
              case atStart => exact ⟨0, rfl, ⟨by omega⟩, ⟨rfl⟩⟩
              case round =>
                obtain ⟨i, rfl, HI, HW3⟩ := hrel
                obtain rfl : W3 = wr := HW3.out.symm
                by_cases hx : i < N
                · have p0 : 0 ≤ (i : Int) := Int.natCast_nonneg _
                  have q0 : (i : Int) < (N : Int) := Int.ofNat_lt.2 hx
                  have lt1 : decide ((i : Int) < (N : Int)) = true := decide_eq_true q0
                  have lt2 : decide (i < N) = true := decide_eq_true hx
                  have HX := Aside0.mk hx
                  obtain ⟨ci, cellsi, ei, hli, hmi, hgi, hri⟩ := HA.out i hx
                  obtain ⟨ni, hni⟩ : ∃ n, (LL.getD i []).length = n := ⟨_, rfl⟩
                  have hlm_ := HLM.out (LL.getD i []) (by rw [List.getD_eq_getElem?_getD, List.getElem?_eq_getElem (by rw [HLN.out]; exact hx)]; exact List.getElem_mem _)
                  have HNI := Aside0.mk hni
                  have HNIM : Aside0 (ni ≤ 1048576) := ⟨by rw [← hni]; exact hlm_.2⟩
                  rw [rep_len LL i ni hni] at ei hli
                  have HVI := Aside0.mk ei
                  have HGI := Aside0.mk hgi
                  have HRI := Aside0.mk hri
                  have hwu : wrap64 ((i : Int) + 1) = ((i + 1 : Nat) : Int) := wrap_step hx (Nat.le_trans HN80.out (by decide))
                  have hmod := mod_i hx HN80.out
                  have hw1 := wrap100 hx HN80.out
                  have hmod2 := mod100 hx HN80.out
                  have hc_ := (TC.out.cell i hx).trans (congrArg some ei)
                  obtain ⟨cwi, cellsw, ew, _, _, _, _, _⟩ := RWc.out i hx
                  simp only [hni] at ew
                  have hcw_ := (TWc.out.cell i hx).trans (congrArg some ew)
                  obtain ⟨cli, cellsl, el, _, _, hgl, hrl⟩ := HG.out i hx
                  have hlnl : (LNG LL i).length = ni + 64 := by unfold LNG; rw [List.length_append, List.length_replicate, rep_len LL i ni hni]
                  obtain ⟨nl, hnl⟩ : ∃ nl, ni + 64 = nl := ⟨_, rfl⟩
                  rw [hlnl, hnl] at el
                  have hcl_ := (TL.out.cell i hx).trans (congrArg some el)
                  have HGL := Aside0.mk hgl
                  have HRL := Aside0.mk hrl
                  obtain ⟨x63, hx63⟩ : ∃ x, wrap64 ((ni : Int) + 63) = x := ⟨_, rfl⟩
                  obtain ⟨x64, hx64⟩ : ∃ x, wrap64 ((ni : Int) + 64) = x := ⟨_, rfl⟩
                  have hq64 := num64 HNIM.out hnl hx64
                  have hp63 := num63 HNIM.out hnl hx63
                  obtain ⟨h63a, h63b, h63c⟩ := hp63
                  have hq0 : 0 ≤ (ni : Int) := Int.natCast_nonneg _
                  have hq1 : (ni : Int) < (nl : Int) := by omega
                  have hcn_ := (blk_cell hgl ni).trans (long_at LL i ni ni cellsl hni hrl (Nat.le_refl _) (by omega))
                  have hcn63_ := (blk_cell hgl x63.toNat).trans (long_at LL i ni x63.toNat cellsl hni hrl (by omega) (by omega))
                  clear hx hlm_ ei hli hmi hgi hri ew el hgl hrl hlnl h63c
                  have hwu2 := Aside0.mk hwu
                  go_wp2
                  have HQ1 : Aside0 (ni ≤ nl) := ⟨by rw [← hnl]; exact Nat.le_add_right _ _⟩
                  clear hcw_ hcn_ hcn63_ hwu hq0 hq1 hx63 hx64 h63a h63b hq64 hnl hmod2 hw1
                  go_loopg [17] ni (fun kq v17 w' => ∃ k : Nat, v17 = .int .i64 (k : Int) ∧ Aside0 (k + kq = ni) ∧ Aside0 (w' = W3))
                  case atStart => exact ⟨0, rfl, ⟨by omega⟩, ⟨rfl⟩⟩
                  case round =>
                    obtain ⟨k, rfl, HKQ, HW4⟩ := hrel
                    obtain rfl : W3 = wr := HW4.out.symm
                    by_cases hk : k < ni
                    · have p1 : 0 ≤ (k : Int) := Int.natCast_nonneg _
                      have q1 : (k : Int) < (ni : Int) := Int.ofNat_lt.2 hk
                      have q2 : (k : Int) < (nl : Int) := Int.ofNat_lt.2 (Nat.lt_of_lt_of_le hk HQ1.out)
                      have lt3 : decide ((k : Int) < (ni : Int)) = true := decide_eq_true q1
                      have lt4 : decide (k < ni) = true := decide_eq_true hk
                      have HKX := Aside0.mk hk
                      have hck_ := (blk_cell HGI.out k).trans (rep_at LL i ni k cellsi HNI.out HRI.out hk)
                      have hckl_ := (blk_cell HGL.out k).trans (long_rep LL i ni k cellsl HNI.out HRL.out hk)
                      have hwk : wrap64 ((k : Int) + 1) = ((k + 1 : Nat) : Int) := wrap_step hk (Nat.le_trans HNIM.out (by decide))
                      clear hk
                      go_wp2
                      go_roundg (ni - (k + 1))
                      case measure => exact sub_lt' HKX.out HKQ.out
                      case rel => exact ⟨k + 1, (by first | rfl | (simp; done) | go_num | (simp [*]; done)), ⟨sub_step' HKX.out HKQ.out⟩, ⟨rfl⟩⟩
                    · have lt3 : decide ((k : Int) < (ni : Int)) = false := decide_eq_false (fun h_ => hk (Int.ofNat_lt.1 h_))
                      have lt4 : decide (k < ni) = false := decide_eq_false hk
                      have hwu := hwu2.out
                      clear hk hc_ hcl_ hmod q0 p0 lt1 lt2
                      go_wp2
                      go_roundg (N - (i + 1))
                      case measure => exact sub_lt' HX.out HI.out
                      case rel => exact ⟨i + 1, (by first | rfl | (simp; done) | go_num | (simp [*]; done)), ⟨sub_step' HX.out HI.out⟩, ⟨rfl⟩⟩
                · have lt1 : decide ((i : Int) < (N : Int)) = false := decide_eq_false (fun h_ => hx (Int.ofNat_lt.1 h_))
                  have lt2 : decide (i < N) = false := decide_eq_false hx
                  have ei : N = i := by have h_ := HI.out; omega
                  subst ei
                  have HB := Aside0.mk (HK.out.fin HB1.out (below_size HB1.out) LB0.out)
                  have KX3 := Aside0.mk (HK.out.row1 KX1.out KB0.out)
                  have WX3 := Aside0.mk (HK.out.blk WX1.out XB0.out)
                  clear hx HI HW3 HF HO HG HLB TL
                  go_upto_region 46 with (first | (go_at_call 6; (with_reducible refine (lines_c (some ⟨gkp, 0, none⟩) ck (HEAD5 ++ l0) (l0.length + 5) HXL.out Ls m HL.out HM.out HP.out (by have h_ := HSM.out; rw [HXL.out]; omega) HBY.out _ (rowC KX3.out) CK.out (MaxAt_below HRM.out HB.out)).mono ?_); rintro e W4 ⟨ha, cla, va, ba, rfl, hc_, ht_, hr_, _, _, _, hb⟩; have n0_ := Aside0.mk (hc_); have n1_ := Aside0.mk (ht_); have n2_ := Aside0.mk (hr_); have n3_ := Aside0.mk (fun j hj => (HA.out j hj).below hb : RowsW W4 N vs (REP LL) bs); have n4_ := Aside0.mk (TC.out.below hb); have n5_ := Aside0.mk (TWc.out.below hb); have n6_ := Aside0.mk (RWc.out.below hb); have n7_ := Aside0.mk (blk_below WX3.out hb); have n8_ := Aside0.mk (KX3.out.below hb); have n9_ := Aside0.mk (below_step HB.out hb); clear HA TC TWc RWc WX3 KX3 HB hc_ ht_ hr_ hb HK; have CA := n0_; have TA := n1_; have RA := n2_; have HA := n3_; have TC := n4_; have TWc := n5_; have RWc := n6_; have WX3 := n7_; have KX3 := n8_; have HB := n9_; clear n0_ n1_ n2_ n3_ n4_ n5_ n6_ n7_ n8_ n9_))
                  go_wp2
                  go_loopg [19] N (fun kq v19 w' => ∃ i : Nat, v19 = .int .i64 (i : Int) ∧ Aside0 (i + kq = N) ∧ Aside0 (w' = W4))
                  case atStart => exact ⟨0, rfl, ⟨by omega⟩, ⟨rfl⟩⟩
                  case round =>
                    obtain ⟨i, rfl, HI, HW3⟩ := hrel
                    obtain rfl : W4 = wr := HW3.out.symm
                    clear lt1 lt2
                    by_cases hx : i < N
                    · have p0 : 0 ≤ (i : Int) := Int.natCast_nonneg _
                      have q0 : (i : Int) < (N : Int) := Int.ofNat_lt.2 hx
                      have lt1 : decide ((i : Int) < (N : Int)) = true := decide_eq_true q0
                      have lt2 : decide (i < N) = true := decide_eq_true hx
                      have HX := Aside0.mk hx
                      obtain ⟨ci, cellsi, ei, hli, hmi, hgi, hri⟩ := HA.out i hx
                      obtain ⟨ni, hni⟩ : ∃ n, (LL.getD i []).length = n := ⟨_, rfl⟩
                      have hlm_ := HLM.out (LL.getD i []) (by rw [List.getD_eq_getElem?_getD, List.getElem?_eq_getElem (by rw [HLN.out]; exact hx)]; exact List.getElem_mem _)
                      have HNI := Aside0.mk hni
                      have HNIM : Aside0 (ni ≤ 1048576) := ⟨by rw [← hni]; exact hlm_.2⟩
                      rw [rep_len LL i ni hni] at ei hli
                      have HVI := Aside0.mk ei
                      have HGI := Aside0.mk hgi
                      have HRI := Aside0.mk hri
                      have hwu : wrap64 ((i : Int) + 1) = ((i + 1 : Nat) : Int) := wrap_step hx (Nat.le_trans HN80.out (by decide))
                      have hmod := mod_i hx HN80.out
                      have hc_ := (TC.out.cell i hx).trans (congrArg some ei)
                      have hwu2 := Aside0.mk hwu
                      clear hx hlm_ ei hli hmi hgi hri hwu
                      go_wp2
                      go_loopg [20] ni (fun kq v20 w' => ∃ k : Nat, v20 = .int .i64 (k : Int) ∧ Aside0 (k + kq = ni) ∧ Aside0 (w' = W4))
                      case atStart => exact ⟨0, rfl, ⟨by omega⟩, ⟨rfl⟩⟩
                      case round =>
                        obtain ⟨k, rfl, HKQ, HW4⟩ := hrel
                        obtain rfl : W4 = wr := HW4.out.symm
                        by_cases hk : k < ni
                        · have p1 : 0 ≤ (k : Int) := Int.natCast_nonneg _
                          have q1 : (k : Int) < (ni : Int) := Int.ofNat_lt.2 hk
                          have lt3 : decide ((k : Int) < (ni : Int)) = true := decide_eq_true q1
                          have lt4 : decide (k < ni) = true := decide_eq_true hk
                          have HKX := Aside0.mk hk
                          have hck_ := (blk_cell HGI.out k).trans (rep_at LL i ni k cellsi HNI.out HRI.out hk)
                          have hwk : wrap64 ((k : Int) + 1) = ((k + 1 : Nat) : Int) := wrap_step hk (Nat.le_trans HNIM.out (by decide))
                          clear hk
                          go_wp2
                          go_roundg (ni - (k + 1))
                          case measure => exact sub_lt' HKX.out HKQ.out
                          case rel => exact ⟨k + 1, (by first | rfl | (simp; done) | go_num | (simp [*]; done)), ⟨sub_step' HKX.out HKQ.out⟩, ⟨rfl⟩⟩
                        · have lt3 : decide ((k : Int) < (ni : Int)) = false := decide_eq_false (fun h_ => hk (Int.ofNat_lt.1 h_))
                          have lt4 : decide (k < ni) = false := decide_eq_false hk
                          have hwu := hwu2.out
                          clear hk hmod lt1 lt2
                          go_wp2
                          go_roundg (N - (i + 1))
                          case measure => exact sub_lt' HX.out HI.out
                          case rel => exact ⟨i + 1, (by first | rfl | (simp; done) | go_num | (simp [*]; done)), ⟨sub_step' HX.out HI.out⟩, ⟨rfl⟩⟩
                    · have lt1 : decide ((i : Int) < (N : Int)) = false := decide_eq_false (fun h_ => hx (Int.ofNat_lt.1 h_))
                      have lt2 : decide (i < N) = false := decide_eq_false hx
                      obtain ⟨iR, byR, hiR, _⟩ := infoR
                      have hcut := cut_to 24 22 .i64 Try.underlying24 hiR (some ⟨hw, 0, none⟩) N cw (m : Int) (Int.natCast_nonneg _) (by have h_ := HN.out; omega) CW.out
                      simp only [Int.toNat_natCast] at hcut
                      have S2_ : Aside0 (l0.length + 5 ≤ 1048576) := ⟨by have h_ := HSM.out; omega⟩
                      have S3_ : Aside0 ((HEAD5 ++ l0).length ≤ 1048576) := ⟨by rw [HXL.out]; exact S2_.out⟩
                      have S4_ : Aside0 (nx ≤ 9223372036854775807) := ⟨by have h_ := HSM.out; have h2_ := NX.out; omega⟩
                      have S5_ : Aside0 (Ls.length ≤ 1048576) := ⟨by have h_ := HM40.out; have h2_ := HM.out; omega⟩
                      have S6_ : Aside0 (m ≤ 9223372036854775807) := ⟨by have h_ := HM40.out; omega⟩
                      have S7_ : Aside0 (m ≤ N) := ⟨by have h_ := HN.out; omega⟩
                      have hq_ : Int.tdiv (N : Int) 2 = (m : Int) := half_of HN.out
                      have hq2_ := wrap_m HM40.out
                      clear hx
                      go_wp2_with (first | (go_at_call 10; (with_reducible refine (copied_c (some ⟨gkp, 0, none⟩) ck (HEAD5 ++ l0) (l0.length + 5) HXL.out (Nat.succ_pos _) S2_.out _ (rowC KX3.out) CK.out).mono ?_); rintro e w5 ⟨g5, v5, rfl, hrow, hb, _⟩; have hrow2 := hrow; obtain ⟨c5, cells5, e5, hc5, _, _, _, _⟩ := hrow2; rw [HXL.out] at e5 hc5; subst e5; have n0_ := Aside0.mk (hc5); have n1_ := Aside0.mk (hrow); have n2_ := Aside0.mk (TA.out.below hb); have n3_ := Aside0.mk (RA.out.below hb); have n4_ := Aside0.mk (TWc.out.below hb); have n5_ := Aside0.mk (RWc.out.below hb); have n6_ := Aside0.mk (blk_below WX3.out hb); have n7_ := Aside0.mk (below_step (by repeat (first | (with_reducible first | exact HB.out | apply below_alloc | apply pw_below_drewN | apply below_drew1) | exact HB.out)) hb); clear TA RA TWc RWc WX3 HB hrow hb hc5; have C5 := n0_; have R5 := n1_; have TA := n2_; have RA := n3_; have TWc := n4_; have RWc := n5_; have WX3 := n6_; have HB := n7_; clear n0_ n1_ n2_ n3_ n4_ n5_ n6_ n7_) | (go_at_call 9; (with_reducible refine (same_c (some ⟨gx, 0, none⟩) (some ⟨g5, 0, none⟩) cx c5 (HEAD5 ++ l0) nx (l0.length + 5) (HXL.out.trans NX.out.symm) HXL.out S3_.out _ (C_row WX3.out RX.out (HXL.out.trans NX.out.symm) S4_.out) CX.out (rowC R5.out) C5.out).mono ?_); rintro e w5 ⟨rfl, hb⟩; have n0_ := Aside0.mk (TA.out.below hb); have n1_ := Aside0.mk (RA.out.below hb); have n2_ := Aside0.mk (TWc.out.below hb); have n3_ := Aside0.mk (RWc.out.below hb); have n4_ := Aside0.mk (blk_below WX3.out hb); have n5_ := Aside0.mk (below_step (by repeat (first | (with_reducible first | exact HB.out | apply below_alloc | apply pw_below_drewN | apply below_drew1) | exact HB.out)) hb); clear TA RA TWc RWc WX3 HB hb; have TA := n0_; have RA := n1_; have TWc := n2_; have RWc := n3_; have WX3 := n4_; have HB := n5_; clear n0_ n1_ n2_ n3_ n4_ n5_) | (go_at_call 7; (with_reducible refine (alike_c (some ⟨ha, 0, none⟩) (some ⟨hw, 0, none⟩) cla cw Ls m HM.out S5_.out HLL.out _ (C_tab HM.out S6_.out TA.out RA.out) CA.out (C_tab HM.out S6_.out (tab_pre TWc.out S7_.out) (rows_pre HM.out HLLs.out HN.out RWc.out)) (Nat.le_trans S7_.out CW.out)).mono ?_); rintro e w5 ⟨rfl, hb⟩; have n0_ := Aside0.mk (below_step (by repeat (first | (with_reducible first | exact HB.out | apply below_alloc | apply pw_below_drewN | apply below_drew1) | exact HB.out)) hb); clear HB hb; have HB := n0_; clear n0_))
                      go_ret
                      exact ⟨rfl, HB.out⟩
theorem fresh_c (A0 : Option Addr) (c0 : Nat) (l0 : List Int) (w : World) (hr0 : Kd.C (Kd.int .u8) w A0 l0.length l0) (hc0 : l0.length ≤ c0) (hrM : MaxAt w) (hby : ∀ x ∈ l0, 0 ≤ x ∧ x ≤ 255) : Calls Try.prog 4 #[.slice A0 l0.length c0] w fun e w' => e = .returned (.bool true) ∧ Below w.heap.size w w' := by
  by_cases hz : 200000 < l0.length
  · exact fresh_long A0 c0 l0 w hr0 hc0 hrM hby hz
  obtain ⟨Ls, hL⟩ : ∃ Ls, scan (HEAD5 ++ l0) [] = Ls := ⟨_, rfl⟩
  by_cases h40 : 40 < Ls.length
  · exact fresh_many A0 c0 l0 w hr0 hc0 hrM hby hz Ls Ls.length hL rfl h40
  · refine fresh_go A0 c0 l0 w hr0 hc0 hrM hby hz Ls Ls.length hL rfl h40 (fun l hl => ?_) (fun l hl => scan_full (HEAD5 ++ l0) [] l (hL ▸ hl)) (by rw [← hL, scan_calm]; rfl)
    have h1 := scan_mem (HEAD5 ++ l0) [] l (hL ▸ hl)
    rw [List.length_append] at h1
    have h2 : HEAD5.length = 5 := rfl
    simp only [List.length_nil] at h1
    omega
end Go.Proofs.Ytpglakfafanhoaa.NFresh
