/- arrearslaw11.step, one theorem a kind of call: the three holders go on holding one list, and it says true. Conditions: the numbers are ints, the list is not beyond all memory. -/
import Derived.Test.YtkbbngkfncbgkaaDoorZUStepA
namespace Go.Proofs.YtkbbngkfncbgkaaDoor.UStepB
open Go.RowKit Go.Proofs.YtkbbngkfncbgkaaDoor.IQHeap Go.Proofs.YtkbbngkfncbgkaaDoor.UPlain Go.Proofs.YtkbbngkfncbgkaaDoor.URel Go.Proofs.YtkbbngkfncbgkaaDoor.URef Go.Proofs.YtkbbngkfncbgkaaDoor.UTrio Go.Proofs.YtkbbngkfncbgkaaDoorW.PrintWords Go.Proofs.YtkbbngkfncbgkaaDoorW.PrintLast Go.Proofs.YtkbbngkfncbgkaaDoorW.PrintMore Go.Proofs.YtkbbngkfncbgkaaDoor.UWord Go.Proofs.YtkbbngkfncbgkaaDoor.UGets Go.Proofs.YtkbbngkfncbgkaaDoor.UNexts Go.Proofs.YtkbbngkfncbgkaaDoor.UPops Go.Proofs.YtkbbngkfncbgkaaDoor.ULists Go.Proofs.YtkbbngkfncbgkaaDoor.UFacts Go.Proofs.YtkbbngkfncbgkaaDoor.PA
open Go.Proofs.YtkbbngkfncbgkaaDoor.IQWords (Ky KyOk Tn QS Hd)
set_option linter.unusedVariables false
set_option linter.unusedSimpArgs false
set_option maxHeartbeats 8000000 in
set_option maxRecDepth 1000000 in
theorem step_put (B : Nat) (F : Nat → Prop) (qi mi : Nat) (vi : Value) (L : List (Ky × Int)) (qt mt : Nat) (vt : Value) (M : List (Ky × ByteArray)) (u : Value) (X : List (Ky × Int)) (w : World) (hM : TM B w F qi mi vi L qt mt vt M u X) (hS : Same L M X) (hx : X.length + 1 < 2950000000000) (oth : Bool) (k : Ky) (hk : KyOk k) (n : Int) (hn : (Lit.int .i64 n).wf = true) :
    Calls Tryd.prog 9 #[.agg #[.pointer (some ⟨qi, 0, none⟩), .pointer (some ⟨qt, 0, none⟩), u], .agg #[.int .i64 1, .bool oth, .int .i64 k.d, .int .i64 k.l, .int .i64 k.k, .int .i64 n]] w fun e w' => StepR B w w' F qi qt (X.length + 1) e := by
  obtain ⟨A, c, rfl⟩ := hM.r.form
  obtain ⟨hM1, hX1, hP1, hR1, hT1⟩ := TM.box3 hM #[.pointer (some ⟨qi, 0, none⟩), .pointer (some ⟨qt, 0, none⟩), .slice A X.length c] #[.int .i64 1, .bool oth, .int .i64 k.d, .int .i64 k.l, .int .i64 k.k, .int .i64 n] #[.pointer none, .pointer none, .slice none 0 0] 33 26 33
  have HM1 := Hd.mk hM1
  have HX1 := Hd.mk hX1
  have HP1 := Hd.mk hP1
  have HR1 := Hd.mk hR1
  have HO1 := Hd.mk (Out.of_tn hT1 F)
  have HS := Hd.mk hS
  have HKO := Hd.mk hk
  have HNW := Hd.mk hn
  have NE0 : Hd (0 ≠ w.heap.size) := ⟨by have := PowAt_lt hM.pw; omega⟩
  have hl : L.length + 1 < 3000000000000 := by rw [hS.i.len]; omega
  have hm : M.length + 1 < 3000000000000 := by rw [hS.t.len, List.length_map]; omega
  have hl2 : L.length < 3000000000000 := by omega
  have hm2 : M.length < 3000000000000 := by omega
  have hx4 : X.length < 4000000000000 := by omega
  have HNB : Hd (-9223372036854775808 ≤ n ∧ n ≤ 9223372036854775807) := ⟨bounds_i64 hn⟩
  obtain ⟨x, L1, M1, Y, f1, f2, f3, f4, f5⟩ := put_facts hS k hk n HNB.out.1 HNB.out.2
  obtain ⟨s, hs⟩ : ∃ s, wd n = s := ⟨_, rfl⟩
  rw [hs] at f5
  have HE := Hd.mk hs
  have F1 := Hd.mk f1
  have F2 := Hd.mk f2
  have F3 := Hd.mk f3
  have F4 := Hd.mk f4
  have F5 := Hd.mk f5
  clear f1 f2 f3 f4 f5 hs
  have e1 : (x == x) = true := by simp
  clear hM hM1 hX1 hP1 hR1 hT1 hS hk hn
  go_enter Tryd.func9, Tryd.ntmps9
  go_upto_region 1 with (fail)
  obtain ⟨tb, htb⟩ : ∃ tb, w.heap.size = tb := ⟨_, rfl⟩
  obtain ⟨ob, hob⟩ : ∃ ob, w.heap.size + 1 = ob := ⟨_, rfl⟩
  obtain ⟨rb, hrb⟩ : ∃ rb, w.heap.size + 1 + 1 = rb := ⟨_, rfl⟩
  have NEt : Hd (0 ≠ tb ∧ 0 ≠ rb ∧ ob ≠ tb ∧ rb ≠ tb ∧ tb ≠ rb ∧ ob ≠ rb ∧ w.heap.size ≤ tb ∧ w.heap.size ≤ rb) := ⟨by have := NE0.out; omega⟩
  try rw [show w.heap.size + 2 = w.heap.size + 1 + 1 from rfl]
  rw [hrb] at HR1 ⊢
  rw [hob] at HP1 ⊢
  rw [htb] at HX1 ⊢
  generalize hW : ((w.alloc (.cells #[.pointer (some ⟨qi, 0, none⟩), .pointer (some ⟨qt, 0, none⟩), .slice A X.length c] 33)).alloc (.cells #[.int .i64 1, .bool oth, .int .i64 k.d, .int .i64 k.l, .int .i64 k.k, .int .i64 n] 26)).alloc (.cells #[.pointer none, .pointer none, .slice none 0 0] 33) = W1 at HM1 HX1 HP1 HR1 HO1 ⊢
  clear hW htb hob hrb NE0
  have t0 : W1.cell? ⟨tb, 0, none⟩ = some (.pointer (some ⟨qi, 0, none⟩)) := cell_of_row W1 tb 0 _ _ (0, 0) HX1.out.at_
  have t1 : W1.cell? ⟨tb, 1, none⟩ = some (.pointer (some ⟨qt, 0, none⟩)) := cell_of_row W1 tb 1 _ _ (0, 0) HX1.out.at_
  have t2 : W1.cell? ⟨tb, 2, none⟩ = some (.slice A X.length c) := cell_of_row W1 tb 2 _ _ (0, 0) HX1.out.at_
  have o0 : W1.cell? ⟨ob, 0, none⟩ = some (.int .i64 1) := cell_of_row W1 ob 0 _ _ (0, 0) HP1.out.at_
  have o1 : W1.cell? ⟨ob, 1, none⟩ = some (.bool oth) := cell_of_row W1 ob 1 _ _ (0, 0) HP1.out.at_
  have o2 : W1.cell? ⟨ob, 2, none⟩ = some (.int .i64 k.d) := cell_of_row W1 ob 2 _ _ (0, 0) HP1.out.at_
  have o3 : W1.cell? ⟨ob, 3, none⟩ = some (.int .i64 k.l) := cell_of_row W1 ob 3 _ _ (0, 0) HP1.out.at_
  have o4 : W1.cell? ⟨ob, 4, none⟩ = some (.int .i64 k.k) := cell_of_row W1 ob 4 _ _ (0, 0) HP1.out.at_
  have o5 : W1.cell? ⟨ob, 5, none⟩ = some (.int .i64 n) := cell_of_row W1 ob 5 _ _ (0, 0) HP1.out.at_
  have r0 : W1.cell? ⟨rb, 0, none⟩ = some (.pointer none) := cell_of_row W1 rb 0 _ _ (0, 0) HR1.out.at_
  have r1 : W1.cell? ⟨rb, 1, none⟩ = some (.pointer none) := cell_of_row W1 rb 1 _ _ (0, 0) HR1.out.at_
  have r2 : W1.cell? ⟨rb, 2, none⟩ = some (.slice none 0 0) := cell_of_row W1 rb 2 _ _ (0, 0) HR1.out.at_
  have hfz : ∀ q, W1.frozen? ⟨tb, q, none⟩ = false := fun q => frozen_of_row W1 tb q _ _ HX1.out.at_
  have hfzr : ∀ q, W1.frozen? ⟨rb, q, none⟩ = false := fun q => frozen_of_row W1 rb q _ _ HR1.out.at_
  go_upto_region 6 with (first | (go_at_call 12; refine (ref_put B _ _ X k hx4 HM1.out.r HM1.out.bz n Y x F1.out).mono ?_; rintro e W2 ⟨u1, rfl, hR2, hT2, hu2⟩; obtain ⟨A1, c1, rfl⟩ := hR2.form; have hO_ := Fx.out hT2 HM1.out.fr; have HM2 := Hd.mk (HM1.out.ref hR2 hT2 hu2); have HX2 := Hd.mk (HX1.out.kept hO_); have HP2 := Hd.mk (HP1.out.kept hO_); have HR2 := Hd.mk (HR1.out.kept hO_); have HO2 := Hd.mk (HO1.out.trans hO_); clear hO_ t0 t1 t2 o0 o1 o2 o3 o4 o5 r0 r1 r2 hR2 hT2 hu2 hfz hfzr; have t0 : W2.cell? ⟨tb, 0, none⟩ = some (.pointer (some ⟨qi, 0, none⟩)) := cell_of_row W2 tb 0 _ _ (0, 0) HX2.out.at_; have t1 : W2.cell? ⟨tb, 1, none⟩ = some (.pointer (some ⟨qt, 0, none⟩)) := cell_of_row W2 tb 1 _ _ (0, 0) HX2.out.at_; have t2 : W2.cell? ⟨tb, 2, none⟩ = some (.slice A X.length c) := cell_of_row W2 tb 2 _ _ (0, 0) HX2.out.at_; have o0 : W2.cell? ⟨ob, 0, none⟩ = some (.int .i64 1) := cell_of_row W2 ob 0 _ _ (0, 0) HP2.out.at_; have o1 : W2.cell? ⟨ob, 1, none⟩ = some (.bool oth) := cell_of_row W2 ob 1 _ _ (0, 0) HP2.out.at_; have o2 : W2.cell? ⟨ob, 2, none⟩ = some (.int .i64 k.d) := cell_of_row W2 ob 2 _ _ (0, 0) HP2.out.at_; have o3 : W2.cell? ⟨ob, 3, none⟩ = some (.int .i64 k.l) := cell_of_row W2 ob 3 _ _ (0, 0) HP2.out.at_; have o4 : W2.cell? ⟨ob, 4, none⟩ = some (.int .i64 k.k) := cell_of_row W2 ob 4 _ _ (0, 0) HP2.out.at_; have o5 : W2.cell? ⟨ob, 5, none⟩ = some (.int .i64 n) := cell_of_row W2 ob 5 _ _ (0, 0) HP2.out.at_; have r0 : W2.cell? ⟨rb, 0, none⟩ = some (.pointer none) := cell_of_row W2 rb 0 _ _ (0, 0) HR2.out.at_; have r1 : W2.cell? ⟨rb, 1, none⟩ = some (.pointer none) := cell_of_row W2 rb 1 _ _ (0, 0) HR2.out.at_; have r2 : W2.cell? ⟨rb, 2, none⟩ = some (.slice none 0 0) := cell_of_row W2 rb 2 _ _ (0, 0) HR2.out.at_; have hfz : ∀ q, W2.frozen? ⟨tb, q, none⟩ = false := fun q => frozen_of_row W2 tb q _ _ HX2.out.at_; have hfzr : ∀ q, W2.frozen? ⟨rb, q, none⟩ = false := fun q => frozen_of_row W2 rb q _ _ HR2.out.at_; generalize hF : Fx F W1 W2 = F2_ at HM2 HX2 HP2 HR2 HO2; clear hF))
  obtain ⟨hr8, ht8⟩ := set1 (.slice A1 Y.length c1) HX2.out.at_
  have HR_ := Hd.mk hr8
  generalize hW : W2.setCell ⟨tb, 2, none⟩ (.slice A1 Y.length c1) = W3 at HR_ ht8 ⊢
  have HM3 := Hd.mk (HM2.out.frame ht8 (fun k h e => HX2.out.out (by rw [← e]; exact h)) (fun e => NEt.out.1 e))
  have HX3 : Hd (Bx W3 F2_ tb _) := ⟨⟨HR_.out, HX2.out.out⟩⟩
  have HP3 : Hd (Bx W3 F2_ ob _) := ⟨⟨ht8.blk HP2.out.at_ NEt.out.2.2.1, HP2.out.out⟩⟩
  have HR3 : Hd (Bx W3 F2_ rb _) := ⟨⟨ht8.blk HR2.out.at_ NEt.out.2.2.2.1, HR2.out.out⟩⟩
  have HO3 : Hd (Out w W3 F F2_) := ⟨HO2.out.tn.then_ ht8 (fun q h => .inr (by rw [h]; exact NEt.out.2.2.2.2.2.2.1)), HO2.out.sub⟩
  clear hW ht8 hr8 HR_ hfz hfzr t0 t1 t2 o0 o1 o2 o3 o4 o5 r0 r1 r2
  have t0 : W3.cell? ⟨tb, 0, none⟩ = some (.pointer (some ⟨qi, 0, none⟩)) := cell_of_row W3 tb 0 _ _ (0, 0) HX3.out.at_
  have t1 : W3.cell? ⟨tb, 1, none⟩ = some (.pointer (some ⟨qt, 0, none⟩)) := cell_of_row W3 tb 1 _ _ (0, 0) HX3.out.at_
  have t2 : W3.cell? ⟨tb, 2, none⟩ = some (.slice A1 Y.length c1) := cell_of_row W3 tb 2 _ _ (0, 0) HX3.out.at_
  have o0 : W3.cell? ⟨ob, 0, none⟩ = some (.int .i64 1) := cell_of_row W3 ob 0 _ _ (0, 0) HP3.out.at_
  have o1 : W3.cell? ⟨ob, 1, none⟩ = some (.bool oth) := cell_of_row W3 ob 1 _ _ (0, 0) HP3.out.at_
  have o2 : W3.cell? ⟨ob, 2, none⟩ = some (.int .i64 k.d) := cell_of_row W3 ob 2 _ _ (0, 0) HP3.out.at_
  have o3 : W3.cell? ⟨ob, 3, none⟩ = some (.int .i64 k.l) := cell_of_row W3 ob 3 _ _ (0, 0) HP3.out.at_
  have o4 : W3.cell? ⟨ob, 4, none⟩ = some (.int .i64 k.k) := cell_of_row W3 ob 4 _ _ (0, 0) HP3.out.at_
  have o5 : W3.cell? ⟨ob, 5, none⟩ = some (.int .i64 n) := cell_of_row W3 ob 5 _ _ (0, 0) HP3.out.at_
  have r0 : W3.cell? ⟨rb, 0, none⟩ = some (.pointer none) := cell_of_row W3 rb 0 _ _ (0, 0) HR3.out.at_
  have r1 : W3.cell? ⟨rb, 1, none⟩ = some (.pointer none) := cell_of_row W3 rb 1 _ _ (0, 0) HR3.out.at_
  have r2 : W3.cell? ⟨rb, 2, none⟩ = some (.slice none 0 0) := cell_of_row W3 rb 2 _ _ (0, 0) HR3.out.at_
  have hfz : ∀ q, W3.frozen? ⟨tb, q, none⟩ = false := fun q => frozen_of_row W3 tb q _ _ HX3.out.at_
  have hfzr : ∀ q, W3.frozen? ⟨rb, q, none⟩ = false := fun q => frozen_of_row W3 rb q _ _ HR3.out.at_
  go_upto_region 7 with (first | (go_at_call 13; refine (putI qi mi vi k n L L1 x _ HKO.out hl HM3.out.i F4.out).mono ?_; rintro e W4 ⟨rfl, v1, hQ4, hT4, hv4⟩; have hO_ := Fx.out hT4 HM3.out.fi; have HM4 := Hd.mk (HM3.out.int hQ4 hT4 hv4); have HX4 := Hd.mk (HX3.out.kept hO_); have HP4 := Hd.mk (HP3.out.kept hO_); have HR4 := Hd.mk (HR3.out.kept hO_); have HO4 := Hd.mk (HO3.out.trans hO_); clear hO_ t0 t1 t2 o0 o1 o2 o3 o4 o5 r0 r1 r2 hQ4 hT4 hv4 hfz hfzr; have t0 : W4.cell? ⟨tb, 0, none⟩ = some (.pointer (some ⟨qi, 0, none⟩)) := cell_of_row W4 tb 0 _ _ (0, 0) HX4.out.at_; have t1 : W4.cell? ⟨tb, 1, none⟩ = some (.pointer (some ⟨qt, 0, none⟩)) := cell_of_row W4 tb 1 _ _ (0, 0) HX4.out.at_; have t2 : W4.cell? ⟨tb, 2, none⟩ = some (.slice A1 Y.length c1) := cell_of_row W4 tb 2 _ _ (0, 0) HX4.out.at_; have o0 : W4.cell? ⟨ob, 0, none⟩ = some (.int .i64 1) := cell_of_row W4 ob 0 _ _ (0, 0) HP4.out.at_; have o1 : W4.cell? ⟨ob, 1, none⟩ = some (.bool oth) := cell_of_row W4 ob 1 _ _ (0, 0) HP4.out.at_; have o2 : W4.cell? ⟨ob, 2, none⟩ = some (.int .i64 k.d) := cell_of_row W4 ob 2 _ _ (0, 0) HP4.out.at_; have o3 : W4.cell? ⟨ob, 3, none⟩ = some (.int .i64 k.l) := cell_of_row W4 ob 3 _ _ (0, 0) HP4.out.at_; have o4 : W4.cell? ⟨ob, 4, none⟩ = some (.int .i64 k.k) := cell_of_row W4 ob 4 _ _ (0, 0) HP4.out.at_; have o5 : W4.cell? ⟨ob, 5, none⟩ = some (.int .i64 n) := cell_of_row W4 ob 5 _ _ (0, 0) HP4.out.at_; have r0 : W4.cell? ⟨rb, 0, none⟩ = some (.pointer none) := cell_of_row W4 rb 0 _ _ (0, 0) HR4.out.at_; have r1 : W4.cell? ⟨rb, 1, none⟩ = some (.pointer none) := cell_of_row W4 rb 1 _ _ (0, 0) HR4.out.at_; have r2 : W4.cell? ⟨rb, 2, none⟩ = some (.slice none 0 0) := cell_of_row W4 rb 2 _ _ (0, 0) HR4.out.at_; have hfz : ∀ q, W4.frozen? ⟨tb, q, none⟩ = false := fun q => frozen_of_row W4 tb q _ _ HX4.out.at_; have hfzr : ∀ q, W4.frozen? ⟨rb, q, none⟩ = false := fun q => frozen_of_row W4 rb q _ _ HR4.out.at_; generalize hF : Fx F2_ W3 W4 = F3_ at HM4 HX4 HP4 HR4 HO4; clear hF))
  have HMD := Hd.mk (HM4.out.still (Tn.refl W4 (fun _ => False)).drew)
  refine start_ (n := 9) (S := fun w' => w'.cell? ⟨tb, 0, none⟩ = some (.pointer (some ⟨qi, 0, none⟩)) ∧ w'.cell? ⟨tb, 1, none⟩ = some (.pointer (some ⟨qt, 0, none⟩)) ∧ w'.cell? ⟨tb, 2, none⟩ = some (.slice A1 Y.length c1) ∧ w'.cell? ⟨ob, 0, none⟩ = some (.int .i64 1) ∧ w'.cell? ⟨ob, 1, none⟩ = some (.bool oth) ∧ w'.cell? ⟨ob, 2, none⟩ = some (.int .i64 k.d) ∧ w'.cell? ⟨ob, 3, none⟩ = some (.int .i64 k.l) ∧ w'.cell? ⟨ob, 4, none⟩ = some (.int .i64 k.k) ∧ w'.cell? ⟨ob, 5, none⟩ = some (.int .i64 n)) (ds := [7]) #[false, false, false, false, false, false, false, false, false] (by kernel_rfl) rfl rfl ⟨t0, t1, t2, o0, o1, o2, o3, o4, o5⟩ (fun hHeld => ?_)
  refine pure_ (i := 0) (N := some 36) (v := ?_) (a' := ?_) #[true, false, false, false, false, false, false, false, false] rfl rfl (by kernel_rfl) (fun _ _ _ h => h) (Or.inl ⟨by rfl, ?_⟩) ?_ ?_
  rotate_left
  · intro w'
    go_simp
    with_reducible rfl
  rotate_left
  · simp only [Act.put, List.setIfInBounds_toArray, List.set_cons_zero, List.set_cons_succ, i64_w, i32_w]
    rfl
  refine pure_ (i := 2) (N := some 38) (v := ?_) (a' := ?_) #[true, false, true, false, false, false, false, false, false] rfl rfl (by kernel_rfl) (fun _ _ _ h => h) (Or.inl ⟨by rfl, ?_⟩) ?_ ?_
  rotate_left
  · intro w'
    go_simp
    with_reducible rfl
  rotate_left
  · simp only [Act.put, List.setIfInBounds_toArray, List.set_cons_zero, List.set_cons_succ, i64_w, i32_w]
    rfl
  refine pure_ (i := 4) (N := some 40) (v := ?_) (a' := ?_) #[true, false, true, false, true, false, false, false, false] rfl rfl (by kernel_rfl) (fun _ _ _ h => h) (Or.inl ⟨by rfl, ?_⟩) ?_ ?_
  rotate_left
  · intro w'
    go_simp
    with_reducible rfl
  rotate_left
  · simp only [Act.put, List.setIfInBounds_toArray, List.set_cons_zero, List.set_cons_succ, i64_w, i32_w]
    rfl
  refine take_ (i := 1) (N := some 37) (v := ?_) (a' := ?_) #[true, true, true, false, true, false, false, false, false] rfl rfl (by kernel_rfl) (fun _ _ _ h => h) (Or.inl ⟨by rfl, ?_⟩) hHeld ?_ ?_
  rotate_left
  · rintro w' ⟨s0, s1, s2, s3, s4, s5, s6, s7, s8⟩
    go_simp
    with_reducible rfl
  rotate_left
  · simp only [Act.put, List.setIfInBounds_toArray, List.set_cons_zero, List.set_cons_succ, i64_w, i32_w]
    rfl
  refine take_ (i := 3) (N := some 39) (v := ?_) (a' := ?_) #[true, true, true, true, true, false, false, false, false] rfl rfl (by kernel_rfl) (fun _ _ _ h => h) (Or.inl ⟨by rfl, ?_⟩) hHeld ?_ ?_
  rotate_left
  · rintro w' ⟨s0, s1, s2, s3, s4, s5, s6, s7, s8⟩
    go_simp
    with_reducible rfl
  rotate_left
  · simp only [Act.put, List.setIfInBounds_toArray, List.set_cons_zero, List.set_cons_succ, i64_w, i32_w]
    rfl
  refine take_ (i := 5) (N := some 41) (v := ?_) (a' := ?_) #[true, true, true, true, true, true, false, false, false] rfl rfl (by kernel_rfl) (fun _ _ _ h => h) (Or.inl ⟨by rfl, ?_⟩) hHeld ?_ ?_
  rotate_left
  · rintro w' ⟨s0, s1, s2, s3, s4, s5, s6, s7, s8⟩
    go_simp
    with_reducible rfl
  rotate_left
  · simp only [Act.put, List.setIfInBounds_toArray, List.set_cons_zero, List.set_cons_succ, i64_w, i32_w]
    rfl
  refine one_ (i := 6) (N := some 42) #[true, true, true, true, true, true, true, false, false] rfl rfl (by kernel_rfl) (by decide) (fun K hK => ?_)
  refine goes_ Tryd.func15 (by kernel_rfl) rfl #[.int .i64 n] (by rfl) rfl rfl (by simp only [List.map_toArray, List.map_cons, List.map_nil]; rfl) ?_
  with_reducible refine (word_s n s HNB.out.1 HNB.out.2 HE.out _ HMD.out.pw).mono ?_
  rintro e W10 ⟨rfl, hb10⟩
  refine ⟨_, rfl, ?_⟩
  have p_t0 := keept hb10 t0
  have p_t1 := keept hb10 t1
  have p_t2 := keept hb10 t2
  have p_o0 := keept hb10 o0
  have p_o1 := keept hb10 o1
  have p_o2 := keept hb10 o2
  have p_o3 := keept hb10 o3
  have p_o4 := keept hb10 o4
  have p_o5 := keept hb10 o5
  have HMW := Hd.mk (HMD.out.still hb10)
  refine hK.out _ _ ⟨p_t0, p_t1, p_t2, p_o0, p_o1, p_o2, p_o3, p_o4, p_o5⟩ (fun hHeld => ?_)
  clear hK K
  refine norm_ (a' := ?_) ?_ ?_
  rotate_left
  · show Act.put _ (some 42) _ = _
    simp only [Act.put, List.setIfInBounds_toArray, List.set_cons_zero, List.set_cons_succ, i64_w, i32_w]
    rfl
  refine last_ (i := 7) (N := some 43) #[true, true, true, true, true, true, true, true, false] rfl rfl (by kernel_rfl) (by decide) (fun K hK => ?_)
  refine goes_ Tryd.func14 (by kernel_rfl) rfl #[.pointer (some ⟨qt, 0, none⟩), .agg #[.int .i64 k.d, .int .i64 k.l, .int .i64 k.k], .string s] (by rfl) rfl rfl (by simp only [List.map_toArray, List.map_cons, List.map_nil]; rfl) ?_
  with_reducible refine (putT qt mt vt k s M M1 x _ HKO.out hm HMW.out.t F5.out).mono ?_
  rintro e W5 ⟨rfl, v2, hQ5, hT5, hv5⟩
  refine ⟨_, rfl, ?_⟩
  refine hK.out _ _ ?_
  clear hK K
  refine norm_ (a' := ?_) ?_ ?_
  rotate_left
  · show Act.put _ (some 43) _ = _
    simp only [Act.put, List.setIfInBounds_toArray, List.set_cons_zero, List.set_cons_succ, i64_w, i32_w]
    rfl
  refine pure_ (i := 8) (N := some 9) (v := ?_) (a' := ?_) #[true, true, true, true, true, true, true, true, true] rfl rfl (by kernel_rfl) (fun _ _ _ h => h) (Or.inl ⟨by rfl, ?_⟩) ?_ ?_
  rotate_left
  · intro w'
    go_simp
    with_reducible rfl
  rotate_left
  · simp only [Act.put, List.setIfInBounds_toArray, List.set_cons_zero, List.set_cons_succ, i64_w, i32_w]
    rfl
  refine done_ (by kernel_rfl) ?_

  have hTd : Tn W4 W10 (fun _ => False) := ⟨hb10.os, hb10.tape, hb10.output, hb10.size, hb10.block⟩
  have hOd := (Out.of_tn hTd F3_).trans (Fx.out hT5 HMW.out.ft)
  have HM5 := Hd.mk (HMW.out.txt hQ5 hT5 hv5)
  have HX5 := Hd.mk (HX4.out.kept hOd)
  have HP5 := Hd.mk (HP4.out.kept hOd)
  have HR5 := Hd.mk (HR4.out.kept hOd)
  have HO5 := Hd.mk (HO4.out.trans hOd)
  generalize hF : Fx F3_ W10 W5 = F4_ at HM5 HX5 HP5 HR5 HO5
  clear hF hOd hTd hQ5 hT5 hv5 hb10 HMW HMD hfz hfzr t0 t1 t2 o0 o1 o2 o3 o4 o5 r0 r1 r2 p_t0 p_t1 p_t2 p_o0 p_o1 p_o2 p_o3 p_o4 p_o5
  have t0 : W5.cell? ⟨tb, 0, none⟩ = some (.pointer (some ⟨qi, 0, none⟩)) := cell_of_row W5 tb 0 _ _ (0, 0) HX5.out.at_
  have t1 : W5.cell? ⟨tb, 1, none⟩ = some (.pointer (some ⟨qt, 0, none⟩)) := cell_of_row W5 tb 1 _ _ (0, 0) HX5.out.at_
  have t2 : W5.cell? ⟨tb, 2, none⟩ = some (.slice A1 Y.length c1) := cell_of_row W5 tb 2 _ _ (0, 0) HX5.out.at_
  have o0 : W5.cell? ⟨ob, 0, none⟩ = some (.int .i64 1) := cell_of_row W5 ob 0 _ _ (0, 0) HP5.out.at_
  have o1 : W5.cell? ⟨ob, 1, none⟩ = some (.bool oth) := cell_of_row W5 ob 1 _ _ (0, 0) HP5.out.at_
  have o2 : W5.cell? ⟨ob, 2, none⟩ = some (.int .i64 k.d) := cell_of_row W5 ob 2 _ _ (0, 0) HP5.out.at_
  have o3 : W5.cell? ⟨ob, 3, none⟩ = some (.int .i64 k.l) := cell_of_row W5 ob 3 _ _ (0, 0) HP5.out.at_
  have o4 : W5.cell? ⟨ob, 4, none⟩ = some (.int .i64 k.k) := cell_of_row W5 ob 4 _ _ (0, 0) HP5.out.at_
  have o5 : W5.cell? ⟨ob, 5, none⟩ = some (.int .i64 n) := cell_of_row W5 ob 5 _ _ (0, 0) HP5.out.at_
  have r0 : W5.cell? ⟨rb, 0, none⟩ = some (.pointer none) := cell_of_row W5 rb 0 _ _ (0, 0) HR5.out.at_
  have r1 : W5.cell? ⟨rb, 1, none⟩ = some (.pointer none) := cell_of_row W5 rb 1 _ _ (0, 0) HR5.out.at_
  have r2 : W5.cell? ⟨rb, 2, none⟩ = some (.slice none 0 0) := cell_of_row W5 rb 2 _ _ (0, 0) HR5.out.at_
  have hfz : ∀ q, W5.frozen? ⟨tb, q, none⟩ = false := fun q => frozen_of_row W5 tb q _ _ HX5.out.at_
  have hfzr : ∀ q, W5.frozen? ⟨rb, q, none⟩ = false := fun q => frozen_of_row W5 rb q _ _ HR5.out.at_
  obtain ⟨hr9, hT9⟩ := set3 (.pointer (some ⟨qi, 0, none⟩)) (.pointer (some ⟨qt, 0, none⟩)) (.slice A1 Y.length c1) HR5.out.at_
  have HR9 := Hd.mk hr9
  go_wp2
  generalize hW : ((W5.setCell ⟨rb, 0, none⟩ (.pointer (some ⟨qi, 0, none⟩))).setCell ⟨rb, 1, none⟩ (.pointer (some ⟨qt, 0, none⟩))).setCell ⟨rb, 2, none⟩ (.slice A1 Y.length c1) = W9_ at HR9 hT9 ⊢
  clear hW hr9
  have HM9 := Hd.mk (HM5.out.frame hT9 (fun k h e => HR5.out.out (by rw [← e]; exact h)) (fun e => NEt.out.2.1 e))
  have HO9 : Hd (Out w W9_ F F4_) := ⟨⟨HO5.out.tn.then_ hT9 (fun q h => .inr (by rw [h]; exact NEt.out.2.2.2.2.2.2.2)), HO5.out.sub⟩⟩
  (try simp only [Exit.inBlock, Exit.then])
  refine bodyPost_ret (results_list (rs := [.cell 4 33, .tmp 5]) rfl (by simp) (.cell rb 33 _ (0, 0) _ rfl HR9.out Tryd.underlying33 rfl (by kernel_rfl) (.tmp .nil))) rfl ?_
  exact ⟨F4_, mi, v1, L1, mt, v2, M1, _, Y, rfl, HM9.out, F2.out, HO9.out, F3.out⟩
set_option maxHeartbeats 8000000 in
set_option maxRecDepth 1000000 in
theorem step_get (B : Nat) (F : Nat → Prop) (qi mi : Nat) (vi : Value) (L : List (Ky × Int)) (qt mt : Nat) (vt : Value) (M : List (Ky × ByteArray)) (u : Value) (X : List (Ky × Int)) (w : World) (hM : TM B w F qi mi vi L qt mt vt M u X) (hS : Same L M X) (hx : X.length + 1 < 2950000000000) (oth : Bool) (k : Ky) (hk : KyOk k) (n : Int) (hn : (Lit.int .i64 n).wf = true) :
    Calls Tryd.prog 9 #[.agg #[.pointer (some ⟨qi, 0, none⟩), .pointer (some ⟨qt, 0, none⟩), u], .agg #[.int .i64 2, .bool oth, .int .i64 k.d, .int .i64 k.l, .int .i64 k.k, .int .i64 n]] w fun e w' => StepR B w w' F qi qt (X.length + 1) e := by
  obtain ⟨A, c, rfl⟩ := hM.r.form
  obtain ⟨hM1, hX1, hP1, hR1, hT1⟩ := TM.box3 hM #[.pointer (some ⟨qi, 0, none⟩), .pointer (some ⟨qt, 0, none⟩), .slice A X.length c] #[.int .i64 2, .bool oth, .int .i64 k.d, .int .i64 k.l, .int .i64 k.k, .int .i64 n] #[.pointer none, .pointer none, .slice none 0 0] 33 26 33
  have HM1 := Hd.mk hM1
  have HX1 := Hd.mk hX1
  have HP1 := Hd.mk hP1
  have HR1 := Hd.mk hR1
  have HO1 := Hd.mk (Out.of_tn hT1 F)
  have HS := Hd.mk hS
  have HKO := Hd.mk hk
  have HNW := Hd.mk hn
  have NE0 : Hd (0 ≠ w.heap.size) := ⟨by have := PowAt_lt hM.pw; omega⟩
  have hl : L.length + 1 < 3000000000000 := by rw [hS.i.len]; omega
  have hm : M.length + 1 < 3000000000000 := by rw [hS.t.len, List.length_map]; omega
  have hl2 : L.length < 3000000000000 := by omega
  have hm2 : M.length < 3000000000000 := by omega
  have hx4 : X.length < 4000000000000 := by omega
  have HNB : Hd (-9223372036854775808 ≤ n ∧ n ≤ 9223372036854775807) := ⟨bounds_i64 hn⟩
  clear hM hM1 hX1 hP1 hR1 hT1 hS hk hn
  go_enter Tryd.func9, Tryd.ntmps9
  go_upto_region 1 with (fail)
  obtain ⟨tb, htb⟩ : ∃ tb, w.heap.size = tb := ⟨_, rfl⟩
  obtain ⟨ob, hob⟩ : ∃ ob, w.heap.size + 1 = ob := ⟨_, rfl⟩
  obtain ⟨rb, hrb⟩ : ∃ rb, w.heap.size + 1 + 1 = rb := ⟨_, rfl⟩
  have NEt : Hd (0 ≠ tb ∧ 0 ≠ rb ∧ ob ≠ tb ∧ rb ≠ tb ∧ tb ≠ rb ∧ ob ≠ rb ∧ w.heap.size ≤ tb ∧ w.heap.size ≤ rb) := ⟨by have := NE0.out; omega⟩
  try rw [show w.heap.size + 2 = w.heap.size + 1 + 1 from rfl]
  rw [hrb] at HR1 ⊢
  rw [hob] at HP1 ⊢
  rw [htb] at HX1 ⊢
  generalize hW : ((w.alloc (.cells #[.pointer (some ⟨qi, 0, none⟩), .pointer (some ⟨qt, 0, none⟩), .slice A X.length c] 33)).alloc (.cells #[.int .i64 2, .bool oth, .int .i64 k.d, .int .i64 k.l, .int .i64 k.k, .int .i64 n] 26)).alloc (.cells #[.pointer none, .pointer none, .slice none 0 0] 33) = W1 at HM1 HX1 HP1 HR1 HO1 ⊢
  clear hW htb hob hrb NE0
  have t0 : W1.cell? ⟨tb, 0, none⟩ = some (.pointer (some ⟨qi, 0, none⟩)) := cell_of_row W1 tb 0 _ _ (0, 0) HX1.out.at_
  have t1 : W1.cell? ⟨tb, 1, none⟩ = some (.pointer (some ⟨qt, 0, none⟩)) := cell_of_row W1 tb 1 _ _ (0, 0) HX1.out.at_
  have t2 : W1.cell? ⟨tb, 2, none⟩ = some (.slice A X.length c) := cell_of_row W1 tb 2 _ _ (0, 0) HX1.out.at_
  have o0 : W1.cell? ⟨ob, 0, none⟩ = some (.int .i64 2) := cell_of_row W1 ob 0 _ _ (0, 0) HP1.out.at_
  have o1 : W1.cell? ⟨ob, 1, none⟩ = some (.bool oth) := cell_of_row W1 ob 1 _ _ (0, 0) HP1.out.at_
  have o2 : W1.cell? ⟨ob, 2, none⟩ = some (.int .i64 k.d) := cell_of_row W1 ob 2 _ _ (0, 0) HP1.out.at_
  have o3 : W1.cell? ⟨ob, 3, none⟩ = some (.int .i64 k.l) := cell_of_row W1 ob 3 _ _ (0, 0) HP1.out.at_
  have o4 : W1.cell? ⟨ob, 4, none⟩ = some (.int .i64 k.k) := cell_of_row W1 ob 4 _ _ (0, 0) HP1.out.at_
  have o5 : W1.cell? ⟨ob, 5, none⟩ = some (.int .i64 n) := cell_of_row W1 ob 5 _ _ (0, 0) HP1.out.at_
  have r0 : W1.cell? ⟨rb, 0, none⟩ = some (.pointer none) := cell_of_row W1 rb 0 _ _ (0, 0) HR1.out.at_
  have r1 : W1.cell? ⟨rb, 1, none⟩ = some (.pointer none) := cell_of_row W1 rb 1 _ _ (0, 0) HR1.out.at_
  have r2 : W1.cell? ⟨rb, 2, none⟩ = some (.slice none 0 0) := cell_of_row W1 rb 2 _ _ (0, 0) HR1.out.at_
  have hfz : ∀ q, W1.frozen? ⟨tb, q, none⟩ = false := fun q => frozen_of_row W1 tb q _ _ HX1.out.at_
  have hfzr : ∀ q, W1.frozen? ⟨rb, q, none⟩ = false := fun q => frozen_of_row W1 rb q _ _ HR1.out.at_
  have HMD := Hd.mk (HM1.out.still (Tn.refl W1 (fun _ => False)).drew)
  go_upto_region 10 with (fail)
  refine start_ (n := 7) (S := fun w' => w'.cell? ⟨tb, 0, none⟩ = some (.pointer (some ⟨qi, 0, none⟩)) ∧ w'.cell? ⟨tb, 1, none⟩ = some (.pointer (some ⟨qt, 0, none⟩)) ∧ w'.cell? ⟨tb, 2, none⟩ = some (.slice A X.length c) ∧ w'.cell? ⟨ob, 0, none⟩ = some (.int .i64 2) ∧ w'.cell? ⟨ob, 1, none⟩ = some (.bool oth) ∧ w'.cell? ⟨ob, 2, none⟩ = some (.int .i64 k.d) ∧ w'.cell? ⟨ob, 3, none⟩ = some (.int .i64 k.l) ∧ w'.cell? ⟨ob, 4, none⟩ = some (.int .i64 k.k) ∧ w'.cell? ⟨ob, 5, none⟩ = some (.int .i64 n)) (ds := [5]) #[false, false, false, false, false, false, false] (by kernel_rfl) rfl rfl ⟨t0, t1, t2, o0, o1, o2, o3, o4, o5⟩ (fun hHeld => ?_)
  refine pure_ (i := 2) (N := some 57) (v := ?_) (a' := ?_) #[false, false, true, false, false, false, false] rfl rfl (by kernel_rfl) (fun _ _ _ h => h) (Or.inl ⟨by rfl, ?_⟩) ?_ ?_
  rotate_left
  · intro w'
    go_simp
    with_reducible rfl
  rotate_left
  · simp only [Act.put, List.setIfInBounds_toArray, List.set_cons_zero, List.set_cons_succ, i64_w, i32_w]
    rfl
  refine take_ (i := 0) (N := some 55) (v := ?_) (a' := ?_) #[true, false, true, false, false, false, false] rfl rfl (by kernel_rfl) (fun _ _ _ h => h) (Or.inl ⟨by rfl, ?_⟩) hHeld ?_ ?_
  rotate_left
  · rintro w' ⟨s0, s1, s2, s3, s4, s5, s6, s7, s8⟩
    go_simp
    with_reducible rfl
  rotate_left
  · simp only [Act.put, List.setIfInBounds_toArray, List.set_cons_zero, List.set_cons_succ, i64_w, i32_w]
    rfl
  refine take_ (i := 1) (N := some 56) (v := ?_) (a' := ?_) #[true, true, true, false, false, false, false] rfl rfl (by kernel_rfl) (fun _ _ _ h => h) (Or.inl ⟨by rfl, ?_⟩) hHeld ?_ ?_
  rotate_left
  · rintro w' ⟨s0, s1, s2, s3, s4, s5, s6, s7, s8⟩
    go_simp
    with_reducible rfl
  rotate_left
  · simp only [Act.put, List.setIfInBounds_toArray, List.set_cons_zero, List.set_cons_succ, i64_w, i32_w]
    rfl
  refine take_ (i := 3) (N := some 58) (v := ?_) (a' := ?_) #[true, true, true, true, false, false, false] rfl rfl (by kernel_rfl) (fun _ _ _ h => h) (Or.inl ⟨by rfl, ?_⟩) hHeld ?_ ?_
  rotate_left
  · rintro w' ⟨s0, s1, s2, s3, s4, s5, s6, s7, s8⟩
    go_simp
    with_reducible rfl
  rotate_left
  · simp only [Act.put, List.setIfInBounds_toArray, List.set_cons_zero, List.set_cons_succ, i64_w, i32_w]
    rfl
  refine one_ (i := 4) (N := some 59) #[true, true, true, true, true, false, false] rfl rfl (by kernel_rfl) (by decide) (fun K hK => ?_)
  refine goes_ Tryd.func16 (by kernel_rfl) rfl #[.agg #[.pointer (some ⟨qi, 0, none⟩), .pointer (some ⟨qt, 0, none⟩), .slice A X.length c], .agg #[.int .i64 k.d, .int .i64 k.l, .int .i64 k.k]] (by rfl) rfl rfl (by simp only [List.map_toArray, List.map_cons, List.map_nil]; rfl) ?_
  with_reducible refine (gets_calls B F qi mi vi L qt mt vt M _ X _ HMD.out HS.out hx k HKO.out).mono ?_
  rintro e W10 ⟨rfl, hb10⟩
  refine ⟨_, rfl, ?_⟩
  have p10_t0 := keept hb10 t0
  have p10_t1 := keept hb10 t1
  have p10_t2 := keept hb10 t2
  have p10_o0 := keept hb10 o0
  have p10_o1 := keept hb10 o1
  have p10_o2 := keept hb10 o2
  have p10_o3 := keept hb10 o3
  have p10_o4 := keept hb10 o4
  have p10_o5 := keept hb10 o5
  have p10_r0 := keept hb10 r0
  have p10_r1 := keept hb10 r1
  have p10_r2 := keept hb10 r2
  have hB10 := blkt hb10 HR1.out.at_
  have hfz10 : ∀ k, W10.frozen? ⟨rb, k, none⟩ = false := fun k => frozen_of_row W10 rb k _ _ hB10
  refine hK.out _ _ ⟨p10_t0, p10_t1, p10_t2, p10_o0, p10_o1, p10_o2, p10_o3, p10_o4, p10_o5⟩ (fun hHeld => ?_)
  clear hK K
  refine norm_ (a' := ?_) ?_ ?_
  rotate_left
  · show Act.put _ (some 59) _ = _
    simp only [Act.put, List.setIfInBounds_toArray, List.set_cons_zero, List.set_cons_succ, i64_w, i32_w]
    rfl
  refine last_ (i := 5) (N := none) #[true, true, true, true, true, true, false] rfl rfl (by kernel_rfl) (by decide) (fun K hK => ?_)
  refine skip_ (w1 := ?_) (by rfl) rfl ?_ ?_
  rotate_left
  · go_simp
    rfl
  refine hK.out _ _ ?_
  clear hK K
  refine pure_ (i := 6) (N := some 5) (v := ?_) (a' := ?_) #[true, true, true, true, true, true, true] rfl rfl (by kernel_rfl) (fun _ _ _ h => h) (Or.inl ⟨by rfl, ?_⟩) ?_ ?_
  rotate_left
  · intro w'
    go_simp
    with_reducible rfl
  rotate_left
  · simp only [Act.put, List.setIfInBounds_toArray, List.set_cons_zero, List.set_cons_succ, i64_w, i32_w]
    rfl
  refine done_ (by kernel_rfl) ?_

  have hTd : Tn W1 W10 (fun _ => False) := ⟨hb10.os, hb10.tape, hb10.output, hb10.size, hb10.block⟩
  have HM2 := Hd.mk (HMD.out.still hb10)
  have HR2 := Hd.mk (HR1.out.kept (.of_tn hTd F))
  have HO2 := Hd.mk (HO1.out.trans (.of_tn hTd F))
  obtain ⟨hr9, hT9⟩ := set3 (.pointer (some ⟨qi, 0, none⟩)) (.pointer (some ⟨qt, 0, none⟩)) (.slice A X.length c) HR2.out.at_
  have HR9 := Hd.mk hr9
  generalize hW : ((W10.setCell ⟨rb, 0, none⟩ (.pointer (some ⟨qi, 0, none⟩))).setCell ⟨rb, 1, none⟩ (.pointer (some ⟨qt, 0, none⟩))).setCell ⟨rb, 2, none⟩ (.slice A X.length c) = W9_ at HR9 hT9 ⊢
  clear hW hr9
  have HM9 := Hd.mk (HM2.out.frame hT9 (fun k h e => HR2.out.out (by rw [← e]; exact h)) (fun e => NEt.out.2.1 e))
  have HO9 : Hd (Out w W9_ F F) := ⟨⟨HO2.out.tn.then_ hT9 (fun q h => .inr (by rw [h]; exact NEt.out.2.2.2.2.2.2.2)), HO2.out.sub⟩⟩
  go_wp2
  (try simp only [Exit.inBlock, Exit.then])
  refine bodyPost_ret (results_list (rs := [.cell 4 33, .tmp 5]) rfl (by simp) (.cell rb 33 _ (0, 0) _ rfl HR9.out Tryd.underlying33 rfl (by kernel_rfl) (.tmp .nil))) rfl ?_
  exact ⟨F, mi, vi, L, mt, vt, M, _, X, rfl, HM9.out, HS.out, HO9.out, Nat.le_succ _⟩
set_option maxHeartbeats 8000000 in
set_option maxRecDepth 1000000 in
theorem step_next (B : Nat) (F : Nat → Prop) (qi mi : Nat) (vi : Value) (L : List (Ky × Int)) (qt mt : Nat) (vt : Value) (M : List (Ky × ByteArray)) (u : Value) (X : List (Ky × Int)) (w : World) (hM : TM B w F qi mi vi L qt mt vt M u X) (hS : Same L M X) (hx : X.length + 1 < 2950000000000) (oth : Bool) (k : Ky) (hk : KyOk k) (n : Int) (hn : (Lit.int .i64 n).wf = true) :
    Calls Tryd.prog 9 #[.agg #[.pointer (some ⟨qi, 0, none⟩), .pointer (some ⟨qt, 0, none⟩), u], .agg #[.int .i64 5, .bool oth, .int .i64 k.d, .int .i64 k.l, .int .i64 k.k, .int .i64 n]] w fun e w' => StepR B w w' F qi qt (X.length + 1) e := by
  obtain ⟨A, c, rfl⟩ := hM.r.form
  obtain ⟨hM1, hX1, hP1, hR1, hT1⟩ := TM.box3 hM #[.pointer (some ⟨qi, 0, none⟩), .pointer (some ⟨qt, 0, none⟩), .slice A X.length c] #[.int .i64 5, .bool oth, .int .i64 k.d, .int .i64 k.l, .int .i64 k.k, .int .i64 n] #[.pointer none, .pointer none, .slice none 0 0] 33 26 33
  have HM1 := Hd.mk hM1
  have HX1 := Hd.mk hX1
  have HP1 := Hd.mk hP1
  have HR1 := Hd.mk hR1
  have HO1 := Hd.mk (Out.of_tn hT1 F)
  have HS := Hd.mk hS
  have HKO := Hd.mk hk
  have HNW := Hd.mk hn
  have NE0 : Hd (0 ≠ w.heap.size) := ⟨by have := PowAt_lt hM.pw; omega⟩
  have hl : L.length + 1 < 3000000000000 := by rw [hS.i.len]; omega
  have hm : M.length + 1 < 3000000000000 := by rw [hS.t.len, List.length_map]; omega
  have hl2 : L.length < 3000000000000 := by omega
  have hm2 : M.length < 3000000000000 := by omega
  have hx4 : X.length < 4000000000000 := by omega
  have HNB : Hd (-9223372036854775808 ≤ n ∧ n ≤ 9223372036854775807) := ⟨bounds_i64 hn⟩
  clear hM hM1 hX1 hP1 hR1 hT1 hS hk hn
  go_enter Tryd.func9, Tryd.ntmps9
  go_upto_region 1 with (fail)
  obtain ⟨tb, htb⟩ : ∃ tb, w.heap.size = tb := ⟨_, rfl⟩
  obtain ⟨ob, hob⟩ : ∃ ob, w.heap.size + 1 = ob := ⟨_, rfl⟩
  obtain ⟨rb, hrb⟩ : ∃ rb, w.heap.size + 1 + 1 = rb := ⟨_, rfl⟩
  have NEt : Hd (0 ≠ tb ∧ 0 ≠ rb ∧ ob ≠ tb ∧ rb ≠ tb ∧ tb ≠ rb ∧ ob ≠ rb ∧ w.heap.size ≤ tb ∧ w.heap.size ≤ rb) := ⟨by have := NE0.out; omega⟩
  try rw [show w.heap.size + 2 = w.heap.size + 1 + 1 from rfl]
  rw [hrb] at HR1 ⊢
  rw [hob] at HP1 ⊢
  rw [htb] at HX1 ⊢
  generalize hW : ((w.alloc (.cells #[.pointer (some ⟨qi, 0, none⟩), .pointer (some ⟨qt, 0, none⟩), .slice A X.length c] 33)).alloc (.cells #[.int .i64 5, .bool oth, .int .i64 k.d, .int .i64 k.l, .int .i64 k.k, .int .i64 n] 26)).alloc (.cells #[.pointer none, .pointer none, .slice none 0 0] 33) = W1 at HM1 HX1 HP1 HR1 HO1 ⊢
  clear hW htb hob hrb NE0
  have t0 : W1.cell? ⟨tb, 0, none⟩ = some (.pointer (some ⟨qi, 0, none⟩)) := cell_of_row W1 tb 0 _ _ (0, 0) HX1.out.at_
  have t1 : W1.cell? ⟨tb, 1, none⟩ = some (.pointer (some ⟨qt, 0, none⟩)) := cell_of_row W1 tb 1 _ _ (0, 0) HX1.out.at_
  have t2 : W1.cell? ⟨tb, 2, none⟩ = some (.slice A X.length c) := cell_of_row W1 tb 2 _ _ (0, 0) HX1.out.at_
  have o0 : W1.cell? ⟨ob, 0, none⟩ = some (.int .i64 5) := cell_of_row W1 ob 0 _ _ (0, 0) HP1.out.at_
  have o1 : W1.cell? ⟨ob, 1, none⟩ = some (.bool oth) := cell_of_row W1 ob 1 _ _ (0, 0) HP1.out.at_
  have o2 : W1.cell? ⟨ob, 2, none⟩ = some (.int .i64 k.d) := cell_of_row W1 ob 2 _ _ (0, 0) HP1.out.at_
  have o3 : W1.cell? ⟨ob, 3, none⟩ = some (.int .i64 k.l) := cell_of_row W1 ob 3 _ _ (0, 0) HP1.out.at_
  have o4 : W1.cell? ⟨ob, 4, none⟩ = some (.int .i64 k.k) := cell_of_row W1 ob 4 _ _ (0, 0) HP1.out.at_
  have o5 : W1.cell? ⟨ob, 5, none⟩ = some (.int .i64 n) := cell_of_row W1 ob 5 _ _ (0, 0) HP1.out.at_
  have r0 : W1.cell? ⟨rb, 0, none⟩ = some (.pointer none) := cell_of_row W1 rb 0 _ _ (0, 0) HR1.out.at_
  have r1 : W1.cell? ⟨rb, 1, none⟩ = some (.pointer none) := cell_of_row W1 rb 1 _ _ (0, 0) HR1.out.at_
  have r2 : W1.cell? ⟨rb, 2, none⟩ = some (.slice none 0 0) := cell_of_row W1 rb 2 _ _ (0, 0) HR1.out.at_
  have hfz : ∀ q, W1.frozen? ⟨tb, q, none⟩ = false := fun q => frozen_of_row W1 tb q _ _ HX1.out.at_
  have hfzr : ∀ q, W1.frozen? ⟨rb, q, none⟩ = false := fun q => frozen_of_row W1 rb q _ _ HR1.out.at_
  have HMD := Hd.mk (HM1.out.still (Tn.refl W1 (fun _ => False)).drew)
  go_upto_region 22 with (fail)
  refine start_ (n := 5) (S := fun w' => w'.cell? ⟨tb, 0, none⟩ = some (.pointer (some ⟨qi, 0, none⟩)) ∧ w'.cell? ⟨tb, 1, none⟩ = some (.pointer (some ⟨qt, 0, none⟩)) ∧ w'.cell? ⟨tb, 2, none⟩ = some (.slice A X.length c) ∧ w'.cell? ⟨ob, 0, none⟩ = some (.int .i64 5) ∧ w'.cell? ⟨ob, 1, none⟩ = some (.bool oth) ∧ w'.cell? ⟨ob, 2, none⟩ = some (.int .i64 k.d) ∧ w'.cell? ⟨ob, 3, none⟩ = some (.int .i64 k.l) ∧ w'.cell? ⟨ob, 4, none⟩ = some (.int .i64 k.k) ∧ w'.cell? ⟨ob, 5, none⟩ = some (.int .i64 n)) (ds := [3]) #[false, false, false, false, false] (by kernel_rfl) rfl rfl ⟨t0, t1, t2, o0, o1, o2, o3, o4, o5⟩ (fun hHeld => ?_)
  refine take_ (i := 0) (N := some 128) (v := ?_) (a' := ?_) #[true, false, false, false, false] rfl rfl (by kernel_rfl) (fun _ _ _ h => h) (Or.inl ⟨by rfl, ?_⟩) hHeld ?_ ?_
  rotate_left
  · rintro w' ⟨s0, s1, s2, s3, s4, s5, s6, s7, s8⟩
    go_simp
    with_reducible rfl
  rotate_left
  · simp only [Act.put, List.setIfInBounds_toArray, List.set_cons_zero, List.set_cons_succ, i64_w, i32_w]
    rfl
  refine take_ (i := 1) (N := some 129) (v := ?_) (a' := ?_) #[true, true, false, false, false] rfl rfl (by kernel_rfl) (fun _ _ _ h => h) (Or.inl ⟨by rfl, ?_⟩) hHeld ?_ ?_
  rotate_left
  · rintro w' ⟨s0, s1, s2, s3, s4, s5, s6, s7, s8⟩
    go_simp
    with_reducible rfl
  rotate_left
  · simp only [Act.put, List.setIfInBounds_toArray, List.set_cons_zero, List.set_cons_succ, i64_w, i32_w]
    rfl
  refine one_ (i := 2) (N := some 130) #[true, true, true, false, false] rfl rfl (by kernel_rfl) (by decide) (fun K hK => ?_)
  refine goes_ Tryd.func23 (by kernel_rfl) rfl #[.agg #[.pointer (some ⟨qi, 0, none⟩), .pointer (some ⟨qt, 0, none⟩), .slice A X.length c]] (by rfl) rfl rfl (by simp only [List.map_toArray, List.map_cons, List.map_nil]; rfl) ?_
  with_reducible refine (nexts_calls B F qi mi vi L qt mt vt M _ X _ HMD.out HS.out hx).mono ?_
  rintro e W10 ⟨rfl, hb10⟩
  refine ⟨_, rfl, ?_⟩
  have p10_t0 := keept hb10 t0
  have p10_t1 := keept hb10 t1
  have p10_t2 := keept hb10 t2
  have p10_o0 := keept hb10 o0
  have p10_o1 := keept hb10 o1
  have p10_o2 := keept hb10 o2
  have p10_o3 := keept hb10 o3
  have p10_o4 := keept hb10 o4
  have p10_o5 := keept hb10 o5
  have p10_r0 := keept hb10 r0
  have p10_r1 := keept hb10 r1
  have p10_r2 := keept hb10 r2
  have hB10 := blkt hb10 HR1.out.at_
  have hfz10 : ∀ k, W10.frozen? ⟨rb, k, none⟩ = false := fun k => frozen_of_row W10 rb k _ _ hB10
  refine hK.out _ _ ⟨p10_t0, p10_t1, p10_t2, p10_o0, p10_o1, p10_o2, p10_o3, p10_o4, p10_o5⟩ (fun hHeld => ?_)
  clear hK K
  refine norm_ (a' := ?_) ?_ ?_
  rotate_left
  · show Act.put _ (some 130) _ = _
    simp only [Act.put, List.setIfInBounds_toArray, List.set_cons_zero, List.set_cons_succ, i64_w, i32_w]
    rfl
  refine last_ (i := 3) (N := none) #[true, true, true, true, false] rfl rfl (by kernel_rfl) (by decide) (fun K hK => ?_)
  refine skip_ (w1 := ?_) (by rfl) rfl ?_ ?_
  rotate_left
  · go_simp
    rfl
  refine hK.out _ _ ?_
  clear hK K
  refine pure_ (i := 4) (N := some 5) (v := ?_) (a' := ?_) #[true, true, true, true, true] rfl rfl (by kernel_rfl) (fun _ _ _ h => h) (Or.inl ⟨by rfl, ?_⟩) ?_ ?_
  rotate_left
  · intro w'
    go_simp
    with_reducible rfl
  rotate_left
  · simp only [Act.put, List.setIfInBounds_toArray, List.set_cons_zero, List.set_cons_succ, i64_w, i32_w]
    rfl
  refine done_ (by kernel_rfl) ?_

  have hTd : Tn W1 W10 (fun _ => False) := ⟨hb10.os, hb10.tape, hb10.output, hb10.size, hb10.block⟩
  have HM2 := Hd.mk (HMD.out.still hb10)
  have HR2 := Hd.mk (HR1.out.kept (.of_tn hTd F))
  have HO2 := Hd.mk (HO1.out.trans (.of_tn hTd F))
  obtain ⟨hr9, hT9⟩ := set3 (.pointer (some ⟨qi, 0, none⟩)) (.pointer (some ⟨qt, 0, none⟩)) (.slice A X.length c) HR2.out.at_
  have HR9 := Hd.mk hr9
  generalize hW : ((W10.setCell ⟨rb, 0, none⟩ (.pointer (some ⟨qi, 0, none⟩))).setCell ⟨rb, 1, none⟩ (.pointer (some ⟨qt, 0, none⟩))).setCell ⟨rb, 2, none⟩ (.slice A X.length c) = W9_ at HR9 hT9 ⊢
  clear hW hr9
  have HM9 := Hd.mk (HM2.out.frame hT9 (fun k h e => HR2.out.out (by rw [← e]; exact h)) (fun e => NEt.out.2.1 e))
  have HO9 : Hd (Out w W9_ F F) := ⟨⟨HO2.out.tn.then_ hT9 (fun q h => .inr (by rw [h]; exact NEt.out.2.2.2.2.2.2.2)), HO2.out.sub⟩⟩
  go_wp2
  (try simp only [Exit.inBlock, Exit.then])
  refine bodyPost_ret (results_list (rs := [.cell 4 33, .tmp 5]) rfl (by simp) (.cell rb 33 _ (0, 0) _ rfl HR9.out Tryd.underlying33 rfl (by kernel_rfl) (.tmp .nil))) rfl ?_
  exact ⟨F, mi, vi, L, mt, vt, M, _, X, rfl, HM9.out, HS.out, HO9.out, Nat.le_succ _⟩
set_option maxHeartbeats 8000000 in
set_option maxRecDepth 1000000 in
theorem step_list (B : Nat) (F : Nat → Prop) (qi mi : Nat) (vi : Value) (L : List (Ky × Int)) (qt mt : Nat) (vt : Value) (M : List (Ky × ByteArray)) (u : Value) (X : List (Ky × Int)) (w : World) (hM : TM B w F qi mi vi L qt mt vt M u X) (hS : Same L M X) (hx : X.length + 1 < 2950000000000) (oth : Bool) (k : Ky) (hk : KyOk k) (n : Int) (hn : (Lit.int .i64 n).wf = true) :
    Calls Tryd.prog 9 #[.agg #[.pointer (some ⟨qi, 0, none⟩), .pointer (some ⟨qt, 0, none⟩), u], .agg #[.int .i64 7, .bool oth, .int .i64 k.d, .int .i64 k.l, .int .i64 k.k, .int .i64 n]] w fun e w' => StepR B w w' F qi qt (X.length + 1) e := by
  obtain ⟨A, c, rfl⟩ := hM.r.form
  obtain ⟨hM1, hX1, hP1, hR1, hT1⟩ := TM.box3 hM #[.pointer (some ⟨qi, 0, none⟩), .pointer (some ⟨qt, 0, none⟩), .slice A X.length c] #[.int .i64 7, .bool oth, .int .i64 k.d, .int .i64 k.l, .int .i64 k.k, .int .i64 n] #[.pointer none, .pointer none, .slice none 0 0] 33 26 33
  have HM1 := Hd.mk hM1
  have HX1 := Hd.mk hX1
  have HP1 := Hd.mk hP1
  have HR1 := Hd.mk hR1
  have HO1 := Hd.mk (Out.of_tn hT1 F)
  have HS := Hd.mk hS
  have HKO := Hd.mk hk
  have HNW := Hd.mk hn
  have NE0 : Hd (0 ≠ w.heap.size) := ⟨by have := PowAt_lt hM.pw; omega⟩
  have hl : L.length + 1 < 3000000000000 := by rw [hS.i.len]; omega
  have hm : M.length + 1 < 3000000000000 := by rw [hS.t.len, List.length_map]; omega
  have hl2 : L.length < 3000000000000 := by omega
  have hm2 : M.length < 3000000000000 := by omega
  have hx4 : X.length < 4000000000000 := by omega
  have HNB : Hd (-9223372036854775808 ≤ n ∧ n ≤ 9223372036854775807) := ⟨bounds_i64 hn⟩
  clear hM hM1 hX1 hP1 hR1 hT1 hS hk hn
  go_enter Tryd.func9, Tryd.ntmps9
  go_upto_region 1 with (fail)
  obtain ⟨tb, htb⟩ : ∃ tb, w.heap.size = tb := ⟨_, rfl⟩
  obtain ⟨ob, hob⟩ : ∃ ob, w.heap.size + 1 = ob := ⟨_, rfl⟩
  obtain ⟨rb, hrb⟩ : ∃ rb, w.heap.size + 1 + 1 = rb := ⟨_, rfl⟩
  have NEt : Hd (0 ≠ tb ∧ 0 ≠ rb ∧ ob ≠ tb ∧ rb ≠ tb ∧ tb ≠ rb ∧ ob ≠ rb ∧ w.heap.size ≤ tb ∧ w.heap.size ≤ rb) := ⟨by have := NE0.out; omega⟩
  try rw [show w.heap.size + 2 = w.heap.size + 1 + 1 from rfl]
  rw [hrb] at HR1 ⊢
  rw [hob] at HP1 ⊢
  rw [htb] at HX1 ⊢
  generalize hW : ((w.alloc (.cells #[.pointer (some ⟨qi, 0, none⟩), .pointer (some ⟨qt, 0, none⟩), .slice A X.length c] 33)).alloc (.cells #[.int .i64 7, .bool oth, .int .i64 k.d, .int .i64 k.l, .int .i64 k.k, .int .i64 n] 26)).alloc (.cells #[.pointer none, .pointer none, .slice none 0 0] 33) = W1 at HM1 HX1 HP1 HR1 HO1 ⊢
  clear hW htb hob hrb NE0
  have t0 : W1.cell? ⟨tb, 0, none⟩ = some (.pointer (some ⟨qi, 0, none⟩)) := cell_of_row W1 tb 0 _ _ (0, 0) HX1.out.at_
  have t1 : W1.cell? ⟨tb, 1, none⟩ = some (.pointer (some ⟨qt, 0, none⟩)) := cell_of_row W1 tb 1 _ _ (0, 0) HX1.out.at_
  have t2 : W1.cell? ⟨tb, 2, none⟩ = some (.slice A X.length c) := cell_of_row W1 tb 2 _ _ (0, 0) HX1.out.at_
  have o0 : W1.cell? ⟨ob, 0, none⟩ = some (.int .i64 7) := cell_of_row W1 ob 0 _ _ (0, 0) HP1.out.at_
  have o1 : W1.cell? ⟨ob, 1, none⟩ = some (.bool oth) := cell_of_row W1 ob 1 _ _ (0, 0) HP1.out.at_
  have o2 : W1.cell? ⟨ob, 2, none⟩ = some (.int .i64 k.d) := cell_of_row W1 ob 2 _ _ (0, 0) HP1.out.at_
  have o3 : W1.cell? ⟨ob, 3, none⟩ = some (.int .i64 k.l) := cell_of_row W1 ob 3 _ _ (0, 0) HP1.out.at_
  have o4 : W1.cell? ⟨ob, 4, none⟩ = some (.int .i64 k.k) := cell_of_row W1 ob 4 _ _ (0, 0) HP1.out.at_
  have o5 : W1.cell? ⟨ob, 5, none⟩ = some (.int .i64 n) := cell_of_row W1 ob 5 _ _ (0, 0) HP1.out.at_
  have r0 : W1.cell? ⟨rb, 0, none⟩ = some (.pointer none) := cell_of_row W1 rb 0 _ _ (0, 0) HR1.out.at_
  have r1 : W1.cell? ⟨rb, 1, none⟩ = some (.pointer none) := cell_of_row W1 rb 1 _ _ (0, 0) HR1.out.at_
  have r2 : W1.cell? ⟨rb, 2, none⟩ = some (.slice none 0 0) := cell_of_row W1 rb 2 _ _ (0, 0) HR1.out.at_
  have hfz : ∀ q, W1.frozen? ⟨tb, q, none⟩ = false := fun q => frozen_of_row W1 tb q _ _ HX1.out.at_
  have hfzr : ∀ q, W1.frozen? ⟨rb, q, none⟩ = false := fun q => frozen_of_row W1 rb q _ _ HR1.out.at_
  have HMD := Hd.mk (HM1.out.still (Tn.refl W1 (fun _ => False)).drew)
  go_upto_region 26 with (fail)
  refine start_ (n := 5) (S := fun w' => w'.cell? ⟨tb, 0, none⟩ = some (.pointer (some ⟨qi, 0, none⟩)) ∧ w'.cell? ⟨tb, 1, none⟩ = some (.pointer (some ⟨qt, 0, none⟩)) ∧ w'.cell? ⟨tb, 2, none⟩ = some (.slice A X.length c) ∧ w'.cell? ⟨ob, 0, none⟩ = some (.int .i64 7) ∧ w'.cell? ⟨ob, 1, none⟩ = some (.bool oth) ∧ w'.cell? ⟨ob, 2, none⟩ = some (.int .i64 k.d) ∧ w'.cell? ⟨ob, 3, none⟩ = some (.int .i64 k.l) ∧ w'.cell? ⟨ob, 4, none⟩ = some (.int .i64 k.k) ∧ w'.cell? ⟨ob, 5, none⟩ = some (.int .i64 n)) (ds := [3]) #[false, false, false, false, false] (by kernel_rfl) rfl rfl ⟨t0, t1, t2, o0, o1, o2, o3, o4, o5⟩ (fun hHeld => ?_)
  refine take_ (i := 0) (N := some 141) (v := ?_) (a' := ?_) #[true, false, false, false, false] rfl rfl (by kernel_rfl) (fun _ _ _ h => h) (Or.inl ⟨by rfl, ?_⟩) hHeld ?_ ?_
  rotate_left
  · rintro w' ⟨s0, s1, s2, s3, s4, s5, s6, s7, s8⟩
    go_simp
    with_reducible rfl
  rotate_left
  · simp only [Act.put, List.setIfInBounds_toArray, List.set_cons_zero, List.set_cons_succ, i64_w, i32_w]
    rfl
  refine take_ (i := 1) (N := some 142) (v := ?_) (a' := ?_) #[true, true, false, false, false] rfl rfl (by kernel_rfl) (fun _ _ _ h => h) (Or.inl ⟨by rfl, ?_⟩) hHeld ?_ ?_
  rotate_left
  · rintro w' ⟨s0, s1, s2, s3, s4, s5, s6, s7, s8⟩
    go_simp
    with_reducible rfl
  rotate_left
  · simp only [Act.put, List.setIfInBounds_toArray, List.set_cons_zero, List.set_cons_succ, i64_w, i32_w]
    rfl
  refine one_ (i := 2) (N := some 143) #[true, true, true, false, false] rfl rfl (by kernel_rfl) (by decide) (fun K hK => ?_)
  refine goes_ Tryd.func25 (by kernel_rfl) rfl #[.agg #[.pointer (some ⟨qi, 0, none⟩), .pointer (some ⟨qt, 0, none⟩), .slice A X.length c]] (by rfl) rfl rfl (by simp only [List.map_toArray, List.map_cons, List.map_nil]; rfl) ?_
  with_reducible refine (lists_calls B F qi mi vi L qt mt vt M _ X _ HMD.out HS.out hx).mono ?_
  rintro e W10 ⟨rfl, hb10⟩
  refine ⟨_, rfl, ?_⟩
  have p10_t0 := keept hb10 t0
  have p10_t1 := keept hb10 t1
  have p10_t2 := keept hb10 t2
  have p10_o0 := keept hb10 o0
  have p10_o1 := keept hb10 o1
  have p10_o2 := keept hb10 o2
  have p10_o3 := keept hb10 o3
  have p10_o4 := keept hb10 o4
  have p10_o5 := keept hb10 o5
  have p10_r0 := keept hb10 r0
  have p10_r1 := keept hb10 r1
  have p10_r2 := keept hb10 r2
  have hB10 := blkt hb10 HR1.out.at_
  have hfz10 : ∀ k, W10.frozen? ⟨rb, k, none⟩ = false := fun k => frozen_of_row W10 rb k _ _ hB10
  refine hK.out _ _ ⟨p10_t0, p10_t1, p10_t2, p10_o0, p10_o1, p10_o2, p10_o3, p10_o4, p10_o5⟩ (fun hHeld => ?_)
  clear hK K
  refine norm_ (a' := ?_) ?_ ?_
  rotate_left
  · show Act.put _ (some 143) _ = _
    simp only [Act.put, List.setIfInBounds_toArray, List.set_cons_zero, List.set_cons_succ, i64_w, i32_w]
    rfl
  refine last_ (i := 3) (N := none) #[true, true, true, true, false] rfl rfl (by kernel_rfl) (by decide) (fun K hK => ?_)
  refine skip_ (w1 := ?_) (by rfl) rfl ?_ ?_
  rotate_left
  · go_simp
    rfl
  refine hK.out _ _ ?_
  clear hK K
  refine pure_ (i := 4) (N := some 5) (v := ?_) (a' := ?_) #[true, true, true, true, true] rfl rfl (by kernel_rfl) (fun _ _ _ h => h) (Or.inl ⟨by rfl, ?_⟩) ?_ ?_
  rotate_left
  · intro w'
    go_simp
    with_reducible rfl
  rotate_left
  · simp only [Act.put, List.setIfInBounds_toArray, List.set_cons_zero, List.set_cons_succ, i64_w, i32_w]
    rfl
  refine done_ (by kernel_rfl) ?_

  have hTd : Tn W1 W10 (fun _ => False) := ⟨hb10.os, hb10.tape, hb10.output, hb10.size, hb10.block⟩
  have HM2 := Hd.mk (HMD.out.still hb10)
  have HR2 := Hd.mk (HR1.out.kept (.of_tn hTd F))
  have HO2 := Hd.mk (HO1.out.trans (.of_tn hTd F))
  obtain ⟨hr9, hT9⟩ := set3 (.pointer (some ⟨qi, 0, none⟩)) (.pointer (some ⟨qt, 0, none⟩)) (.slice A X.length c) HR2.out.at_
  have HR9 := Hd.mk hr9
  generalize hW : ((W10.setCell ⟨rb, 0, none⟩ (.pointer (some ⟨qi, 0, none⟩))).setCell ⟨rb, 1, none⟩ (.pointer (some ⟨qt, 0, none⟩))).setCell ⟨rb, 2, none⟩ (.slice A X.length c) = W9_ at HR9 hT9 ⊢
  clear hW hr9
  have HM9 := Hd.mk (HM2.out.frame hT9 (fun k h e => HR2.out.out (by rw [← e]; exact h)) (fun e => NEt.out.2.1 e))
  have HO9 : Hd (Out w W9_ F F) := ⟨⟨HO2.out.tn.then_ hT9 (fun q h => .inr (by rw [h]; exact NEt.out.2.2.2.2.2.2.2)), HO2.out.sub⟩⟩
  go_wp2
  (try simp only [Exit.inBlock, Exit.then])
  refine bodyPost_ret (results_list (rs := [.cell 4 33, .tmp 5]) rfl (by simp) (.cell rb 33 _ (0, 0) _ rfl HR9.out Tryd.underlying33 rfl (by kernel_rfl) (.tmp .nil))) rfl ?_
  exact ⟨F, mi, vi, L, mt, vt, M, _, X, rfl, HM9.out, HS.out, HO9.out, Nat.le_succ _⟩
set_option maxHeartbeats 8000000 in
set_option maxRecDepth 1000000 in
theorem step_pop (B : Nat) (F : Nat → Prop) (qi mi : Nat) (vi : Value) (L : List (Ky × Int)) (qt mt : Nat) (vt : Value) (M : List (Ky × ByteArray)) (u : Value) (X : List (Ky × Int)) (w : World) (hM : TM B w F qi mi vi L qt mt vt M u X) (hS : Same L M X) (hx : X.length + 1 < 2950000000000) (oth : Bool) (k : Ky) (hk : KyOk k) (n : Int) (hn : (Lit.int .i64 n).wf = true) :
    Calls Tryd.prog 9 #[.agg #[.pointer (some ⟨qi, 0, none⟩), .pointer (some ⟨qt, 0, none⟩), u], .agg #[.int .i64 6, .bool oth, .int .i64 k.d, .int .i64 k.l, .int .i64 k.k, .int .i64 n]] w fun e w' => StepR B w w' F qi qt (X.length + 1) e := by
  obtain ⟨A, c, rfl⟩ := hM.r.form
  obtain ⟨hM1, hX1, hP1, hR1, hT1⟩ := TM.box3 hM #[.pointer (some ⟨qi, 0, none⟩), .pointer (some ⟨qt, 0, none⟩), .slice A X.length c] #[.int .i64 6, .bool oth, .int .i64 k.d, .int .i64 k.l, .int .i64 k.k, .int .i64 n] #[.pointer none, .pointer none, .slice none 0 0] 33 26 33
  have HM1 := Hd.mk hM1
  have HX1 := Hd.mk hX1
  have HP1 := Hd.mk hP1
  have HR1 := Hd.mk hR1
  have HO1 := Hd.mk (Out.of_tn hT1 F)
  have HS := Hd.mk hS
  have HKO := Hd.mk hk
  have HNW := Hd.mk hn
  have NE0 : Hd (0 ≠ w.heap.size) := ⟨by have := PowAt_lt hM.pw; omega⟩
  have hl : L.length + 1 < 3000000000000 := by rw [hS.i.len]; omega
  have hm : M.length + 1 < 3000000000000 := by rw [hS.t.len, List.length_map]; omega
  have hl2 : L.length < 3000000000000 := by omega
  have hm2 : M.length < 3000000000000 := by omega
  have hx4 : X.length < 4000000000000 := by omega
  have HNB : Hd (-9223372036854775808 ≤ n ∧ n ≤ 9223372036854775807) := ⟨bounds_i64 hn⟩
  clear hM hM1 hX1 hP1 hR1 hT1 hS hk hn
  go_enter Tryd.func9, Tryd.ntmps9
  go_upto_region 1 with (fail)
  obtain ⟨tb, htb⟩ : ∃ tb, w.heap.size = tb := ⟨_, rfl⟩
  obtain ⟨ob, hob⟩ : ∃ ob, w.heap.size + 1 = ob := ⟨_, rfl⟩
  obtain ⟨rb, hrb⟩ : ∃ rb, w.heap.size + 1 + 1 = rb := ⟨_, rfl⟩
  have NEt : Hd (0 ≠ tb ∧ 0 ≠ rb ∧ ob ≠ tb ∧ rb ≠ tb ∧ tb ≠ rb ∧ ob ≠ rb ∧ w.heap.size ≤ tb ∧ w.heap.size ≤ rb) := ⟨by have := NE0.out; omega⟩
  try rw [show w.heap.size + 2 = w.heap.size + 1 + 1 from rfl]
  rw [hrb] at HR1 ⊢
  rw [hob] at HP1 ⊢
  rw [htb] at HX1 ⊢
  generalize hW : ((w.alloc (.cells #[.pointer (some ⟨qi, 0, none⟩), .pointer (some ⟨qt, 0, none⟩), .slice A X.length c] 33)).alloc (.cells #[.int .i64 6, .bool oth, .int .i64 k.d, .int .i64 k.l, .int .i64 k.k, .int .i64 n] 26)).alloc (.cells #[.pointer none, .pointer none, .slice none 0 0] 33) = W1 at HM1 HX1 HP1 HR1 HO1 ⊢
  clear hW htb hob hrb NE0
  have t0 : W1.cell? ⟨tb, 0, none⟩ = some (.pointer (some ⟨qi, 0, none⟩)) := cell_of_row W1 tb 0 _ _ (0, 0) HX1.out.at_
  have t1 : W1.cell? ⟨tb, 1, none⟩ = some (.pointer (some ⟨qt, 0, none⟩)) := cell_of_row W1 tb 1 _ _ (0, 0) HX1.out.at_
  have t2 : W1.cell? ⟨tb, 2, none⟩ = some (.slice A X.length c) := cell_of_row W1 tb 2 _ _ (0, 0) HX1.out.at_
  have o0 : W1.cell? ⟨ob, 0, none⟩ = some (.int .i64 6) := cell_of_row W1 ob 0 _ _ (0, 0) HP1.out.at_
  have o1 : W1.cell? ⟨ob, 1, none⟩ = some (.bool oth) := cell_of_row W1 ob 1 _ _ (0, 0) HP1.out.at_
  have o2 : W1.cell? ⟨ob, 2, none⟩ = some (.int .i64 k.d) := cell_of_row W1 ob 2 _ _ (0, 0) HP1.out.at_
  have o3 : W1.cell? ⟨ob, 3, none⟩ = some (.int .i64 k.l) := cell_of_row W1 ob 3 _ _ (0, 0) HP1.out.at_
  have o4 : W1.cell? ⟨ob, 4, none⟩ = some (.int .i64 k.k) := cell_of_row W1 ob 4 _ _ (0, 0) HP1.out.at_
  have o5 : W1.cell? ⟨ob, 5, none⟩ = some (.int .i64 n) := cell_of_row W1 ob 5 _ _ (0, 0) HP1.out.at_
  have r0 : W1.cell? ⟨rb, 0, none⟩ = some (.pointer none) := cell_of_row W1 rb 0 _ _ (0, 0) HR1.out.at_
  have r1 : W1.cell? ⟨rb, 1, none⟩ = some (.pointer none) := cell_of_row W1 rb 1 _ _ (0, 0) HR1.out.at_
  have r2 : W1.cell? ⟨rb, 2, none⟩ = some (.slice none 0 0) := cell_of_row W1 rb 2 _ _ (0, 0) HR1.out.at_
  have hfz : ∀ q, W1.frozen? ⟨tb, q, none⟩ = false := fun q => frozen_of_row W1 tb q _ _ HX1.out.at_
  have hfzr : ∀ q, W1.frozen? ⟨rb, q, none⟩ = false := fun q => frozen_of_row W1 rb q _ _ HR1.out.at_
  go_wp2_with (first | (go_at_call 24; refine (pops_calls B F qi mi vi L qt mt vt M _ X _ HM1.out HS.out hx n).mono ?_; rintro e W2 ⟨F2_, mi, v1, L1, mt, v2, M1, u1, Y, rfl, hM2, hS2, hO2, hle2⟩; obtain ⟨A1, c1, rfl⟩ := hM2.r.form; have HM2 := Hd.mk hM2; have HX2 := Hd.mk (HX1.out.kept hO2); have HP2 := Hd.mk (HP1.out.kept hO2); have HR2 := Hd.mk (HR1.out.kept hO2); have HO2 := Hd.mk (HO1.out.trans hO2); have HS2 := Hd.mk hS2; have HLE2 := Hd.mk hle2; clear hM2 hO2 hS2 hle2 hfz hfzr t0 t1 t2 o0 o1 o2 o3 o4 o5 r0 r1 r2; have t0 : W2.cell? ⟨tb, 0, none⟩ = some (.pointer (some ⟨qi, 0, none⟩)) := cell_of_row W2 tb 0 _ _ (0, 0) HX2.out.at_; have t1 : W2.cell? ⟨tb, 1, none⟩ = some (.pointer (some ⟨qt, 0, none⟩)) := cell_of_row W2 tb 1 _ _ (0, 0) HX2.out.at_; have t2 : W2.cell? ⟨tb, 2, none⟩ = some (.slice A X.length c) := cell_of_row W2 tb 2 _ _ (0, 0) HX2.out.at_; have o0 : W2.cell? ⟨ob, 0, none⟩ = some (.int .i64 6) := cell_of_row W2 ob 0 _ _ (0, 0) HP2.out.at_; have o1 : W2.cell? ⟨ob, 1, none⟩ = some (.bool oth) := cell_of_row W2 ob 1 _ _ (0, 0) HP2.out.at_; have o2 : W2.cell? ⟨ob, 2, none⟩ = some (.int .i64 k.d) := cell_of_row W2 ob 2 _ _ (0, 0) HP2.out.at_; have o3 : W2.cell? ⟨ob, 3, none⟩ = some (.int .i64 k.l) := cell_of_row W2 ob 3 _ _ (0, 0) HP2.out.at_; have o4 : W2.cell? ⟨ob, 4, none⟩ = some (.int .i64 k.k) := cell_of_row W2 ob 4 _ _ (0, 0) HP2.out.at_; have o5 : W2.cell? ⟨ob, 5, none⟩ = some (.int .i64 n) := cell_of_row W2 ob 5 _ _ (0, 0) HP2.out.at_; have r0 : W2.cell? ⟨rb, 0, none⟩ = some (.pointer none) := cell_of_row W2 rb 0 _ _ (0, 0) HR2.out.at_; have r1 : W2.cell? ⟨rb, 1, none⟩ = some (.pointer none) := cell_of_row W2 rb 1 _ _ (0, 0) HR2.out.at_; have r2 : W2.cell? ⟨rb, 2, none⟩ = some (.slice none 0 0) := cell_of_row W2 rb 2 _ _ (0, 0) HR2.out.at_; have hfz : ∀ q, W2.frozen? ⟨tb, q, none⟩ = false := fun q => frozen_of_row W2 tb q _ _ HX2.out.at_; have hfzr : ∀ q, W2.frozen? ⟨rb, q, none⟩ = false := fun q => frozen_of_row W2 rb q _ _ HR2.out.at_; obtain ⟨hr9, hT9⟩ := set3 (.pointer (some ⟨qi, 0, none⟩)) (.pointer (some ⟨qt, 0, none⟩)) (.slice A1 Y.length c1) HR2.out.at_; have HR9 := Hd.mk hr9; have HT9 := Hd.mk hT9; clear hr9 hT9))
  have hT9 := HT9.out
  generalize hW : ((W2.setCell ⟨rb, 0, none⟩ (.pointer (some ⟨qi, 0, none⟩))).setCell ⟨rb, 1, none⟩ (.pointer (some ⟨qt, 0, none⟩))).setCell ⟨rb, 2, none⟩ (.slice A1 Y.length c1) = W9_ at HR9 hT9 ⊢
  clear hW
  have HM9 := Hd.mk (HM2.out.frame hT9 (fun k h e => HR2.out.out (by rw [← e]; exact h)) (fun e => NEt.out.2.1 e))
  have HO9 : Hd (Out w W9_ F F2_) := ⟨⟨HO2.out.tn.then_ hT9 (fun q h => .inr (by rw [h]; exact NEt.out.2.2.2.2.2.2.2)), HO2.out.sub⟩⟩
  (try simp only [Exit.inBlock, Exit.then])
  refine bodyPost_ret (results_list (rs := [.cell 4 33, .tmp 5]) rfl (by simp) (.cell rb 33 _ (0, 0) _ rfl HR9.out Tryd.underlying33 rfl (by kernel_rfl) (.tmp .nil))) rfl ?_
  exact ⟨F2_, mi, v1, L1, mt, v2, M1, _, Y, rfl, HM9.out, HS2.out, HO9.out, Nat.le_succ_of_le HLE2.out⟩
set_option maxHeartbeats 8000000 in
set_option maxRecDepth 1000000 in
theorem step_none (B : Nat) (F : Nat → Prop) (qi mi : Nat) (vi : Value) (L : List (Ky × Int)) (qt mt : Nat) (vt : Value) (M : List (Ky × ByteArray)) (u : Value) (X : List (Ky × Int)) (w : World) (hM : TM B w F qi mi vi L qt mt vt M u X) (hS : Same L M X) (hx : X.length + 1 < 2950000000000) (oth : Bool) (k : Ky) (hk : KyOk k) (n : Int) (hn : (Lit.int .i64 n).wf = true) (kd : Int) (hkd : ∀ q : Int, 1 ≤ q → q ≤ 7 → (kd == q) = false) :
    Calls Tryd.prog 9 #[.agg #[.pointer (some ⟨qi, 0, none⟩), .pointer (some ⟨qt, 0, none⟩), u], .agg #[.int .i64 kd, .bool oth, .int .i64 k.d, .int .i64 k.l, .int .i64 k.k, .int .i64 n]] w fun e w' => StepR B w w' F qi qt (X.length + 1) e := by
  obtain ⟨A, c, rfl⟩ := hM.r.form
  obtain ⟨hM1, hX1, hP1, hR1, hT1⟩ := TM.box3 hM #[.pointer (some ⟨qi, 0, none⟩), .pointer (some ⟨qt, 0, none⟩), .slice A X.length c] #[.int .i64 kd, .bool oth, .int .i64 k.d, .int .i64 k.l, .int .i64 k.k, .int .i64 n] #[.pointer none, .pointer none, .slice none 0 0] 33 26 33
  have HM1 := Hd.mk hM1
  have HX1 := Hd.mk hX1
  have HP1 := Hd.mk hP1
  have HR1 := Hd.mk hR1
  have HO1 := Hd.mk (Out.of_tn hT1 F)
  have HS := Hd.mk hS
  have HKO := Hd.mk hk
  have HNW := Hd.mk hn
  have NE0 : Hd (0 ≠ w.heap.size) := ⟨by have := PowAt_lt hM.pw; omega⟩
  have hl : L.length + 1 < 3000000000000 := by rw [hS.i.len]; omega
  have hm : M.length + 1 < 3000000000000 := by rw [hS.t.len, List.length_map]; omega
  have hl2 : L.length < 3000000000000 := by omega
  have hm2 : M.length < 3000000000000 := by omega
  have hx4 : X.length < 4000000000000 := by omega
  have HNB : Hd (-9223372036854775808 ≤ n ∧ n ≤ 9223372036854775807) := ⟨bounds_i64 hn⟩
  have g1 : (kd == 1) = false := hkd 1 (by decide) (by decide)
  have g2 : (kd == 2) = false := hkd 2 (by decide) (by decide)
  have g3 : (kd == 3) = false := hkd 3 (by decide) (by decide)
  have g4 : (kd == 4) = false := hkd 4 (by decide) (by decide)
  have g5 : (kd == 5) = false := hkd 5 (by decide) (by decide)
  have g6 : (kd == 6) = false := hkd 6 (by decide) (by decide)
  have g7 : (kd == 7) = false := hkd 7 (by decide) (by decide)
  clear hkd
  clear hM hM1 hX1 hP1 hR1 hT1 hS hk hn
  go_enter Tryd.func9, Tryd.ntmps9
  go_upto_region 1 with (fail)
  obtain ⟨tb, htb⟩ : ∃ tb, w.heap.size = tb := ⟨_, rfl⟩
  obtain ⟨ob, hob⟩ : ∃ ob, w.heap.size + 1 = ob := ⟨_, rfl⟩
  obtain ⟨rb, hrb⟩ : ∃ rb, w.heap.size + 1 + 1 = rb := ⟨_, rfl⟩
  have NEt : Hd (0 ≠ tb ∧ 0 ≠ rb ∧ ob ≠ tb ∧ rb ≠ tb ∧ tb ≠ rb ∧ ob ≠ rb ∧ w.heap.size ≤ tb ∧ w.heap.size ≤ rb) := ⟨by have := NE0.out; omega⟩
  try rw [show w.heap.size + 2 = w.heap.size + 1 + 1 from rfl]
  rw [hrb] at HR1 ⊢
  rw [hob] at HP1 ⊢
  rw [htb] at HX1 ⊢
  generalize hW : ((w.alloc (.cells #[.pointer (some ⟨qi, 0, none⟩), .pointer (some ⟨qt, 0, none⟩), .slice A X.length c] 33)).alloc (.cells #[.int .i64 kd, .bool oth, .int .i64 k.d, .int .i64 k.l, .int .i64 k.k, .int .i64 n] 26)).alloc (.cells #[.pointer none, .pointer none, .slice none 0 0] 33) = W1 at HM1 HX1 HP1 HR1 HO1 ⊢
  clear hW htb hob hrb NE0
  have t0 : W1.cell? ⟨tb, 0, none⟩ = some (.pointer (some ⟨qi, 0, none⟩)) := cell_of_row W1 tb 0 _ _ (0, 0) HX1.out.at_
  have t1 : W1.cell? ⟨tb, 1, none⟩ = some (.pointer (some ⟨qt, 0, none⟩)) := cell_of_row W1 tb 1 _ _ (0, 0) HX1.out.at_
  have t2 : W1.cell? ⟨tb, 2, none⟩ = some (.slice A X.length c) := cell_of_row W1 tb 2 _ _ (0, 0) HX1.out.at_
  have o0 : W1.cell? ⟨ob, 0, none⟩ = some (.int .i64 kd) := cell_of_row W1 ob 0 _ _ (0, 0) HP1.out.at_
  have o1 : W1.cell? ⟨ob, 1, none⟩ = some (.bool oth) := cell_of_row W1 ob 1 _ _ (0, 0) HP1.out.at_
  have o2 : W1.cell? ⟨ob, 2, none⟩ = some (.int .i64 k.d) := cell_of_row W1 ob 2 _ _ (0, 0) HP1.out.at_
  have o3 : W1.cell? ⟨ob, 3, none⟩ = some (.int .i64 k.l) := cell_of_row W1 ob 3 _ _ (0, 0) HP1.out.at_
  have o4 : W1.cell? ⟨ob, 4, none⟩ = some (.int .i64 k.k) := cell_of_row W1 ob 4 _ _ (0, 0) HP1.out.at_
  have o5 : W1.cell? ⟨ob, 5, none⟩ = some (.int .i64 n) := cell_of_row W1 ob 5 _ _ (0, 0) HP1.out.at_
  have r0 : W1.cell? ⟨rb, 0, none⟩ = some (.pointer none) := cell_of_row W1 rb 0 _ _ (0, 0) HR1.out.at_
  have r1 : W1.cell? ⟨rb, 1, none⟩ = some (.pointer none) := cell_of_row W1 rb 1 _ _ (0, 0) HR1.out.at_
  have r2 : W1.cell? ⟨rb, 2, none⟩ = some (.slice none 0 0) := cell_of_row W1 rb 2 _ _ (0, 0) HR1.out.at_
  have hfz : ∀ q, W1.frozen? ⟨tb, q, none⟩ = false := fun q => frozen_of_row W1 tb q _ _ HX1.out.at_
  have hfzr : ∀ q, W1.frozen? ⟨rb, q, none⟩ = false := fun q => frozen_of_row W1 rb q _ _ HR1.out.at_
  obtain ⟨hr9, hT9⟩ := set3 (.pointer (some ⟨qi, 0, none⟩)) (.pointer (some ⟨qt, 0, none⟩)) (.slice A X.length c) HR1.out.at_
  have HR9 := Hd.mk hr9
  go_wp2
  generalize hW : ((W1.setCell ⟨rb, 0, none⟩ (.pointer (some ⟨qi, 0, none⟩))).setCell ⟨rb, 1, none⟩ (.pointer (some ⟨qt, 0, none⟩))).setCell ⟨rb, 2, none⟩ (.slice A X.length c) = W9_ at HR9 hT9 ⊢
  clear hW hr9
  have HM9 := Hd.mk (HM1.out.frame hT9 (fun k h e => HR1.out.out (by rw [← e]; exact h)) (fun e => NEt.out.2.1 e))
  have HO9 : Hd (Out w W9_ F F) := ⟨⟨HO1.out.tn.then_ hT9 (fun q h => .inr (by rw [h]; exact NEt.out.2.2.2.2.2.2.2)), HO1.out.sub⟩⟩
  (try simp only [Exit.inBlock, Exit.then])
  refine bodyPost_ret (results_list (rs := [.cell 4 33, .tmp 5]) rfl (by simp) (.cell rb 33 _ (0, 0) _ rfl HR9.out Tryd.underlying33 rfl (by kernel_rfl) (.tmp .nil))) rfl ?_
  exact ⟨F, mi, vi, L, mt, vt, M, _, X, rfl, HM9.out, HS.out, HO9.out, Nat.le_succ _⟩
end Go.Proofs.YtkbbngkfncbgkaaDoor.UStepB
