/- arrearslaw11.begin: three empty holders. Condition: the table of powers of ten stands as laid. -/
import Derived.Test.YtkbbngkfncbgkaaDoorZULists
namespace Go.Proofs.YtkbbngkfncbgkaaDoor.UBegin
open Go.RowKit Go.Proofs.YtkbbngkfncbgkaaDoor.IQHeap Go.Proofs.YtkbbngkfncbgkaaDoor.UPlain Go.Proofs.YtkbbngkfncbgkaaDoor.URel Go.Proofs.YtkbbngkfncbgkaaDoor.URef Go.Proofs.YtkbbngkfncbgkaaDoor.UTrio Go.Proofs.YtkbbngkfncbgkaaDoorW.PrintWords Go.Proofs.YtkbbngkfncbgkaaDoorW.PrintLast Go.Proofs.YtkbbngkfncbgkaaDoorW.PrintMore Go.Proofs.YtkbbngkfncbgkaaDoor.UWord Go.Proofs.YtkbbngkfncbgkaaDoor.UNexts Go.Proofs.YtkbbngkfncbgkaaDoor.UPops Go.Proofs.YtkbbngkfncbgkaaDoor.PA
open Go.Proofs.YtkbbngkfncbgkaaDoor.IQWords (Ky KyOk Tn QS Hd)
set_option linter.unusedVariables false
set_option linter.unusedSimpArgs false
set_option maxHeartbeats 8000000 in
set_option maxRecDepth 1000000 in
theorem begin_calls (B : Nat) (w : World) (hB : B ≤ w.heap.size) (h0 : 0 < B) (hP : PowAt w) :
    Calls Tryd.prog 8 #[] w fun e w' => ∃ (F' : Nat → Prop) (qi mi : Nat) (vi : Value) (qt mt : Nat) (vt : Value), e = .returned (.tuple #[.agg #[.pointer (some ⟨qi, 0, none⟩), .pointer (some ⟨qt, 0, none⟩), .slice none 0 0], .bool true]) ∧ TM B w' F' qi mi vi [] qt mt vt [] (.slice none 0 0) [] ∧ Tn w w' (fun _ => False) ∧ ∀ k, F' k → w.heap.size ≤ k := by
  have HP := Hd.mk hP
  have HT1 := Hd.mk (Tn.alloc w (.cells #[.pointer none, .pointer none, .slice none 0 0] 33) (fun _ => False))
  have HR1 : Hd ((w.alloc (.cells #[.pointer none, .pointer none, .slice none 0 0] 33)).heap[w.heap.size]? = some (.cells #[.pointer none, .pointer none, .slice none 0 0] 33 (0, 0))) := ⟨heap_alloc_new w _⟩
  have HZ := Hd.mk (PowAt_lt hP)
  clear hP
  go_enter Tryd.func8, Tryd.ntmps8
  go_upto_region 1 with (fail)
  obtain ⟨rb, hrb⟩ : ∃ rb, w.heap.size = rb := ⟨_, rfl⟩
  have HRE := Hd.mk hrb
  rw [hrb] at HR1 ⊢
  generalize hW : w.alloc (.cells #[.pointer none, .pointer none, .slice none 0 0] 33) = W1 at HT1 HR1 ⊢
  clear hW hrb
  go_upto_region 2 with (first | (go_at_call 10; refine (Go.Proofs.YtkbbngkfncbgkaaDoor.IQGet.new_calls _).mono ?_; rintro e W2 ⟨qi, mi, rfl, g1, g2, hQ2, hT2⟩; have HQ2 := Hd.mk hQ2; have HT2 := Hd.mk hT2; have HG2 : Hd (W1.heap.size ≤ qi ∧ W1.heap.size ≤ mi) := ⟨⟨g1, g2⟩⟩; clear hQ2 hT2 g1 g2) | (go_at_call 11; refine (Go.Proofs.YtkbbngkfncbgkaaDoor.TQGet.new_calls _).mono ?_; rintro e W3 ⟨qt, mt, rfl, g1, g2, hQ3, hT3⟩; have HQ3 := Hd.mk hQ3; have HT3 := Hd.mk (tnI hT3); have HG3 : Hd (W2.heap.size ≤ qt ∧ W2.heap.size ≤ mt) := ⟨⟨g1, g2⟩⟩; clear hQ3 hT3 g1 g2))
  have HI3 := Hd.mk (HQ2.out.kept HT3.out (fun h => h) (fun h => h) (fun _ _ h => h))
  have HT13 := Hd.mk (HT1.out.then_ (HT2.out.then_ HT3.out (fun _ h => h.elim)) (fun _ h => h.elim))
  have HR3 := Hd.mk (HT3.out.blk (HT2.out.blk HR1.out (fun h => h)) (fun h => h))
  have hlt : rb < W1.heap.size := (Array.getElem?_eq_some_iff.1 HR1.out).1
  have HLI := Hd.mk (Go.Proofs.YtkbbngkfncbgkaaDoor.IQTake.qs_lts HQ2.out)
  have HLT := Hd.mk (Go.Proofs.YtkbbngkfncbgkaaDoor.TQTake.qs_lts HQ3.out)
  obtain ⟨F, hF⟩ : ∃ F : Nat → Prop, F = fun k => k = qi ∨ k = mi ∨ k = qt ∨ k = mt := ⟨_, rfl⟩
  have HM3 : Hd (TM B W3 F qi mi (.slice none 0 0) [] qt mt (.slice none 0 0) [] (.slice none 0 0) []) := ⟨by
    have a1 := HG2.out
    have a2 := HG3.out
    have a3 := HLI.out
    have a4 := HLT.out
    have a5 := HT1.out.size
    have a6 := HT2.out.size
    have a7 := HT3.out.size
    have ob : ∀ k, ¬ (Value.slice none 0 0).ownBlock = some k := fun k h => by cases h
    subst hF
    refine ⟨HI3.out, HQ3.out, RL.nil _ _, fun k h => ?_, fun k h => ?_, fun k h => (ob k h).elim, fun k h => ?_, fun k h h2 => ?_, fun k h => (ob k h).elim, fun k h => (ob k h).elim, by omega, PowAt_of HP.out (HT13.out.block 0 HZ.out (fun h => h)), h0⟩
    · rcases h with h | h | h
      · exact .inl h
      · exact .inr (.inl h)
      · exact (ob k h).elim
    · rcases h with h | h | h
      · exact .inr (.inr (.inl h))
      · exact .inr (.inr (.inr h))
      · exact (ob k h).elim
    · rcases h with h | h | h | h <;> omega
    · rcases h with h | h | h
      · rcases h2 with h2 | h2 | h2
        · omega
        · omega
        · exact ob k h2
      · rcases h2 with h2 | h2 | h2
        · omega
        · omega
        · exact ob k h2
      · exact ob k h⟩
  have HFL : Hd (∀ k, F k → W1.heap.size ≤ k) := ⟨fun k h => by
    subst hF
    have a1 := HG2.out
    have a2 := HG3.out
    have a6 := HT2.out.size
    rcases h with h | h | h | h <;> omega⟩
  have HFZ : Hd (w.heap.size ≤ W1.heap.size) := ⟨HT1.out.size⟩
  have HRX : Hd (Bx W3 F rb (.cells #[.pointer none, .pointer none, .slice none 0 0] 33 (0, 0))) := ⟨⟨HR3.out, fun h => by have := HFL.out rb h; omega⟩⟩
  clear HQ2 HT2 HQ3 HT3 HI3 HLI HLT HR3 HG2 HG3 hF HR1 HT1
  obtain ⟨hM4, hX4, hT4⟩ := TM.box1 HM3.out #[.pointer (some ⟨qi, 0, none⟩), .pointer (some ⟨qt, 0, none⟩), .slice none 0 0] 33
  have HM4 := Hd.mk hM4
  have HX4 := Hd.mk hX4
  have HR4 := Hd.mk (HRX.out.kept (.of_tn hT4 F))
  have HT4 := Hd.mk (HT13.out.then_ hT4 (fun _ h => h.elim))
  have hne : W3.heap.size ≠ rb := fun e => by have := (Array.getElem?_eq_some_iff.1 HRX.out.at_).1; omega
  obtain ⟨tb, htb⟩ : ∃ tb, W3.heap.size = tb := ⟨_, rfl⟩
  rw [htb] at HX4 hne ⊢
  generalize hW : W3.alloc (.cells #[.pointer (some ⟨qi, 0, none⟩), .pointer (some ⟨qt, 0, none⟩), .slice none 0 0] 33) = W4 at HM4 HX4 HR4 HT4 ⊢
  clear hW hM4 hX4 hT4 htb HT13 hlt
  have t0 : W4.cell? ⟨tb, 0, none⟩ = some (.pointer (some ⟨qi, 0, none⟩)) := cell_of_row W4 tb 0 _ _ (0, 0) HX4.out.at_
  have t1 : W4.cell? ⟨tb, 1, none⟩ = some (.pointer (some ⟨qt, 0, none⟩)) := cell_of_row W4 tb 1 _ _ (0, 0) HX4.out.at_
  have t2 : W4.cell? ⟨tb, 2, none⟩ = some (.slice none 0 0) := cell_of_row W4 tb 2 _ _ (0, 0) HX4.out.at_
  have r0 : W4.cell? ⟨rb, 0, none⟩ = some (.pointer none) := cell_of_row W4 rb 0 _ _ (0, 0) HR4.out.at_
  have r1 : W4.cell? ⟨rb, 1, none⟩ = some (.pointer none) := cell_of_row W4 rb 1 _ _ (0, 0) HR4.out.at_
  have r2 : W4.cell? ⟨rb, 2, none⟩ = some (.slice none 0 0) := cell_of_row W4 rb 2 _ _ (0, 0) HR4.out.at_
  have hfz : ∀ k, W4.frozen? ⟨rb, k, none⟩ = false := fun k => frozen_of_row W4 rb k _ _ HR4.out.at_
  refine start_ (n := 11) (S := fun w' => w'.cell? ⟨tb, 0, none⟩ = some (.pointer (some ⟨qi, 0, none⟩)) ∧ w'.cell? ⟨tb, 1, none⟩ = some (.pointer (some ⟨qt, 0, none⟩)) ∧ w'.cell? ⟨tb, 2, none⟩ = some (.slice none 0 0)) (ds := []) #[false, false, false, false, false, false, false, false, false, false, false] (by kernel_rfl) rfl rfl ⟨t0, t1, t2⟩ (fun hHeld => ?_)
  refine pure_ (i := 1) (N := some 7) (v := ?_) (a' := ?_) #[false, true, false, false, false, false, false, false, false, false, false] rfl rfl (by kernel_rfl) (fun _ _ _ h => h) (Or.inl ⟨by rfl, ?_⟩) ?_ ?_
  rotate_left
  · intro w'
    go_simp
    with_reducible rfl
  rotate_left
  · simp only [Act.put, List.setIfInBounds_toArray, List.set_cons_zero, List.set_cons_succ, i64_w, i32_w]
    rfl
  refine take_ (i := 0) (N := some 6) (v := ?_) (a' := ?_) #[true, true, false, false, false, false, false, false, false, false, false] rfl rfl (by kernel_rfl) (fun _ _ _ h => h) (Or.inl ⟨by rfl, ?_⟩) hHeld ?_ ?_
  rotate_left
  · rintro w' ⟨s0, s1, s2⟩
    go_simp
    with_reducible rfl
  rotate_left
  · simp only [Act.put, List.setIfInBounds_toArray, List.set_cons_zero, List.set_cons_succ, i64_w, i32_w]
    rfl
  refine take_ (i := 2) (N := some 8) (v := ?_) (a' := ?_) #[true, true, true, false, false, false, false, false, false, false, false] rfl rfl (by kernel_rfl) (fun _ _ _ h => h) (Or.inl ⟨by rfl, ?_⟩) hHeld ?_ ?_
  rotate_left
  · rintro w' ⟨s0, s1, s2⟩
    go_simp
    with_reducible rfl
  rotate_left
  · simp only [Act.put, List.setIfInBounds_toArray, List.set_cons_zero, List.set_cons_succ, i64_w, i32_w]
    rfl
  refine pure_ (i := 3) (N := some 9) (v := ?_) (a' := ?_) #[true, true, true, true, false, false, false, false, false, false, false] rfl rfl (by kernel_rfl) (fun _ _ _ h => h) (Or.inl ⟨by rfl, ?_⟩) ?_ ?_
  rotate_left
  · intro w'
    go_simp
    with_reducible rfl
  rotate_left
  · simp only [Act.put, List.setIfInBounds_toArray, List.set_cons_zero, List.set_cons_succ, i64_w, i32_w]
    rfl
  refine pure_ (i := 4) (N := some 10) (v := ?_) (a' := ?_) #[true, true, true, true, true, false, false, false, false, false, false] rfl rfl (by kernel_rfl) (fun _ _ _ h => h) (Or.inl ⟨by rfl, ?_⟩) ?_ ?_
  rotate_left
  · intro w'
    go_simp
    with_reducible rfl
  rotate_left
  · simp only [Act.put, List.setIfInBounds_toArray, List.set_cons_zero, List.set_cons_succ, i64_w, i32_w]
    rfl
  refine pure_ (i := 5) (N := some 11) (v := ?_) (a' := ?_) #[true, true, true, true, true, true, false, false, false, false, false] rfl rfl (by kernel_rfl) (fun _ _ _ h => h) (Or.inl ⟨by rfl, ?_⟩) ?_ ?_
  rotate_left
  · intro w'
    go_simp
    with_reducible rfl
  rotate_left
  · simp only [Act.put, List.setIfInBounds_toArray, List.set_cons_zero, List.set_cons_succ, i64_w, i32_w]
    rfl
  refine take_ (i := 6) (N := some 12) (v := ?_) (a' := ?_) #[true, true, true, true, true, true, true, false, false, false, false] rfl rfl (by kernel_rfl) (fun _ _ _ h => h) (Or.inl ⟨by rfl, ?_⟩) hHeld ?_ ?_
  rotate_left
  · rintro w' ⟨s0, s1, s2⟩
    go_simp
    with_reducible rfl
  rotate_left
  · simp only [Act.put, List.setIfInBounds_toArray, List.set_cons_zero, List.set_cons_succ, i64_w, i32_w]
    rfl
  refine pure_ (i := 7) (N := some 13) (v := ?_) (a' := ?_) #[true, true, true, true, true, true, true, true, false, false, false] rfl rfl (by kernel_rfl) (fun _ _ _ h => h) (Or.inl ⟨by rfl, ?_⟩) ?_ ?_
  rotate_left
  · intro w'
    go_simp
    with_reducible rfl
  rotate_left
  · simp only [Act.put, List.setIfInBounds_toArray, List.set_cons_zero, List.set_cons_succ, i64_w, i32_w]
    rfl
  refine pure_ (i := 8) (N := some 14) (v := ?_) (a' := ?_) #[true, true, true, true, true, true, true, true, true, false, false] rfl rfl (by kernel_rfl) (fun _ _ _ h => h) (Or.inl ⟨by rfl, ?_⟩) ?_ ?_
  rotate_left
  · intro w'
    go_simp
    with_reducible rfl
  rotate_left
  · simp only [Act.put, List.setIfInBounds_toArray, List.set_cons_zero, List.set_cons_succ, i64_w, i32_w]
    rfl
  refine one_ (i := 9) (N := none) #[true, true, true, true, true, true, true, true, true, true, false] rfl rfl (by kernel_rfl) (by decide) (fun K hK => ?_)
  refine skip_ (w1 := ?_) (by rfl) rfl ?_ ?_
  rotate_left
  · go_simp
    rfl
  refine hK.out _ _ ⟨far3 t0 hne, far3 t1 hne, far3 t2 hne⟩ (fun hHeld => ?_)
  clear hK K
  refine pure_ (i := 10) (N := some 1) (v := ?_) (a' := ?_) #[true, true, true, true, true, true, true, true, true, true, true] rfl rfl (by kernel_rfl) (fun _ _ _ h => h) (Or.inl ⟨by rfl, ?_⟩) ?_ ?_
  rotate_left
  · intro w'
    go_simp
    with_reducible rfl
  rotate_left
  · simp only [Act.put, List.setIfInBounds_toArray, List.set_cons_zero, List.set_cons_succ, i64_w, i32_w]
    rfl
  refine done_ (by kernel_rfl) ?_

  obtain ⟨hr9, hT9⟩ := set3 (.pointer (some ⟨qi, 0, none⟩)) (.pointer (some ⟨qt, 0, none⟩)) (.slice none 0 0) HR4.out.at_
  have HR9 := Hd.mk hr9
  generalize hW : ((W4.setCell ⟨rb, 0, none⟩ (.pointer (some ⟨qi, 0, none⟩))).setCell ⟨rb, 1, none⟩ (.pointer (some ⟨qt, 0, none⟩))).setCell ⟨rb, 2, none⟩ (.slice none 0 0) = W9 at HR9 hT9 ⊢
  clear hW hr9
  have HRD : Hd (W9.drew.heap[rb]? = some (.cells #[.pointer (some ⟨qi, 0, none⟩), .pointer (some ⟨qt, 0, none⟩), .slice none 0 0] 33 (0, 0))) := ⟨HR9.out⟩
  have HM9 := Hd.mk (HM4.out.frame hT9.drew (fun k h e => HR4.out.out (by rw [← e]; exact h)) (fun e => by have := HZ.out; have := HRE.out; omega))
  have HO9 : Hd (Tn w W9.drew (fun _ => False)) := ⟨HT4.out.then_ hT9.drew (fun q h => .inr (by rw [h, HRE.out]; exact Nat.le_refl _))⟩
  have HFW : Hd (∀ k, F k → w.heap.size ≤ k) := ⟨fun k h => Nat.le_trans HFZ.out (HFL.out k h)⟩
  go_wp2
  (try simp only [Exit.inBlock, Exit.then])
  refine bodyPost_ret (results_list (rs := [.cell 0 33, .tmp 1]) rfl (by simp) (.cell rb 33 _ (0, 0) _ rfl HRD.out Tryd.underlying33 rfl (by kernel_rfl) (.tmp .nil))) rfl ?_
  exact ⟨F, qi, mi, .slice none 0 0, qt, mt, .slice none 0 0, rfl, HM9.out, HO9.out, HFW.out⟩
end Go.Proofs.YtkbbngkfncbgkaaDoor.UBegin
