/- arrearslaw11.UpTo: whatever the script, it says true. Conditions: the script can be read, its numbers are ints, it is not beyond all memory; the table of powers of ten stands as laid. -/
import Derived.Test.YtkbbngkfncbgkaaDoorZUStepB
namespace Go.Proofs.YtkbbngkfncbgkaaDoor.UUpTo
open Go.RowKit Go.Proofs.YtkbbngkfncbgkaaDoor.IQHeap Go.Proofs.YtkbbngkfncbgkaaDoor.UPlain Go.Proofs.YtkbbngkfncbgkaaDoor.URel Go.Proofs.YtkbbngkfncbgkaaDoor.URef Go.Proofs.YtkbbngkfncbgkaaDoor.UTrio Go.Proofs.YtkbbngkfncbgkaaDoorW.PrintWords Go.Proofs.YtkbbngkfncbgkaaDoorW.PrintLast Go.Proofs.YtkbbngkfncbgkaaDoorW.PrintMore Go.Proofs.YtkbbngkfncbgkaaDoor.UWord Go.Proofs.YtkbbngkfncbgkaaDoor.UNexts Go.Proofs.YtkbbngkfncbgkaaDoor.UPops Go.Proofs.YtkbbngkfncbgkaaDoor.UBegin Go.Proofs.YtkbbngkfncbgkaaDoor.UFacts Go.Proofs.YtkbbngkfncbgkaaDoor.UStepA Go.Proofs.YtkbbngkfncbgkaaDoor.UStepB
open Go.Proofs.YtkbbngkfncbgkaaDoor.IQWords (Ky KyOk Tn QS Hd)
set_option linter.unusedVariables false
set_option linter.unusedSimpArgs false
theorem step_calls (B : Nat) (F : Nat → Prop) (qi mi : Nat) (vi : Value) (L : List (Ky × Int)) (qt mt : Nat) (vt : Value) (M : List (Ky × ByteArray)) (u : Value) (X : List (Ky × Int)) (w : World) (hM : TM B w F qi mi vi L qt mt vt M u X) (hS : Same L M X) (hx : X.length + 1 < 2950000000000) (oth : Bool) (k : Ky) (hk : KyOk k) (n : Int) (hn : (Lit.int .i64 n).wf = true) (kd : Int) :
    Calls Tryd.prog 9 #[.agg #[.pointer (some ⟨qi, 0, none⟩), .pointer (some ⟨qt, 0, none⟩), u], .agg #[.int .i64 kd, .bool oth, .int .i64 k.d, .int .i64 k.l, .int .i64 k.k, .int .i64 n]] w fun e w' => StepR B w w' F qi qt (X.length + 1) e := by
  by_cases h1 : kd = 1
  · subst h1; exact step_put B F qi mi vi L qt mt vt M u X w hM hS hx oth k hk n hn
  by_cases h2 : kd = 2
  · subst h2; exact step_get B F qi mi vi L qt mt vt M u X w hM hS hx oth k hk n hn
  by_cases h3 : kd = 3
  · subst h3; exact step_cancel B F qi mi vi L qt mt vt M u X w hM hS hx oth k hk n hn
  by_cases h4 : kd = 4
  · subst h4; exact step_move B F qi mi vi L qt mt vt M u X w hM hS hx oth k hk n hn
  by_cases h5 : kd = 5
  · subst h5; exact step_next B F qi mi vi L qt mt vt M u X w hM hS hx oth k hk n hn
  by_cases h6 : kd = 6
  · subst h6; exact step_pop B F qi mi vi L qt mt vt M u X w hM hS hx oth k hk n hn
  by_cases h7 : kd = 7
  · subst h7; exact step_list B F qi mi vi L qt mt vt M u X w hM hS hx oth k hk n hn
  · exact step_none B F qi mi vi L qt mt vt M u X w hM hS hx oth k hk n hn kd (fun q h8 h9 => beq_eq_false_iff_ne.2 (by omega))
/-- Trio1 call of a script. -/
structure Opp where
  kd : Int
  oth : Bool
  k : Ky
  n : Int
structure OpOk (o : Opp) : Prop where
  k : KyOk o.k
  n : (Lit.int .i64 o.n).wf = true
/-- The script reads from A on. -/
def OR (w : World) (A : Option Addr) (ops : List Opp) : Prop := ∀ i o, ops[i]? = some o → ∃ ad, A = some ad ∧ w.cell? (ad.add (i * 6)) = some (.int .i64 o.kd) ∧ w.cell? ⟨(ad.add (i * 6)).block, (ad.add (i * 6)).off + 1, none⟩ = some (.bool o.oth) ∧ w.cell? ⟨(ad.add (i * 6)).block, (ad.add (i * 6)).off + 2, none⟩ = some (.int .i64 o.k.d) ∧ w.cell? ⟨(ad.add (i * 6)).block, (ad.add (i * 6)).off + 3, none⟩ = some (.int .i64 o.k.l) ∧ w.cell? ⟨(ad.add (i * 6)).block, (ad.add (i * 6)).off + 4, none⟩ = some (.int .i64 o.k.k) ∧ w.cell? ⟨(ad.add (i * 6)).block, (ad.add (i * 6)).off + 5, none⟩ = some (.int .i64 o.n)
theorem OR.kept {w W : World} {A : Option Addr} {ops : List Opp} (h : OR w A ops) (ht : Tn w W (fun _ => False)) : OR W A ops := fun i o hi => by
  obtain ⟨ad, e, h0, h1, h2, h3, h4, h5⟩ := h i o hi
  exact ⟨ad, e, keept ht h0, keept ht h1, keept ht h2, keept ht h3, keept ht h4, keept ht h5⟩
/-- A trio in its box. -/
structure Trio1 (B : Nat) (w : World) (b q p : Nat) (F : Nat → Prop) (mi : Nat) (vi : Value) (L : List (Ky × Int)) (mt : Nat) (vt : Value) (M : List (Ky × ByteArray)) (A : Option Addr) (c : Nat) (X : List (Ky × Int)) (n : Nat) : Prop where
  m : TM B w F q mi vi L p mt vt M (.slice A X.length c) X
  s : Same L M X
  l : X.length ≤ n
  bo : Bx w F b (.cells #[.pointer (some ⟨q, 0, none⟩), .pointer (some ⟨p, 0, none⟩), .slice A X.length c] 33 (0, 0))
  bb : B ≤ b
def TrioE (B : Nat) (w : World) (b q p : Nat) (F : Nat → Prop) (n : Nat) : Prop := ∃ mi vi L mt vt M A c X, Trio1 B w b q p F mi vi L mt vt M A c X n
section
variable {B : Nat} {w W : World} {b q p : Nat} {F : Nat → Prop} {mi : Nat} {vi : Value} {L : List (Ky × Int)} {mt : Nat} {vt : Value} {M : List (Ky × ByteArray)} {A : Option Addr} {c : Nat} {X : List (Ky × Int)} {n : Nat}
theorem Trio1.still (h : Trio1 B w b q p F mi vi L mt vt M A c X n) (ht : Tn w W (fun _ => False)) : Trio1 B W b q p F mi vi L mt vt M A c X n := ⟨h.m.still ht, h.s, h.l, h.bo.kept (.of_tn ht F), h.bb⟩
theorem TrioE.frame {S : Nat → Prop} {n' : Nat} (h : TrioE B w b q p F n) (ht : Tn w W S) (hS : ∀ k, F k → ¬ S k) (h0 : ¬ S 0) (hb : ¬ S b) (hn : n ≤ n') : TrioE B W b q p F n' := by
  obtain ⟨mi, vi, L, mt, vt, M, A, c, X, h⟩ := h
  exact ⟨mi, vi, L, mt, vt, M, A, c, X, h.m.frame ht hS h0, h.s, Nat.le_trans h.l hn, ⟨ht.blk h.bo.at_ hb, h.bo.out⟩, h.bb⟩
end
set_option maxHeartbeats 8000000 in
set_option maxRecDepth 1000000 in
theorem upto_calls (A : Option Addr) (cap : Nat) (ops : List Opp) (lo hi : Int) (w : World) (hr : OR w A ops) (hok : ∀ o ∈ ops, OpOk o) (hlen : ops.length < 2940000000000) (hP : PowAt w) :
    Calls Tryd.prog 7 #[.slice A ops.length cap, .int .i64 lo, .int .i64 hi] w fun e w' => e = .returned (.bool true) ∧ Below w.heap.size w w' := by
  have HR := Hd.mk hr
  have HOK := Hd.mk hok
  have HP := Hd.mk hP
  have HZ := Hd.mk (PowAt_lt hP)
  clear hr hok hP
  go_enter Tryd.func7, Tryd.ntmps7
  go_upto_region 2 with (first | (go_at_call 8; refine (begin_calls w.heap.size w (Nat.le_refl _) HZ.out HP.out).mono ?_; rintro e W1 ⟨F1, q1, m1, v1, p1, n1, u1, rfl, hM1, hT1, hF1⟩; have HM1 := Hd.mk hM1; have HT1 := Hd.mk hT1; have HF1 := Hd.mk hF1; clear hM1 hT1 hF1))
  obtain ⟨hM2, hb2, hT2⟩ := TM.box1 HM1.out #[.pointer (some ⟨q1, 0, none⟩), .pointer (some ⟨p1, 0, none⟩), .slice none 0 0] 33
  have HM2 := Hd.mk hM2
  have HB2 := Hd.mk hb2
  have HT2 := Hd.mk (HT1.out.then_ hT2 (fun _ h => h.elim))
  have HL2 := Hd.mk (show w.heap.size ≤ W1.heap.size from HT1.out.size)
  obtain ⟨b1, hb1⟩ : ∃ b1, W1.heap.size = b1 := ⟨_, rfl⟩
  rw [hb1] at HB2 HL2 ⊢
  generalize hW : W1.alloc (.cells #[.pointer (some ⟨q1, 0, none⟩), .pointer (some ⟨p1, 0, none⟩), .slice none 0 0] 33) = W2 at HM2 HB2 HT2 ⊢
  clear hW hM2 hb2 hT2 hb1
  go_upto_region 3 with (first | (go_at_call 8; refine (begin_calls w.heap.size W2 HT2.out.size HZ.out HM2.out.pw).mono ?_; rintro e W3 ⟨F2, q2, m2, v2, p2, n2, u2, rfl, hM3, hT3, hF3⟩; have HM3 := Hd.mk hM3; have HN3 := Hd.mk (HM2.out.still hT3); have HB3 := Hd.mk (HB2.out.kept (.of_tn hT3 F1)); have HT3 := Hd.mk (HT2.out.then_ hT3 (fun _ h => h.elim)); have HF3 := Hd.mk hF3; clear hM3 hT3 hF3))
  obtain ⟨hM4, hb4, hT4⟩ := TM.box1 HM3.out #[.pointer (some ⟨q2, 0, none⟩), .pointer (some ⟨p2, 0, none⟩), .slice none 0 0] 33
  have HDJ : Hd (∀ k, F1 k → ¬ F2 k) := ⟨fun k h1 h2 => by have := (HM2.out.fb k h1).2; have := HF3.out k h2; omega⟩
  have HB1F : Hd (¬ F2 b1) := ⟨fun h => by have := (Array.getElem?_eq_some_iff.1 HB2.out.at_).1; have := HF3.out b1 h; omega⟩
  have HB2F : Hd (¬ F1 W3.heap.size) := ⟨fun h => by have := (HN3.out.fb _ h).2; omega⟩
  have HNB : Hd (b1 ≠ W3.heap.size) := ⟨fun e => by have := (Array.getElem?_eq_some_iff.1 HB3.out.at_).1; omega⟩
  have HS0 : Same [] [] [] := ⟨Rel.nil, Rel.nil, fun x hx => (by cases hx), fun x hx => (by cases hx)⟩
  have HO1 : Hd (TrioE w.heap.size (W3.alloc (.cells #[.pointer (some ⟨q2, 0, none⟩), .pointer (some ⟨p2, 0, none⟩), .slice none 0 0] 33)) b1 q1 p1 F1 0) := ⟨⟨m1, v1, [], n1, u1, [], none, 0, [], HN3.out.still hT4, HS0, Nat.le_refl _, HB3.out.kept (.of_tn hT4 F1), HL2.out⟩⟩
  have HO2 : Hd (TrioE w.heap.size (W3.alloc (.cells #[.pointer (some ⟨q2, 0, none⟩), .pointer (some ⟨p2, 0, none⟩), .slice none 0 0] 33)) W3.heap.size q2 p2 F2 0) := ⟨⟨m2, v2, [], n2, u2, [], none, 0, [], hM4, HS0, Nat.le_refl _, hb4, HT3.out.size⟩⟩
  have HT4 := Hd.mk (HT3.out.then_ hT4 (fun _ h => h.elim))
  obtain ⟨b2, hb2⟩ : ∃ b2, W3.heap.size = b2 := ⟨_, rfl⟩
  rw [hb2] at HO2 HB2F HNB ⊢
  generalize hW : W3.alloc (.cells #[.pointer (some ⟨q2, 0, none⟩), .pointer (some ⟨p2, 0, none⟩), .slice none 0 0] 33) = W4 at HO1 HO2 HT4 ⊢
  clear hW hM4 hb4 hT4 hb2 HS0 HM1 HT1 HF1 HM2 HB2 HT2 HL2 HM3 HN3 HB3 HT3 HF3
  go_wp2
  go_loopg [8, 11] (ops.length + 1) (fun g s8 s11 wr => ∃ (i : Nat) (F1 F2 : Nat → Prop), s8 = .bool true ∧ s11 = .int .i64 i ∧ i ≤ ops.length ∧ ops.length + 1 ≤ g + i ∧ Hd (TrioE w.heap.size wr b1 q1 p1 F1 i) ∧ Hd (TrioE w.heap.size wr b2 q2 p2 F2 i) ∧ Hd (∀ k, F1 k → ¬ F2 k) ∧ Hd (¬ F2 b1) ∧ Hd (¬ F1 b2) ∧ Hd (Tn w wr (fun _ => False)))
  case atStart => exact ⟨0, F1, F2, rfl, rfl, Nat.zero_le _, by omega, HO1, HO2, HDJ, HB1F, HB2F, HT4⟩
  case round =>
    clear HO1 HO2 HDJ HB1F HB2F HT4
    obtain ⟨i, F1, F2, rfl, rfl, hi, hg, HO1, HO2, HDJ, HB1F, HB2F, HT⟩ := hrel
    by_cases c1 : i < ops.length
    · have c1' : (i : Int) < (ops.length : Int) := by omega
      have i0 : (0 : Int) ≤ (i : Int) := by omega
      obtain ⟨⟨kd, oth, k, n⟩, ho⟩ : ∃ o, ops[i]? = some o := ⟨_, List.getElem?_eq_getElem c1⟩
      have HOO := Hd.mk (HOK.out _ (List.mem_of_getElem? ho))
      have hor := HR.out.kept HT.out
      obtain ⟨ad, eA, k0, k1, k2, k3, k4, k5⟩ := hor i _ ho
      subst eA
      clear hor ho
      have hTa := Tn.alloc wr (.cells #[.int .i64 kd, .bool oth, .int .i64 k.d, .int .i64 k.l, .int .i64 k.k, .int .i64 n] 26) (fun _ => False)
      have HQ1 := Hd.mk (HO1.out.frame hTa (fun _ _ h => h) (fun h => h) (fun h => h) (Nat.le_refl _))
      have HQ2 := Hd.mk (HO2.out.frame hTa (fun _ _ h => h) (fun h => h) (fun h => h) (Nat.le_refl _))
      have HTa := Hd.mk (HT.out.then_ hTa (fun _ h => h.elim))
      have HBO : Hd ((wr.alloc (.cells #[.int .i64 kd, .bool oth, .int .i64 k.d, .int .i64 k.l, .int .i64 k.k, .int .i64 n] 26)).heap[wr.heap.size]? = some (.cells #[.int .i64 kd, .bool oth, .int .i64 k.d, .int .i64 k.l, .int .i64 k.k, .int .i64 n] 26 (0, 0))) := ⟨heap_alloc_new wr _⟩
      cases oth
      · go_upto_region 9 with (fail)
        obtain ⟨ob, hob⟩ : ∃ ob, wr.heap.size = ob := ⟨_, rfl⟩
        rw [hob] at HBO ⊢
        generalize hW : wr.alloc (.cells #[.int .i64 kd, .bool false, .int .i64 k.d, .int .i64 k.l, .int .i64 k.k, .int .i64 n] 26) = Wa at HQ1 HQ2 HTa HBO ⊢
        clear hW hob hTa k0 k1 k2 k3 k4 k5 HO1 HO2 HT
        obtain ⟨mi, vi, L, mt, vt, M, Au, cu, X, hone⟩ := HQ1.out
        have HON := Hd.mk hone
        have hxl := hone.l
        have hx2 : X.length + 1 < 2950000000000 := by omega
        clear hone
        have t0 : Wa.cell? ⟨b1, 0, none⟩ = some (.pointer (some ⟨q1, 0, none⟩)) := cell_of_row Wa b1 0 _ _ (0, 0) HON.out.bo.at_
        have t1 : Wa.cell? ⟨b1, 1, none⟩ = some (.pointer (some ⟨p1, 0, none⟩)) := cell_of_row Wa b1 1 _ _ (0, 0) HON.out.bo.at_
        have t2 : Wa.cell? ⟨b1, 2, none⟩ = some (.slice Au X.length cu) := cell_of_row Wa b1 2 _ _ (0, 0) HON.out.bo.at_
        have o0 : Wa.cell? ⟨ob, 0, none⟩ = some (.int .i64 kd) := cell_of_row Wa ob 0 _ _ (0, 0) HBO.out
        have o1 : Wa.cell? ⟨ob, 1, none⟩ = some (.bool false) := cell_of_row Wa ob 1 _ _ (0, 0) HBO.out
        have o2 : Wa.cell? ⟨ob, 2, none⟩ = some (.int .i64 k.d) := cell_of_row Wa ob 2 _ _ (0, 0) HBO.out
        have o3 : Wa.cell? ⟨ob, 3, none⟩ = some (.int .i64 k.l) := cell_of_row Wa ob 3 _ _ (0, 0) HBO.out
        have o4 : Wa.cell? ⟨ob, 4, none⟩ = some (.int .i64 k.k) := cell_of_row Wa ob 4 _ _ (0, 0) HBO.out
        have o5 : Wa.cell? ⟨ob, 5, none⟩ = some (.int .i64 n) := cell_of_row Wa ob 5 _ _ (0, 0) HBO.out
        go_upto_region 12 with (first | (go_at_call 9; refine (step_calls w.heap.size F1 q1 mi vi L p1 mt vt M _ X _ HON.out.m HON.out.s hx2 false k HOO.out.k n HOO.out.n kd).mono ?_; rintro e W2 ⟨F', mi2, vi2, L2, mt2, vt2, M2, u2_, Y, rfl, hM2, hS2, hO2, hl2⟩; obtain ⟨A1, c1_, rfl⟩ := hM2.r.form; have HM2 := Hd.mk hM2; have HS2 := Hd.mk hS2; have HU2 := Hd.mk hO2; have HL2 := Hd.mk hl2; have HB2 := Hd.mk (HON.out.bo.kept hO2); clear hM2 hS2 hO2 hl2 t0 t1 t2 o0 o1 o2 o3 o4 o5; have hfz : ∀ z, W2.frozen? ⟨b1, z, none⟩ = false := fun z => frozen_of_row W2 b1 z _ _ HB2.out.at_; have t0 : W2.cell? ⟨b1, 0, none⟩ = some (.pointer (some ⟨q1, 0, none⟩)) := cell_of_row W2 b1 0 _ _ (0, 0) HB2.out.at_; have t1 : W2.cell? ⟨b1, 1, none⟩ = some (.pointer (some ⟨p1, 0, none⟩)) := cell_of_row W2 b1 1 _ _ (0, 0) HB2.out.at_; have t2 : W2.cell? ⟨b1, 2, none⟩ = some (.slice Au X.length cu) := cell_of_row W2 b1 2 _ _ (0, 0) HB2.out.at_))
        obtain ⟨hr9, hT9⟩ := set3 (.pointer (some ⟨q1, 0, none⟩)) (.pointer (some ⟨p1, 0, none⟩)) (.slice A1 Y.length c1_) HB2.out.at_
        generalize hW : ((W2.setCell ⟨b1, 0, none⟩ (.pointer (some ⟨q1, 0, none⟩))).setCell ⟨b1, 1, none⟩ (.pointer (some ⟨p1, 0, none⟩))).setCell ⟨b1, 2, none⟩ (.slice A1 Y.length c1_) = W3 at hr9 hT9 ⊢
        have h0b : 0 ≠ b1 := fun e => by have := HON.out.bb; have := HZ.out; omega
        have HNEW : Hd (TrioE w.heap.size W3 b1 q1 p1 F' (i + 1)) := ⟨⟨mi2, vi2, L2, mt2, vt2, M2, A1, c1_, Y, HM2.out.frame hT9 (fun z h e => HB2.out.out (by rw [← e]; exact h)) h0b, HS2.out, Nat.le_trans HL2.out (by omega), ⟨hr9, HB2.out.out⟩, HON.out.bb⟩⟩
        have hlow : ∀ z, F2 z → z < Wa.heap.size := fun z h => by obtain ⟨_, _, _, _, _, _, _, _, _, h2⟩ := HQ2.out; exact (h2.m.fb z h).2
        have HOLD : Hd (TrioE w.heap.size W3 b2 q2 p2 F2 (i + 1)) := ⟨(HQ2.out.frame HU2.out.tn (fun z h2 h1 => HDJ.out z h1 h2) (fun h => by have := (HON.out.m.fb 0 h).1; have := HZ.out; omega) HB2F.out (Nat.le_succ i)).frame hT9 (fun z h e => HB1F.out (by rw [← e]; exact h)) h0b (fun e => HNB.out e.symm) (Nat.le_refl _)⟩
        have HDJ2 : Hd (∀ z, F' z → ¬ F2 z) := ⟨fun z h1 h2 => (HU2.out.sub z h1).elim (fun h => HDJ.out z h h2) (fun h => by have := hlow z h2; omega)⟩
        have HFY : Hd (¬ F' b2) := ⟨fun h => (HU2.out.sub b2 h).elim HB2F.out (fun h => by obtain ⟨_, _, _, _, _, _, _, _, _, h2⟩ := HQ2.out; have := (Array.getElem?_eq_some_iff.1 h2.bo.at_).1; omega)⟩
        have HT3 : Hd (Tn w W3 (fun _ => False)) := ⟨(HTa.out.then_ HU2.out.tn (fun z h => .inr (HON.out.m.fb z h).1)).then_ hT9 (fun z h => .inr (by rw [h]; exact HON.out.bb))⟩
        clear hW hr9 hT9 hlow t0 t1 t2 hfz
        go_wp2
        go_roundg (ops.length - i)
        case measure => omega
        case rel => exact ⟨i + 1, F', F2, rfl, by go_num, by omega, by omega, HNEW, HOLD, HDJ2, HB1F, HFY, HT3⟩
      · go_upto_region 9 with (fail)
        obtain ⟨ob, hob⟩ : ∃ ob, wr.heap.size = ob := ⟨_, rfl⟩
        rw [hob] at HBO ⊢
        generalize hW : wr.alloc (.cells #[.int .i64 kd, .bool true, .int .i64 k.d, .int .i64 k.l, .int .i64 k.k, .int .i64 n] 26) = Wa at HQ1 HQ2 HTa HBO ⊢
        clear hW hob hTa k0 k1 k2 k3 k4 k5 HO1 HO2 HT
        obtain ⟨mi, vi, L, mt, vt, M, Au, cu, X, hone⟩ := HQ2.out
        have HON := Hd.mk hone
        have hxl := hone.l
        have hx2 : X.length + 1 < 2950000000000 := by omega
        clear hone
        have t0 : Wa.cell? ⟨b2, 0, none⟩ = some (.pointer (some ⟨q2, 0, none⟩)) := cell_of_row Wa b2 0 _ _ (0, 0) HON.out.bo.at_
        have t1 : Wa.cell? ⟨b2, 1, none⟩ = some (.pointer (some ⟨p2, 0, none⟩)) := cell_of_row Wa b2 1 _ _ (0, 0) HON.out.bo.at_
        have t2 : Wa.cell? ⟨b2, 2, none⟩ = some (.slice Au X.length cu) := cell_of_row Wa b2 2 _ _ (0, 0) HON.out.bo.at_
        have o0 : Wa.cell? ⟨ob, 0, none⟩ = some (.int .i64 kd) := cell_of_row Wa ob 0 _ _ (0, 0) HBO.out
        have o1 : Wa.cell? ⟨ob, 1, none⟩ = some (.bool true) := cell_of_row Wa ob 1 _ _ (0, 0) HBO.out
        have o2 : Wa.cell? ⟨ob, 2, none⟩ = some (.int .i64 k.d) := cell_of_row Wa ob 2 _ _ (0, 0) HBO.out
        have o3 : Wa.cell? ⟨ob, 3, none⟩ = some (.int .i64 k.l) := cell_of_row Wa ob 3 _ _ (0, 0) HBO.out
        have o4 : Wa.cell? ⟨ob, 4, none⟩ = some (.int .i64 k.k) := cell_of_row Wa ob 4 _ _ (0, 0) HBO.out
        have o5 : Wa.cell? ⟨ob, 5, none⟩ = some (.int .i64 n) := cell_of_row Wa ob 5 _ _ (0, 0) HBO.out
        go_upto_region 12 with (first | (go_at_call 9; refine (step_calls w.heap.size F2 q2 mi vi L p2 mt vt M _ X _ HON.out.m HON.out.s hx2 true k HOO.out.k n HOO.out.n kd).mono ?_; rintro e W2 ⟨F', mi2, vi2, L2, mt2, vt2, M2, u2_, Y, rfl, hM2, hS2, hO2, hl2⟩; obtain ⟨A1, c1_, rfl⟩ := hM2.r.form; have HM2 := Hd.mk hM2; have HS2 := Hd.mk hS2; have HU2 := Hd.mk hO2; have HL2 := Hd.mk hl2; have HB2 := Hd.mk (HON.out.bo.kept hO2); clear hM2 hS2 hO2 hl2 t0 t1 t2 o0 o1 o2 o3 o4 o5; have hfz : ∀ z, W2.frozen? ⟨b2, z, none⟩ = false := fun z => frozen_of_row W2 b2 z _ _ HB2.out.at_; have t0 : W2.cell? ⟨b2, 0, none⟩ = some (.pointer (some ⟨q2, 0, none⟩)) := cell_of_row W2 b2 0 _ _ (0, 0) HB2.out.at_; have t1 : W2.cell? ⟨b2, 1, none⟩ = some (.pointer (some ⟨p2, 0, none⟩)) := cell_of_row W2 b2 1 _ _ (0, 0) HB2.out.at_; have t2 : W2.cell? ⟨b2, 2, none⟩ = some (.slice Au X.length cu) := cell_of_row W2 b2 2 _ _ (0, 0) HB2.out.at_))
        obtain ⟨hr9, hT9⟩ := set3 (.pointer (some ⟨q2, 0, none⟩)) (.pointer (some ⟨p2, 0, none⟩)) (.slice A1 Y.length c1_) HB2.out.at_
        generalize hW : ((W2.setCell ⟨b2, 0, none⟩ (.pointer (some ⟨q2, 0, none⟩))).setCell ⟨b2, 1, none⟩ (.pointer (some ⟨p2, 0, none⟩))).setCell ⟨b2, 2, none⟩ (.slice A1 Y.length c1_) = W3 at hr9 hT9 ⊢
        have h0b : 0 ≠ b2 := fun e => by have := HON.out.bb; have := HZ.out; omega
        have HNEW : Hd (TrioE w.heap.size W3 b2 q2 p2 F' (i + 1)) := ⟨⟨mi2, vi2, L2, mt2, vt2, M2, A1, c1_, Y, HM2.out.frame hT9 (fun z h e => HB2.out.out (by rw [← e]; exact h)) h0b, HS2.out, Nat.le_trans HL2.out (by omega), ⟨hr9, HB2.out.out⟩, HON.out.bb⟩⟩
        have hlow : ∀ z, F1 z → z < Wa.heap.size := fun z h => by obtain ⟨_, _, _, _, _, _, _, _, _, h2⟩ := HQ1.out; exact (h2.m.fb z h).2
        have HOLD : Hd (TrioE w.heap.size W3 b1 q1 p1 F1 (i + 1)) := ⟨(HQ1.out.frame HU2.out.tn (fun z h2 h1 => HDJ.out z h2 h1) (fun h => by have := (HON.out.m.fb 0 h).1; have := HZ.out; omega) HB1F.out (Nat.le_succ i)).frame hT9 (fun z h e => HB2F.out (by rw [← e]; exact h)) h0b (fun e => HNB.out e) (Nat.le_refl _)⟩
        have HDJ2 : Hd (∀ z, F1 z → ¬ F' z) := ⟨fun z h1 h2 => (HU2.out.sub z h2).elim (fun h => HDJ.out z h1 h) (fun h => by have := hlow z h1; omega)⟩
        have HFY : Hd (¬ F' b1) := ⟨fun h => (HU2.out.sub b1 h).elim HB1F.out (fun h => by obtain ⟨_, _, _, _, _, _, _, _, _, h2⟩ := HQ1.out; have := (Array.getElem?_eq_some_iff.1 h2.bo.at_).1; omega)⟩
        have HT3 : Hd (Tn w W3 (fun _ => False)) := ⟨(HTa.out.then_ HU2.out.tn (fun z h => .inr (HON.out.m.fb z h).1)).then_ hT9 (fun z h => .inr (by rw [h]; exact HON.out.bb))⟩
        clear hW hr9 hT9 hlow t0 t1 t2 hfz
        go_wp2
        go_roundg (ops.length - i)
        case measure => omega
        case rel => exact ⟨i + 1, F1, F', rfl, by go_num, by omega, by omega, HOLD, HNEW, HDJ2, HFY, HB2F, HT3⟩
    · have c1' : decide ((i : Int) < (ops.length : Int)) = false := decide_eq_false (by omega)
      go_wp2
      go_ret
      exact ⟨rfl, HT.out.below (Nat.le_refl _) (fun _ h => h.elim)⟩
end Go.Proofs.YtkbbngkfncbgkaaDoor.UUpTo
