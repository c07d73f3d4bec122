/- arrearslaw11.pops: of three holders of one list it says true, and they go on holding one list. Conditions: the day is an int, the list is not beyond all memory. -/
import Derived.Test.YtkbbngkfncbgkaaDoorZUNexts
import Derived.ProofKit
namespace Go.Proofs.YtkbbngkfncbgkaaDoor.UPops
open Go.RowKit Go.Proofs.YtkbbngkfncbgkaaDoor.IQHeap Go.Proofs.YtkbbngkfncbgkaaDoor.UPlain Go.Proofs.YtkbbngkfncbgkaaDoor.URel Go.Proofs.YtkbbngkfncbgkaaDoor.URef Go.Proofs.YtkbbngkfncbgkaaDoor.UTrio Go.Proofs.YtkbbngkfncbgkaaDoorW.PrintWords Go.Proofs.YtkbbngkfncbgkaaDoorW.PrintLast Go.Proofs.YtkbbngkfncbgkaaDoorW.PrintMore Go.Proofs.YtkbbngkfncbgkaaDoor.UWord Go.Proofs.YtkbbngkfncbgkaaDoor.UNexts Go.Proofs.YtkbbngkfncbgkaaDoor.PA
open Go.Proofs.YtkbbngkfncbgkaaDoor.IQWords (Ky KyOk Tn QS Hd)
set_option linter.unusedVariables false
set_option linter.unusedSimpArgs false
theorem tn_drew {W W5 : World} (h : Below W.drew.heap.size W.drew W5) : Tn W W5 (fun _ => False) := ⟨h.os, h.tape, h.output, h.size, fun i hi _ => h.block i hi⟩
theorem keepc {W w3 : World} {a : Addr} {u : Value} (hb : Below W.heap.size W w3) (h : W.cell? a = some u) : w3.cell? a = some u :=
  (World.cell?_of_block (hb.block a.block (World.block_lt_of_cell? W a h))).trans h
theorem keept {W w3 : World} {a : Addr} {u : Value} (hb : Tn W w3 (fun _ => False)) (h : W.cell? a = some u) : w3.cell? a = some u :=
  (World.cell?_of_block (hb.block a.block (World.block_lt_of_cell? W a h) (fun h => h))).trans h
theorem pw_b {W W1 : World} (hb : Below W.heap.size W W1) (h : PowAt W) : PowAt W1 := PowAt_of h (hb.block 0 (PowAt_lt h))
theorem blkb {W W1 : World} {b : Nat} {o : Obj} (hb : Below W.heap.size W W1) (h : W.heap[b]? = some o) : W1.heap[b]? = some o := (hb.block b (Array.getElem?_eq_some_iff.1 h).1).trans h
theorem blkt {W W1 : World} {b : Nat} {o : Obj} (hb : Tn W W1 (fun _ => False)) (h : W.heap[b]? = some o) : W1.heap[b]? = some o := hb.blk h (fun h => h)
theorem word_s (n : Int) (s : ByteArray) (h1 : -9223372036854775808 ≤ n) (h2 : n ≤ 9223372036854775807) (hs : wd n = s) (w : World) (hP : PowAt w) : Calls Tryd.prog 15 #[.int .i64 n] w fun e w' => e = .returned (.string s) ∧ Tn w w' (fun _ => False) := by
  subst hs
  exact word_calls n h1 h2 w hP
/-- What a step comes to: the trio again, and true. -/
def StepR (B : Nat) (w w' : World) (F : Nat → Prop) (qi qt : Nat) (n : Nat) (e : Ending) : Prop :=
  ∃ (F' : Nat → Prop) (mi : Nat) (vi : Value) (L : List (Ky × Int)) (mt : Nat) (vt : Value) (M : List (Ky × ByteArray)) (u : Value) (X : List (Ky × Int)),
    e = .returned (.tuple #[.agg #[.pointer (some ⟨qi, 0, none⟩), .pointer (some ⟨qt, 0, none⟩), u], .bool true]) ∧ TM B w' F' qi mi vi L qt mt vt M u X ∧ Same L M X ∧ Out w w' F F' ∧ X.length ≤ n
theorem set3 {W : World} {rb : Nat} {T : TypeId} {z0 z1 z2 : Value} (y0 y1 y2 : Value) (h : W.heap[rb]? = some (.cells #[z0, z1, z2] T (0, 0))) :
    (((W.setCell ⟨rb, 0, none⟩ y0).setCell ⟨rb, 1, none⟩ y1).setCell ⟨rb, 2, none⟩ y2).heap[rb]? = some (.cells #[y0, y1, y2] T (0, 0)) ∧ Tn W (((W.setCell ⟨rb, 0, none⟩ y0).setCell ⟨rb, 1, none⟩ y1).setCell ⟨rb, 2, none⟩ y2) (fun q => q = rb) := by
  have hset : ∀ (W : World) (j : Nat) (u : Value), Tn W (W.setCell ⟨rb, j, none⟩ u) (fun q => q = rb) := fun W j u => ⟨rfl, rfl, rfl, by simp [World.setCell], fun i _ hn => Below.heap_setCell _ ⟨rb, j, none⟩ _ i hn⟩
  have h1 := heap_setCell_same W rb 0 _ _ y0 h
  have h2 := heap_setCell_same _ rb 1 _ _ y1 h1
  have h3 := heap_setCell_same _ rb 2 _ _ y2 h2
  exact ⟨h3, ((hset W 0 y0).then_ (hset _ 1 y1) (fun _ h => .inl h)).then_ (hset _ 2 y2) (fun _ h => .inl h)⟩
theorem far3 {W : World} {rb b j : Nat} {v y0 y1 y2 : Value} (h : W.cell? ⟨b, j, none⟩ = some v) (hne : b ≠ rb) : (((W.setCell ⟨rb, 0, none⟩ y0).setCell ⟨rb, 1, none⟩ y1).setCell ⟨rb, 2, none⟩ y2).cell? ⟨b, j, none⟩ = some v := by
  have hk : ∀ (W : World) (q : Nat) (u : Value), (W.setCell ⟨rb, q, none⟩ u).cell? ⟨b, j, none⟩ = W.cell? ⟨b, j, none⟩ := fun W q u => World.cell?_of_block (Below.heap_setCell W ⟨rb, q, none⟩ u b hne)
  rw [hk, hk, hk]
  exact h
theorem set1 {W : World} {rb : Nat} {T : TypeId} {z0 z1 z2 : Value} (y2 : Value) (h : W.heap[rb]? = some (.cells #[z0, z1, z2] T (0, 0))) :
    (W.setCell ⟨rb, 2, none⟩ y2).heap[rb]? = some (.cells #[z0, z1, y2] T (0, 0)) ∧ Tn W (W.setCell ⟨rb, 2, none⟩ y2) (fun q => q = rb) :=
  ⟨heap_setCell_same W rb 2 _ _ y2 h, ⟨rfl, rfl, rfl, by simp [World.setCell], fun i _ hn => Below.heap_setCell _ ⟨rb, 2, none⟩ _ i hn⟩⟩
theorem popI (qb mb : Nat) (v : Value) (day : Int) (L L1 : List (Ky × Int)) (w : World) (hl : L.length < 3000000000000) (hQ : Go.Proofs.YtkbbngkfncbgkaaDoor.IQWords.QS w qb v mb L) (z : Ky) (n : Int) (t : Bool)
    (hc : (t = false ∧ z = ⟨0, 0, 0⟩ ∧ n = 0 ∧ L1 = L ∧ ∀ x ∈ L, False ∨ (0 < L.length ∧ day < (at_ Go.Proofs.YtkbbngkfncbgkaaDoor.IQWords.d0 L 0).1.d)) ∨ (t = true ∧ 0 < L.length ∧ at_ Go.Proofs.YtkbbngkfncbgkaaDoor.IQWords.d0 L 0 = (z, n) ∧ z.d ≤ day ∧ L1 = takeF Go.Proofs.YtkbbngkfncbgkaaDoor.IQOrd.ltI Go.Proofs.YtkbbngkfncbgkaaDoor.IQWords.d0 L 0)) :
    Calls Tryd.prog 41 #[.pointer (some ⟨qb, 0, none⟩), .int .i64 day] w fun e w' => e = .returned (.tuple #[.agg #[.int .i64 z.d, .int .i64 z.l, .int .i64 z.k], .int .i64 n, .bool t]) ∧ ∃ v1, Go.Proofs.YtkbbngkfncbgkaaDoor.IQWords.QS w' qb v1 mb L1 ∧ Tn w w' (Bl qb mb v) ∧ ∀ q, v1.ownBlock = some q → v.ownBlock = some q ∨ w.heap.size ≤ q := by
  rcases hc with ⟨rfl, rfl, rfl, rfl, h⟩ | ⟨rfl, h0, h1, h2, rfl⟩
  · refine (Go.Proofs.YtkbbngkfncbgkaaDoor.IQPop.pop_none qb mb v day L1 w hQ h).mono ?_
    rintro e w' ⟨h1, h2⟩
    exact ⟨h1, v, hQ.kept h2 (fun h => h) (fun h => h) (fun _ _ h => h), h2.mono fun _ h => h.elim, fun q h => .inl h⟩
  · refine (Go.Proofs.YtkbbngkfncbgkaaDoor.IQPop.pop_some qb mb v day L w hl hQ h0 (by rw [h1]; exact h2)).mono ?_
    rintro e w' ⟨h3, v1, h4, h5, h6⟩
    rw [h1] at h3
    exact ⟨h3, v1, h4, h5, fun q h => .inl (by rw [← h6]; exact h)⟩
theorem popT (qb mb : Nat) (v : Value) (day : Int) (L L1 : List (Ky × ByteArray)) (w : World) (hl : L.length < 3000000000000) (hQ : Go.Proofs.YtkbbngkfncbgkaaDoor.TQWords.QS w qb v mb L) (z : Ky) (n : ByteArray) (t : Bool)
    (hc : (t = false ∧ z = ⟨0, 0, 0⟩ ∧ n = ⟨#[]⟩ ∧ L1 = L ∧ ∀ x ∈ L, False ∨ (0 < L.length ∧ day < (at_ Go.Proofs.YtkbbngkfncbgkaaDoor.TQWords.d0 L 0).1.d)) ∨ (t = true ∧ 0 < L.length ∧ at_ Go.Proofs.YtkbbngkfncbgkaaDoor.TQWords.d0 L 0 = (z, n) ∧ z.d ≤ day ∧ L1 = takeF Go.Proofs.YtkbbngkfncbgkaaDoor.TQOrd.ltI Go.Proofs.YtkbbngkfncbgkaaDoor.TQWords.d0 L 0)) :
    Calls Tryd.prog 42 #[.pointer (some ⟨qb, 0, none⟩), .int .i64 day] w fun e w' => e = .returned (.tuple #[.agg #[.int .i64 z.d, .int .i64 z.l, .int .i64 z.k], .string n, .bool t]) ∧ ∃ v1, Go.Proofs.YtkbbngkfncbgkaaDoor.TQWords.QS w' qb v1 mb L1 ∧ Tn w w' (Bl qb mb v) ∧ ∀ q, v1.ownBlock = some q → v.ownBlock = some q ∨ w.heap.size ≤ q := by
  rcases hc with ⟨rfl, rfl, rfl, rfl, h⟩ | ⟨rfl, h0, h1, h2, rfl⟩
  · refine (Go.Proofs.YtkbbngkfncbgkaaDoor.TQPop.pop_none qb mb v day L1 w hQ h).mono ?_
    rintro e w' ⟨h1, h2⟩
    exact ⟨h1, v, hQ.kept h2 (fun h => h) (fun h => h) (fun _ _ h => h), (tnI h2).mono fun _ h => h.elim, fun q h => .inl h⟩
  · refine (Go.Proofs.YtkbbngkfncbgkaaDoor.TQPop.pop_some qb mb v day L w hl hQ h0 (by rw [h1]; exact h2)).mono ?_
    rintro e w' ⟨h3, v1, h4, h5, h6⟩
    rw [h1] at h3
    exact ⟨h3, v1, h4, tnI h5, fun q h => .inl (by rw [← h6]; exact h)⟩
theorem pop_facts {L : List (Ky × Int)} {M : List (Ky × ByteArray)} {X : List (Ky × Int)} (h : Same L M X) (day : Int) : ∃ (z : Ky) (n : Int) (s : ByteArray) (t : Bool) (L1 : List (Ky × Int)) (M1 : List (Ky × ByteArray)) (Y : List (Ky × Int)),
    popR day X = (Y, (z, n), t) ∧ Same L1 M1 Y ∧ Y.length ≤ X.length ∧
    ((t = false ∧ z = ⟨0, 0, 0⟩ ∧ n = 0 ∧ L1 = L ∧ ∀ x ∈ L, False ∨ (0 < L.length ∧ day < (at_ Go.Proofs.YtkbbngkfncbgkaaDoor.IQWords.d0 L 0).1.d)) ∨ (t = true ∧ 0 < L.length ∧ at_ Go.Proofs.YtkbbngkfncbgkaaDoor.IQWords.d0 L 0 = (z, n) ∧ z.d ≤ day ∧ L1 = takeF Go.Proofs.YtkbbngkfncbgkaaDoor.IQOrd.ltI Go.Proofs.YtkbbngkfncbgkaaDoor.IQWords.d0 L 0)) ∧
    ((t = false ∧ z = ⟨0, 0, 0⟩ ∧ s = ⟨#[]⟩ ∧ M1 = M ∧ ∀ x ∈ M, False ∨ (0 < M.length ∧ day < (at_ Go.Proofs.YtkbbngkfncbgkaaDoor.TQWords.d0 M 0).1.d)) ∨ (t = true ∧ 0 < M.length ∧ at_ Go.Proofs.YtkbbngkfncbgkaaDoor.TQWords.d0 M 0 = (z, s) ∧ z.d ≤ day ∧ M1 = takeF Go.Proofs.YtkbbngkfncbgkaaDoor.TQOrd.ltI Go.Proofs.YtkbbngkfncbgkaaDoor.TQWords.d0 M 0)) ∧
    ((t = false ∧ n = 0 ∧ s = ⟨#[]⟩) ∨ (t = true ∧ s = wd n ∧ -9223372036854775808 ≤ n ∧ n ≤ 9223372036854775807)) := by
  have h1 := h.i.len
  have h2 := h.t.len
  rw [List.length_map] at h2
  match X, h, h1, h2 with
  | [], h, h1, h2 =>
    have e1 : L = [] := List.eq_nil_of_length_eq_zero h1
    have e2 : M = [] := List.eq_nil_of_length_eq_zero h2
    subst e1 e2
    exact ⟨⟨0, 0, 0⟩, 0, ⟨#[]⟩, false, [], [], [], rfl, h, Nat.le_refl _, .inl ⟨rfl, rfl, rfl, rfl, fun x hx => by cases hx⟩, .inl ⟨rfl, rfl, rfl, rfl, fun x hx => by cases hx⟩, .inl ⟨rfl, rfl, rfl⟩⟩
  | y :: r, h, h1, h2 =>
    have e1 := h.i.head (fun _ _ => rfl) Go.Proofs.YtkbbngkfncbgkaaDoor.IQOrd.wo
    have ht : Rel _ _ M (tw wd y :: r.map (tw wd)) := h.t
    have e2 := Rel.head (fun _ _ => rfl) Go.Proofs.YtkbbngkfncbgkaaDoor.TQOrd.wo ht
    have l1 : 0 < L.length := by rw [h1]; simp
    have l2 : 0 < M.length := by rw [h2]; simp
    by_cases hd : y.1.d > day
    · exact ⟨⟨0, 0, 0⟩, 0, ⟨#[]⟩, false, L, M, y :: r, by simp only [popR]; rw [if_pos hd]; rfl, h, Nat.le_refl _, .inl ⟨rfl, rfl, rfl, rfl, fun x hx => .inr ⟨l1, by rw [e1]; exact hd⟩⟩, .inl ⟨rfl, rfl, rfl, rfl, fun x hx => .inr ⟨l2, by rw [e2]; exact hd⟩⟩, .inl ⟨rfl, rfl, rfl⟩⟩
    · have hf : (y :: r).filter (ne y.1) = r := head_filter h.i.s
      have hi := h.i.take Go.Proofs.YtkbbngkfncbgkaaDoor.IQOrd.wo l1 (k := y.1) (by rw [e1])
      have hm := h.t.take Go.Proofs.YtkbbngkfncbgkaaDoor.TQOrd.wo l2 (k := y.1) (by rw [e2]; rfl)
      rw [tw_filter] at hm
      rw [show (y :: r).filter (nek y.1) = r from hf] at hi hm
      exact ⟨y.1, y.2, wd y.2, true, _, _, r, by simp only [popR]; rw [if_neg hd, hf], ⟨hi, hm, fun x hx => h.ok x (List.mem_cons_of_mem _ hx), fun x hx => h.vo x (List.mem_cons_of_mem _ hx)⟩, by simp, .inr ⟨rfl, l1, by rw [e1], by omega, rfl⟩, .inr ⟨rfl, l2, by rw [e2]; rfl, by omega, rfl⟩, .inr ⟨rfl, rfl, (h.vo y List.mem_cons_self).1, (h.vo y List.mem_cons_self).2⟩⟩
set_option maxHeartbeats 8000000 in
set_option maxRecDepth 1000000 in
theorem pops_calls (B : Nat) (F : Nat → Prop) (qi mi : Nat) (vi : Value) (L : List (Ky × Int)) (qt mt : Nat) (vt : Value) (M : List (Ky × ByteArray)) (u : Value) (X : List (Ky × Int)) (w : World) (hM : TM B w F qi mi vi L qt mt vt M u X) (hS : Same L M X) (hx : X.length + 1 < 2950000000000) (day : Int) :
    Calls Tryd.prog 24 #[.agg #[.pointer (some ⟨qi, 0, none⟩), .pointer (some ⟨qt, 0, none⟩), u], .int .i64 day] w fun e w' => StepR B w w' F qi qt X.length e := by
  obtain ⟨A, c, rfl⟩ := hM.r.form
  obtain ⟨hM1, hX1, hR1, hT1⟩ := TM.box2 hM #[.pointer (some ⟨qi, 0, none⟩), .pointer (some ⟨qt, 0, none⟩), .slice A X.length c] #[.pointer none, .pointer none, .slice none 0 0] 33 33
  have HM1 := Hd.mk hM1
  have HX1 := Hd.mk hX1
  have HR1 := Hd.mk hR1
  have HO1 := Hd.mk (Out.of_tn hT1 F)
  have NEr : Hd (w.heap.size ≤ w.heap.size + 1 ∧ 0 ≠ w.heap.size ∧ w.heap.size ≠ w.heap.size + 1) := ⟨by have := PowAt_lt hM.pw; omega⟩
  obtain ⟨z, n, s, t, L1, M1, Y, f1, f2, f3, f4, f5, f6⟩ := pop_facts hS day
  have F1 := Hd.mk f1
  have F2 := Hd.mk f2
  have F3 := Hd.mk f3
  have F4 := Hd.mk f4
  have F5 := Hd.mk f5
  have F6 := Hd.mk f6
  have hl : L.length < 3000000000000 := by rw [hS.i.len]; omega
  have hm : M.length < 3000000000000 := by rw [hS.t.len, List.length_map]; omega
  have hx4 : X.length < 4000000000000 := by omega
  clear hM hM1 hX1 hR1 hT1 hS f1 f2 f3 f4 f5 f6
  go_enter Tryd.func24, Tryd.ntmps24
  go_upto_region 1 with (fail)
  obtain ⟨tb, htb⟩ : ∃ tb, w.heap.size = tb := ⟨_, rfl⟩
  obtain ⟨rb, hrb⟩ : ∃ rb, w.heap.size + 1 = rb := ⟨_, rfl⟩
  have NEt : Hd (0 ≠ tb ∧ tb ≠ rb ∧ w.heap.size ≤ tb ∧ w.heap.size ≤ rb ∧ 0 ≠ rb) := ⟨by have := NEr.out; omega⟩
  rw [hrb] at HR1 ⊢
  rw [htb] at HX1 ⊢
  generalize hW : (w.alloc (.cells #[.pointer (some ⟨qi, 0, none⟩), .pointer (some ⟨qt, 0, none⟩), .slice A X.length c] 33)).alloc (.cells #[.pointer none, .pointer none, .slice none 0 0] 33) = W1 at HM1 HX1 HR1 HO1 ⊢
  clear hW htb hrb NEr
  have t0 : W1.cell? ⟨tb, 0, none⟩ = some (.pointer (some ⟨qi, 0, none⟩)) := cell_of_row W1 tb 0 _ _ (0, 0) HX1.out.at_
  have t1 : W1.cell? ⟨tb, 1, none⟩ = some (.pointer (some ⟨qt, 0, none⟩)) := cell_of_row W1 tb 1 _ _ (0, 0) HX1.out.at_
  have t2 : W1.cell? ⟨tb, 2, none⟩ = some (.slice A X.length c) := cell_of_row W1 tb 2 _ _ (0, 0) HX1.out.at_
  have r0 : W1.cell? ⟨rb, 0, none⟩ = some (.pointer none) := cell_of_row W1 rb 0 _ _ (0, 0) HR1.out.at_
  have r1 : W1.cell? ⟨rb, 1, none⟩ = some (.pointer none) := cell_of_row W1 rb 1 _ _ (0, 0) HR1.out.at_
  have r2 : W1.cell? ⟨rb, 2, none⟩ = some (.slice none 0 0) := cell_of_row W1 rb 2 _ _ (0, 0) HR1.out.at_
  go_upto_region 2 with (first | (go_at_call 41; refine (popI qi mi vi day L L1 _ hl HM1.out.i z n t F4.out).mono ?_; rintro e W2 ⟨rfl, v1, hQ2, hT2, hv2⟩; have hO_ := Fx.out hT2 HM1.out.fi; have HM2 := Hd.mk (HM1.out.int hQ2 hT2 hv2); have HX2 := Hd.mk (HX1.out.kept hO_); have HR2 := Hd.mk (HR1.out.kept hO_); have HO2 := Hd.mk (HO1.out.trans hO_); clear hO_ t0 t1 t2 r0 r1 r2 hQ2 hT2 hv2; have t0 : W2.cell? ⟨tb, 0, none⟩ = some (.pointer (some ⟨qi, 0, none⟩)) := cell_of_row W2 tb 0 _ _ (0, 0) HX2.out.at_; have t1 : W2.cell? ⟨tb, 1, none⟩ = some (.pointer (some ⟨qt, 0, none⟩)) := cell_of_row W2 tb 1 _ _ (0, 0) HX2.out.at_; have t2 : W2.cell? ⟨tb, 2, none⟩ = some (.slice A X.length c) := cell_of_row W2 tb 2 _ _ (0, 0) HX2.out.at_; have r0 : W2.cell? ⟨rb, 0, none⟩ = some (.pointer none) := cell_of_row W2 rb 0 _ _ (0, 0) HR2.out.at_; have r1 : W2.cell? ⟨rb, 1, none⟩ = some (.pointer none) := cell_of_row W2 rb 1 _ _ (0, 0) HR2.out.at_; have r2 : W2.cell? ⟨rb, 2, none⟩ = some (.slice none 0 0) := cell_of_row W2 rb 2 _ _ (0, 0) HR2.out.at_; generalize hF : Fx F W1 W2 = F2_ at HM2 HX2 HR2 HO2; clear hF))
  obtain ⟨hM3, hHK3, hT3⟩ := TM.box1 HM2.out #[.int .i64 z.d, .int .i64 z.l, .int .i64 z.k] 24
  have HM3 := Hd.mk hM3
  have HK3 := Hd.mk hHK3
  have HX3 := Hd.mk (HX2.out.kept (.of_tn hT3 _))
  have HR3 := Hd.mk (HR2.out.kept (.of_tn hT3 _))
  have HO3 := Hd.mk (HO2.out.trans (.of_tn hT3 _))
  have NEkb : Hd (0 ≠ W2.heap.size ∧ w.heap.size ≤ W2.heap.size ∧ tb ≠ W2.heap.size ∧ rb ≠ W2.heap.size) := ⟨by have h0 := PowAt_lt HM2.out.pw; have hz := HO2.out.tn.size; have h1 := (Array.getElem?_eq_some_iff.1 HX2.out.at_).1; have h2 := (Array.getElem?_eq_some_iff.1 HR2.out.at_).1; omega⟩
  obtain ⟨kb, hkb⟩ : ∃ kb, W2.heap.size = kb := ⟨_, rfl⟩
  rw [hkb] at HK3 NEkb ⊢
  generalize hW : W2.alloc (.cells #[.int .i64 z.d, .int .i64 z.l, .int .i64 z.k] 24) = W3 at HM3 HX3 HR3 HK3 HO3 ⊢
  clear hW hkb hM3 hHK3 hT3 t0 t1 t2 r0 r1 r2
  have t0 : W3.cell? ⟨tb, 0, none⟩ = some (.pointer (some ⟨qi, 0, none⟩)) := cell_of_row W3 tb 0 _ _ (0, 0) HX3.out.at_
  have t1 : W3.cell? ⟨tb, 1, none⟩ = some (.pointer (some ⟨qt, 0, none⟩)) := cell_of_row W3 tb 1 _ _ (0, 0) HX3.out.at_
  have t2 : W3.cell? ⟨tb, 2, none⟩ = some (.slice A X.length c) := cell_of_row W3 tb 2 _ _ (0, 0) HX3.out.at_
  have r0 : W3.cell? ⟨rb, 0, none⟩ = some (.pointer none) := cell_of_row W3 rb 0 _ _ (0, 0) HR3.out.at_
  have r1 : W3.cell? ⟨rb, 1, none⟩ = some (.pointer none) := cell_of_row W3 rb 1 _ _ (0, 0) HR3.out.at_
  have r2 : W3.cell? ⟨rb, 2, none⟩ = some (.slice none 0 0) := cell_of_row W3 rb 2 _ _ (0, 0) HR3.out.at_
  have b0 : W3.cell? ⟨kb, 0, none⟩ = some (.int .i64 z.d) := cell_of_row W3 kb 0 _ _ (0, 0) HK3.out.at_
  have b1 : W3.cell? ⟨kb, 1, none⟩ = some (.int .i64 z.l) := cell_of_row W3 kb 1 _ _ (0, 0) HK3.out.at_
  have b2 : W3.cell? ⟨kb, 2, none⟩ = some (.int .i64 z.k) := cell_of_row W3 kb 2 _ _ (0, 0) HK3.out.at_
  go_upto_region 3 with (first | (go_at_call 42; refine (popT qt mt vt day M M1 _ hm HM3.out.t z s t F5.out).mono ?_; rintro e W4 ⟨rfl, v2, hQ4, hT4, hv4⟩; have hO_ := Fx.out hT4 HM3.out.ft; have HM4 := Hd.mk (HM3.out.txt hQ4 hT4 hv4); have HX4 := Hd.mk (HX3.out.kept hO_); have HR4 := Hd.mk (HR3.out.kept hO_); have HK4 := Hd.mk (HK3.out.kept hO_); have HO4 := Hd.mk (HO3.out.trans hO_); clear hO_ t0 t1 t2 r0 r1 r2 b0 b1 b2 hQ4 hT4 hv4; have t0 : W4.cell? ⟨tb, 0, none⟩ = some (.pointer (some ⟨qi, 0, none⟩)) := cell_of_row W4 tb 0 _ _ (0, 0) HX4.out.at_; have t1 : W4.cell? ⟨tb, 1, none⟩ = some (.pointer (some ⟨qt, 0, none⟩)) := cell_of_row W4 tb 1 _ _ (0, 0) HX4.out.at_; have t2 : W4.cell? ⟨tb, 2, none⟩ = some (.slice A X.length c) := cell_of_row W4 tb 2 _ _ (0, 0) HX4.out.at_; have r0 : W4.cell? ⟨rb, 0, none⟩ = some (.pointer none) := cell_of_row W4 rb 0 _ _ (0, 0) HR4.out.at_; have r1 : W4.cell? ⟨rb, 1, none⟩ = some (.pointer none) := cell_of_row W4 rb 1 _ _ (0, 0) HR4.out.at_; have r2 : W4.cell? ⟨rb, 2, none⟩ = some (.slice none 0 0) := cell_of_row W4 rb 2 _ _ (0, 0) HR4.out.at_; have b0 : W4.cell? ⟨kb, 0, none⟩ = some (.int .i64 z.d) := cell_of_row W4 kb 0 _ _ (0, 0) HK4.out.at_; have b1 : W4.cell? ⟨kb, 1, none⟩ = some (.int .i64 z.l) := cell_of_row W4 kb 1 _ _ (0, 0) HK4.out.at_; have b2 : W4.cell? ⟨kb, 2, none⟩ = some (.int .i64 z.k) := cell_of_row W4 kb 2 _ _ (0, 0) HK4.out.at_; generalize hF : Fx F2_ W3 W4 = F3_ at HM4 HX4 HR4 HK4 HO4; clear hF))
  obtain ⟨hM5, hHJ5, hT5⟩ := TM.box1 HM4.out #[.int .i64 z.d, .int .i64 z.l, .int .i64 z.k] 24
  have HM5 := Hd.mk hM5
  have HJ5 := Hd.mk hHJ5
  have HX5 := Hd.mk (HX4.out.kept (.of_tn hT5 _))
  have HR5 := Hd.mk (HR4.out.kept (.of_tn hT5 _))
  have HK5 := Hd.mk (HK4.out.kept (.of_tn hT5 _))
  have HO5 := Hd.mk (HO4.out.trans (.of_tn hT5 _))
  have NEjb : Hd (0 ≠ W4.heap.size ∧ w.heap.size ≤ W4.heap.size ∧ tb ≠ W4.heap.size ∧ rb ≠ W4.heap.size ∧ kb ≠ W4.heap.size) := ⟨by have h0 := PowAt_lt HM4.out.pw; have hz := HO4.out.tn.size; have h1 := (Array.getElem?_eq_some_iff.1 HX4.out.at_).1; have h2 := (Array.getElem?_eq_some_iff.1 HR4.out.at_).1; have h3 := (Array.getElem?_eq_some_iff.1 HK4.out.at_).1; omega⟩
  obtain ⟨jb, hjb⟩ : ∃ jb, W4.heap.size = jb := ⟨_, rfl⟩
  rw [hjb] at HJ5 NEjb ⊢
  generalize hW : W4.alloc (.cells #[.int .i64 z.d, .int .i64 z.l, .int .i64 z.k] 24) = W5 at HM5 HX5 HR5 HK5 HJ5 HO5 ⊢
  clear hW hjb hM5 hHJ5 hT5 t0 t1 t2 r0 r1 r2 b0 b1 b2
  have t0 : W5.cell? ⟨tb, 0, none⟩ = some (.pointer (some ⟨qi, 0, none⟩)) := cell_of_row W5 tb 0 _ _ (0, 0) HX5.out.at_
  have t1 : W5.cell? ⟨tb, 1, none⟩ = some (.pointer (some ⟨qt, 0, none⟩)) := cell_of_row W5 tb 1 _ _ (0, 0) HX5.out.at_
  have t2 : W5.cell? ⟨tb, 2, none⟩ = some (.slice A X.length c) := cell_of_row W5 tb 2 _ _ (0, 0) HX5.out.at_
  have r0 : W5.cell? ⟨rb, 0, none⟩ = some (.pointer none) := cell_of_row W5 rb 0 _ _ (0, 0) HR5.out.at_
  have r1 : W5.cell? ⟨rb, 1, none⟩ = some (.pointer none) := cell_of_row W5 rb 1 _ _ (0, 0) HR5.out.at_
  have r2 : W5.cell? ⟨rb, 2, none⟩ = some (.slice none 0 0) := cell_of_row W5 rb 2 _ _ (0, 0) HR5.out.at_
  have b0 : W5.cell? ⟨kb, 0, none⟩ = some (.int .i64 z.d) := cell_of_row W5 kb 0 _ _ (0, 0) HK5.out.at_
  have b1 : W5.cell? ⟨kb, 1, none⟩ = some (.int .i64 z.l) := cell_of_row W5 kb 1 _ _ (0, 0) HK5.out.at_
  have b2 : W5.cell? ⟨kb, 2, none⟩ = some (.int .i64 z.k) := cell_of_row W5 kb 2 _ _ (0, 0) HK5.out.at_
  have j0 : W5.cell? ⟨jb, 0, none⟩ = some (.int .i64 z.d) := cell_of_row W5 jb 0 _ _ (0, 0) HJ5.out.at_
  have j1 : W5.cell? ⟨jb, 1, none⟩ = some (.int .i64 z.l) := cell_of_row W5 jb 1 _ _ (0, 0) HJ5.out.at_
  have j2 : W5.cell? ⟨jb, 2, none⟩ = some (.int .i64 z.k) := cell_of_row W5 jb 2 _ _ (0, 0) HJ5.out.at_
  go_upto_region 4 with (first | (go_at_call 43; refine (ref_pop B _ _ X hx4 HM5.out.r HM5.out.bz day Y (z, n) t F1.out).mono ?_; rintro e W6 ⟨u1, rfl, hR6, hT6, hu6⟩; obtain ⟨A1, c1, rfl⟩ := hR6.form; have hO_ := Fx.out hT6 HM5.out.fr; have HM6 := Hd.mk (HM5.out.ref hR6 hT6 hu6); have HX6 := Hd.mk (HX5.out.kept hO_); have HR6 := Hd.mk (HR5.out.kept hO_); have HK6 := Hd.mk (HK5.out.kept hO_); have HJ6 := Hd.mk (HJ5.out.kept hO_); have HO6 := Hd.mk (HO5.out.trans hO_); clear hO_ t0 t1 t2 r0 r1 r2 b0 b1 b2 j0 j1 j2 hR6 hT6 hu6; have t0 : W6.cell? ⟨tb, 0, none⟩ = some (.pointer (some ⟨qi, 0, none⟩)) := cell_of_row W6 tb 0 _ _ (0, 0) HX6.out.at_; have t1 : W6.cell? ⟨tb, 1, none⟩ = some (.pointer (some ⟨qt, 0, none⟩)) := cell_of_row W6 tb 1 _ _ (0, 0) HX6.out.at_; have t2 : W6.cell? ⟨tb, 2, none⟩ = some (.slice A X.length c) := cell_of_row W6 tb 2 _ _ (0, 0) HX6.out.at_; have r0 : W6.cell? ⟨rb, 0, none⟩ = some (.pointer none) := cell_of_row W6 rb 0 _ _ (0, 0) HR6.out.at_; have r1 : W6.cell? ⟨rb, 1, none⟩ = some (.pointer none) := cell_of_row W6 rb 1 _ _ (0, 0) HR6.out.at_; have r2 : W6.cell? ⟨rb, 2, none⟩ = some (.slice none 0 0) := cell_of_row W6 rb 2 _ _ (0, 0) HR6.out.at_; have b0 : W6.cell? ⟨kb, 0, none⟩ = some (.int .i64 z.d) := cell_of_row W6 kb 0 _ _ (0, 0) HK6.out.at_; have b1 : W6.cell? ⟨kb, 1, none⟩ = some (.int .i64 z.l) := cell_of_row W6 kb 1 _ _ (0, 0) HK6.out.at_; have b2 : W6.cell? ⟨kb, 2, none⟩ = some (.int .i64 z.k) := cell_of_row W6 kb 2 _ _ (0, 0) HK6.out.at_; have j0 : W6.cell? ⟨jb, 0, none⟩ = some (.int .i64 z.d) := cell_of_row W6 jb 0 _ _ (0, 0) HJ6.out.at_; have j1 : W6.cell? ⟨jb, 1, none⟩ = some (.int .i64 z.l) := cell_of_row W6 jb 1 _ _ (0, 0) HJ6.out.at_; have j2 : W6.cell? ⟨jb, 2, none⟩ = some (.int .i64 z.k) := cell_of_row W6 jb 2 _ _ (0, 0) HJ6.out.at_; generalize hF : Fx F3_ W5 W6 = F4_ at HM6 HX6 HR6 HK6 HJ6 HO6; clear hF))
  obtain ⟨hM7, hHW7, hT7⟩ := TM.box1 HM6.out #[.int .i64 z.d, .int .i64 z.l, .int .i64 z.k] 24
  have HM7 := Hd.mk hM7
  have HW7 := Hd.mk hHW7
  have HX7 := Hd.mk (HX6.out.kept (.of_tn hT7 _))
  have HR7 := Hd.mk (HR6.out.kept (.of_tn hT7 _))
  have HK7 := Hd.mk (HK6.out.kept (.of_tn hT7 _))
  have HJ7 := Hd.mk (HJ6.out.kept (.of_tn hT7 _))
  have HO7 := Hd.mk (HO6.out.trans (.of_tn hT7 _))
  have NEwb : Hd (0 ≠ W6.heap.size ∧ w.heap.size ≤ W6.heap.size ∧ tb ≠ W6.heap.size ∧ rb ≠ W6.heap.size ∧ kb ≠ W6.heap.size ∧ jb ≠ W6.heap.size) := ⟨by have h0 := PowAt_lt HM6.out.pw; have hz := HO6.out.tn.size; have h1 := (Array.getElem?_eq_some_iff.1 HX6.out.at_).1; have h2 := (Array.getElem?_eq_some_iff.1 HR6.out.at_).1; have h3 := (Array.getElem?_eq_some_iff.1 HK6.out.at_).1; have h4 := (Array.getElem?_eq_some_iff.1 HJ6.out.at_).1; omega⟩
  obtain ⟨wb, hwb⟩ : ∃ wb, W6.heap.size = wb := ⟨_, rfl⟩
  rw [hwb] at HW7 NEwb ⊢
  generalize hW : W6.alloc (.cells #[.int .i64 z.d, .int .i64 z.l, .int .i64 z.k] 24) = W7 at HM7 HX7 HR7 HK7 HJ7 HW7 HO7 ⊢
  clear hW hwb hM7 hHW7 hT7 t0 t1 t2 r0 r1 r2 b0 b1 b2 j0 j1 j2
  have t0 : W7.cell? ⟨tb, 0, none⟩ = some (.pointer (some ⟨qi, 0, none⟩)) := cell_of_row W7 tb 0 _ _ (0, 0) HX7.out.at_
  have t1 : W7.cell? ⟨tb, 1, none⟩ = some (.pointer (some ⟨qt, 0, none⟩)) := cell_of_row W7 tb 1 _ _ (0, 0) HX7.out.at_
  have t2 : W7.cell? ⟨tb, 2, none⟩ = some (.slice A X.length c) := cell_of_row W7 tb 2 _ _ (0, 0) HX7.out.at_
  have r0 : W7.cell? ⟨rb, 0, none⟩ = some (.pointer none) := cell_of_row W7 rb 0 _ _ (0, 0) HR7.out.at_
  have r1 : W7.cell? ⟨rb, 1, none⟩ = some (.pointer none) := cell_of_row W7 rb 1 _ _ (0, 0) HR7.out.at_
  have r2 : W7.cell? ⟨rb, 2, none⟩ = some (.slice none 0 0) := cell_of_row W7 rb 2 _ _ (0, 0) HR7.out.at_
  have b0 : W7.cell? ⟨kb, 0, none⟩ = some (.int .i64 z.d) := cell_of_row W7 kb 0 _ _ (0, 0) HK7.out.at_
  have b1 : W7.cell? ⟨kb, 1, none⟩ = some (.int .i64 z.l) := cell_of_row W7 kb 1 _ _ (0, 0) HK7.out.at_
  have b2 : W7.cell? ⟨kb, 2, none⟩ = some (.int .i64 z.k) := cell_of_row W7 kb 2 _ _ (0, 0) HK7.out.at_
  have j0 : W7.cell? ⟨jb, 0, none⟩ = some (.int .i64 z.d) := cell_of_row W7 jb 0 _ _ (0, 0) HJ7.out.at_
  have j1 : W7.cell? ⟨jb, 1, none⟩ = some (.int .i64 z.l) := cell_of_row W7 jb 1 _ _ (0, 0) HJ7.out.at_
  have j2 : W7.cell? ⟨jb, 2, none⟩ = some (.int .i64 z.k) := cell_of_row W7 jb 2 _ _ (0, 0) HJ7.out.at_
  have v0 : W7.cell? ⟨wb, 0, none⟩ = some (.int .i64 z.d) := cell_of_row W7 wb 0 _ _ (0, 0) HW7.out.at_
  have v1_ : W7.cell? ⟨wb, 1, none⟩ = some (.int .i64 z.l) := cell_of_row W7 wb 1 _ _ (0, 0) HW7.out.at_
  have v2_ : W7.cell? ⟨wb, 2, none⟩ = some (.int .i64 z.k) := cell_of_row W7 wb 2 _ _ (0, 0) HW7.out.at_
  obtain ⟨hr8, ht8⟩ := set1 (.slice A1 Y.length c1) HX7.out.at_
  have hfz : ∀ k, W7.frozen? ⟨tb, k, none⟩ = false := fun k => frozen_of_row W7 tb k _ _ HX7.out.at_
  have hT8 := ht8
  have HR_ := Hd.mk hr8
  have htr : rb ≠ tb := fun e => NEt.out.2.1 e.symm
  have htk : kb ≠ tb := fun e => NEkb.out.2.2.1 e.symm
  have htj : jb ≠ tb := fun e => NEjb.out.2.2.1 e.symm
  have htw : wb ≠ tb := fun e => NEwb.out.2.2.1 e.symm
  clear hr8 ht8
  go_upto_region 5 with (fail)
  generalize hW : W7.setCell ⟨tb, 2, none⟩ (.slice A1 Y.length c1) = W8 at HR_ hT8 ⊢
  have HM8 := Hd.mk (HM7.out.frame hT8 (fun k h e => HX7.out.out (by rw [← e]; exact h)) (fun e => NEt.out.1 e))
  have HX8 : Hd (Bx W8 F4_ tb _) := ⟨⟨HR_.out, HX7.out.out⟩⟩
  have HR8 : Hd (Bx W8 F4_ rb _) := ⟨⟨hT8.blk HR7.out.at_ htr, HR7.out.out⟩⟩
  have HK8 : Hd (Bx W8 F4_ kb _) := ⟨⟨hT8.blk HK7.out.at_ htk, HK7.out.out⟩⟩
  have HJ8 : Hd (Bx W8 F4_ jb _) := ⟨⟨hT8.blk HJ7.out.at_ htj, HJ7.out.out⟩⟩
  have HW8 : Hd (Bx W8 F4_ wb _) := ⟨⟨hT8.blk HW7.out.at_ htw, HW7.out.out⟩⟩
  have HO8 : Hd (Out w W8 F F4_) := ⟨HO7.out.tn.then_ hT8 (fun q h => .inr (by rw [h]; exact NEt.out.2.2.1)), HO7.out.sub⟩
  clear hW hfz hT8 HR_ t0 t1 t2 r0 r1 r2 b0 b1 b2 j0 j1 j2 v0 v1_ v2_
  have t0 : W8.cell? ⟨tb, 0, none⟩ = some (.pointer (some ⟨qi, 0, none⟩)) := cell_of_row W8 tb 0 _ _ (0, 0) HX8.out.at_
  have t1 : W8.cell? ⟨tb, 1, none⟩ = some (.pointer (some ⟨qt, 0, none⟩)) := cell_of_row W8 tb 1 _ _ (0, 0) HX8.out.at_
  have t2 : W8.cell? ⟨tb, 2, none⟩ = some (.slice A1 Y.length c1) := cell_of_row W8 tb 2 _ _ (0, 0) HX8.out.at_
  have r0 : W8.cell? ⟨rb, 0, none⟩ = some (.pointer none) := cell_of_row W8 rb 0 _ _ (0, 0) HR8.out.at_
  have r1 : W8.cell? ⟨rb, 1, none⟩ = some (.pointer none) := cell_of_row W8 rb 1 _ _ (0, 0) HR8.out.at_
  have r2 : W8.cell? ⟨rb, 2, none⟩ = some (.slice none 0 0) := cell_of_row W8 rb 2 _ _ (0, 0) HR8.out.at_
  have b0 : W8.cell? ⟨kb, 0, none⟩ = some (.int .i64 z.d) := cell_of_row W8 kb 0 _ _ (0, 0) HK8.out.at_
  have b1 : W8.cell? ⟨kb, 1, none⟩ = some (.int .i64 z.l) := cell_of_row W8 kb 1 _ _ (0, 0) HK8.out.at_
  have b2 : W8.cell? ⟨kb, 2, none⟩ = some (.int .i64 z.k) := cell_of_row W8 kb 2 _ _ (0, 0) HK8.out.at_
  have j0 : W8.cell? ⟨jb, 0, none⟩ = some (.int .i64 z.d) := cell_of_row W8 jb 0 _ _ (0, 0) HJ8.out.at_
  have j1 : W8.cell? ⟨jb, 1, none⟩ = some (.int .i64 z.l) := cell_of_row W8 jb 1 _ _ (0, 0) HJ8.out.at_
  have j2 : W8.cell? ⟨jb, 2, none⟩ = some (.int .i64 z.k) := cell_of_row W8 jb 2 _ _ (0, 0) HJ8.out.at_
  have v0 : W8.cell? ⟨wb, 0, none⟩ = some (.int .i64 z.d) := cell_of_row W8 wb 0 _ _ (0, 0) HW8.out.at_
  have v1_ : W8.cell? ⟨wb, 1, none⟩ = some (.int .i64 z.l) := cell_of_row W8 wb 1 _ _ (0, 0) HW8.out.at_
  have v2_ : W8.cell? ⟨wb, 2, none⟩ = some (.int .i64 z.k) := cell_of_row W8 wb 2 _ _ (0, 0) HW8.out.at_
  have hfz : ∀ k, W8.frozen? ⟨rb, k, none⟩ = false := fun k => frozen_of_row W8 rb k _ _ HR8.out.at_
  have HPW : Hd (PowAt W8.drew) := ⟨PowAt_of HM8.out.pw rfl⟩
  have NEr0 : Hd (0 ≠ rb) := ⟨fun e => by have := NEt.out; omega⟩
  rcases F6.out with ⟨ht, hn, hs⟩ | ⟨ht, hs, hn1, hn2⟩
  · subst ht hn hs
    go_upto_region 6 with (fail)
    refine start_ (n := 27) (S := fun w' => w'.cell? ⟨tb, 0, none⟩ = some (.pointer (some ⟨qi, 0, none⟩)) ∧ w'.cell? ⟨tb, 1, none⟩ = some (.pointer (some ⟨qt, 0, none⟩)) ∧ w'.cell? ⟨tb, 2, none⟩ = some (.slice A1 Y.length c1) ∧ w'.cell? ⟨kb, 0, none⟩ = some (.int .i64 z.d) ∧ w'.cell? ⟨kb, 1, none⟩ = some (.int .i64 z.l) ∧ w'.cell? ⟨kb, 2, none⟩ = some (.int .i64 z.k) ∧ w'.cell? ⟨jb, 0, none⟩ = some (.int .i64 z.d) ∧ w'.cell? ⟨jb, 1, none⟩ = some (.int .i64 z.l) ∧ w'.cell? ⟨jb, 2, none⟩ = some (.int .i64 z.k) ∧ w'.cell? ⟨wb, 0, none⟩ = some (.int .i64 z.d) ∧ w'.cell? ⟨wb, 1, none⟩ = some (.int .i64 z.l) ∧ w'.cell? ⟨wb, 2, none⟩ = some (.int .i64 z.k)) (ds := [25]) #[false, false, false, false, false, false, false, false, false, false, false, false, false, false, false, false, false, false, false, false, false, false, false, false, false, false, false] (by kernel_rfl) rfl rfl ⟨t0, t1, t2, b0, b1, b2, j0, j1, j2, v0, v1_, v2_⟩ (fun hHeld => ?_)
    refine pure_ (i := 1) (N := some 46) (v := ?_) (a' := ?_) #[false, true, false, false, false, false, false, false, false, false, false, false, false, false, false, false, false, false, false, false, false, false, false, false, false, false, false] rfl rfl (by kernel_rfl) (fun _ _ _ h => h) (Or.inl ⟨by rfl, ?_⟩) ?_ ?_
    rotate_left
    · intro w'
      go_simp
      with_reducible rfl
    rotate_left
    · simp only [Act.put, List.setIfInBounds_toArray, List.set_cons_zero, List.set_cons_succ, i64_w, i32_w]
      rfl
    refine pure_ (i := 2) (N := some 47) (v := ?_) (a' := ?_) #[false, true, true, false, false, false, false, false, false, false, false, false, false, false, false, false, false, false, false, false, false, false, false, false, false, false, false] rfl rfl (by kernel_rfl) (fun _ _ _ h => h) (Or.inl ⟨by rfl, ?_⟩) ?_ ?_
    rotate_left
    · intro w'
      go_simp
      with_reducible rfl
    rotate_left
    · simp only [Act.put, List.setIfInBounds_toArray, List.set_cons_zero, List.set_cons_succ, i64_w, i32_w]
      rfl
    refine pure_ (i := 3) (N := some 48) (v := ?_) (a' := ?_) #[false, true, true, true, false, false, false, false, false, false, false, false, false, false, false, false, false, false, false, false, false, false, false, false, false, false, false] rfl rfl (by kernel_rfl) (fun _ _ _ h => h) (Or.inl ⟨by rfl, ?_⟩) ?_ ?_
    rotate_left
    · intro w'
      go_simp
      with_reducible rfl
    rotate_left
    · simp only [Act.put, List.setIfInBounds_toArray, List.set_cons_zero, List.set_cons_succ, i64_w, i32_w]
      rfl
    refine pure_ (i := 4) (N := some 49) (v := ?_) (a' := ?_) #[false, true, true, true, true, false, false, false, false, false, false, false, false, false, false, false, false, false, false, false, false, false, false, false, false, false, false] rfl rfl (by kernel_rfl) (fun _ _ _ h => h) (Or.inl ⟨by rfl, ?_⟩) ?_ ?_
    rotate_left
    · intro w'
      go_simp
      with_reducible rfl
    rotate_left
    · simp only [Act.put, List.setIfInBounds_toArray, List.set_cons_zero, List.set_cons_succ, i64_w, i32_w]
      rfl
    refine pure_ (i := 5) (N := some 50) (v := ?_) (a' := ?_) #[false, true, true, true, true, true, false, false, false, false, false, false, false, false, false, false, false, false, false, false, false, false, false, false, false, false, false] rfl rfl (by kernel_rfl) (fun _ _ _ h => h) (Or.inl ⟨by rfl, ?_⟩) ?_ ?_
    rotate_left
    · intro w'
      go_simp
      with_reducible rfl
    rotate_left
    · simp only [Act.put, List.setIfInBounds_toArray, List.set_cons_zero, List.set_cons_succ, i64_w, i32_w]
      rfl
    refine pure_ (i := 6) (N := some 51) (v := ?_) (a' := ?_) #[false, true, true, true, true, true, true, false, false, false, false, false, false, false, false, false, false, false, false, false, false, false, false, false, false, false, false] rfl rfl (by kernel_rfl) (fun _ _ _ h => h) (Or.inl ⟨by rfl, ?_⟩) ?_ ?_
    rotate_left
    · intro w'
      go_simp
      with_reducible rfl
    rotate_left
    · simp only [Act.put, List.setIfInBounds_toArray, List.set_cons_zero, List.set_cons_succ, i64_w, i32_w]
      rfl
    refine pure_ (i := 7) (N := some 52) (v := ?_) (a' := ?_) #[false, true, true, true, true, true, true, true, false, false, false, false, false, false, false, false, false, false, false, false, false, false, false, false, false, false, false] rfl rfl (by kernel_rfl) (fun _ _ _ h => h) (Or.inl ⟨by rfl, ?_⟩) ?_ ?_
    rotate_left
    · intro w'
      go_simp
      with_reducible rfl
    rotate_left
    · simp only [Act.put, List.setIfInBounds_toArray, List.set_cons_zero, List.set_cons_succ, i64_w, i32_w]
      rfl
    refine take_ (i := 0) (N := some 45) (v := ?_) (a' := ?_) #[true, true, true, true, true, true, true, true, false, false, false, false, false, false, false, false, false, false, false, false, false, false, false, false, false, false, false] rfl rfl (by kernel_rfl) (fun _ _ _ h => h) (Or.inl ⟨by rfl, ?_⟩) hHeld ?_ ?_
    rotate_left
    · rintro w' ⟨s0, s1, s2, s3, s4, s5, s6, s7, s8, s9, s10, s11⟩
      go_simp
      with_reducible rfl
    rotate_left
    · simp only [Act.put, List.setIfInBounds_toArray, List.set_cons_zero, List.set_cons_succ, i64_w, i32_w]
      rfl
    refine take_ (i := 8) (N := some 53) (v := ?_) (a' := ?_) #[true, true, true, true, true, true, true, true, true, false, false, false, false, false, false, false, false, false, false, false, false, false, false, false, false, false, false] rfl rfl (by kernel_rfl) (fun _ _ _ h => h) (Or.inl ⟨by rfl, ?_⟩) hHeld ?_ ?_
    rotate_left
    · rintro w' ⟨s0, s1, s2, s3, s4, s5, s6, s7, s8, s9, s10, s11⟩
      go_simp
      with_reducible rfl
    rotate_left
    · simp only [Act.put, List.setIfInBounds_toArray, List.set_cons_zero, List.set_cons_succ, i64_w, i32_w]
      rfl
    refine take_ (i := 9) (N := some 54) (v := ?_) (a' := ?_) #[true, true, true, true, true, true, true, true, true, true, false, false, false, false, false, false, false, false, false, false, false, false, false, false, false, false, false] rfl rfl (by kernel_rfl) (fun _ _ _ h => h) (Or.inl ⟨by rfl, ?_⟩) hHeld ?_ ?_
    rotate_left
    · rintro w' ⟨s0, s1, s2, s3, s4, s5, s6, s7, s8, s9, s10, s11⟩
      go_simp
      with_reducible rfl
    rotate_left
    · simp only [Act.put, List.setIfInBounds_toArray, List.set_cons_zero, List.set_cons_succ, i64_w, i32_w]
      rfl
    refine one_ (i := 10) (N := some 55) #[true, true, true, true, true, true, true, true, true, true, true, false, false, false, false, false, false, false, false, false, false, false, false, false, false, false, false] rfl rfl (by kernel_rfl) (by decide) (fun K hK => ?_)
    refine goes_ Tryd.func38 (by kernel_rfl) rfl #[.agg #[.int .i64 z.d, .int .i64 z.l, .int .i64 z.k], .agg #[.int .i64 z.d, .int .i64 z.l, .int .i64 z.k]] (by rfl) rfl rfl (by simp only [List.map_toArray, List.map_cons, List.map_nil]; rfl) ?_
    with_reducible refine (same_c z z true (by simp) _).mono ?_
    rintro e W10 ⟨rfl, hb10⟩
    refine ⟨_, rfl, ?_⟩
    have p10_t0 := keepc hb10 t0
    have p10_t1 := keepc hb10 t1
    have p10_t2 := keepc hb10 t2
    have p10_b0 := keepc hb10 b0
    have p10_b1 := keepc hb10 b1
    have p10_b2 := keepc hb10 b2
    have p10_j0 := keepc hb10 j0
    have p10_j1 := keepc hb10 j1
    have p10_j2 := keepc hb10 j2
    have p10_v0 := keepc hb10 v0
    have p10_v1_ := keepc hb10 v1_
    have p10_v2_ := keepc hb10 v2_
    have p10_r0 := keepc hb10 r0
    have p10_r1 := keepc hb10 r1
    have p10_r2 := keepc hb10 r2
    have hB10 := blkb hb10 HR8.out.at_
    refine hK.out _ _ ⟨p10_t0, p10_t1, p10_t2, p10_b0, p10_b1, p10_b2, p10_j0, p10_j1, p10_j2, p10_v0, p10_v1_, p10_v2_⟩ (fun hHeld => ?_)
    clear hK K
    refine norm_ (a' := ?_) ?_ ?_
    rotate_left
    · show Act.put _ (some 55) _ = _
      simp only [Act.put, List.setIfInBounds_toArray, List.set_cons_zero, List.set_cons_succ, i64_w, i32_w]
      rfl
    refine pure_ (i := 11) (N := some 56) (v := ?_) (a' := ?_) #[true, true, true, true, true, true, true, true, true, true, true, true, false, false, false, false, false, false, false, false, false, false, false, false, false, false, false] rfl rfl (by kernel_rfl) (fun _ _ _ h => h) (Or.inl ⟨by rfl, ?_⟩) ?_ ?_
    rotate_left
    · intro w'
      go_simp
      with_reducible rfl
    rotate_left
    · simp only [Act.put, List.setIfInBounds_toArray, List.set_cons_zero, List.set_cons_succ, i64_w, i32_w]
      rfl
    refine pure_ (i := 12) (N := some 57) (v := ?_) (a' := ?_) #[true, true, true, true, true, true, true, true, true, true, true, true, true, false, false, false, false, false, false, false, false, false, false, false, false, false, false] rfl rfl (by kernel_rfl) (fun _ _ _ h => h) (Or.inl ⟨by rfl, ?_⟩) ?_ ?_
    rotate_left
    · intro w'
      go_simp
      with_reducible rfl
    rotate_left
    · simp only [Act.put, List.setIfInBounds_toArray, List.set_cons_zero, List.set_cons_succ, i64_w, i32_w]
      rfl
    refine take_ (i := 13) (N := some 58) (v := ?_) (a' := ?_) #[true, true, true, true, true, true, true, true, true, true, true, true, true, true, false, false, false, false, false, false, false, false, false, false, false, false, false] rfl rfl (by kernel_rfl) (fun _ _ _ h => h) (Or.inl ⟨by rfl, ?_⟩) hHeld ?_ ?_
    rotate_left
    · rintro w' ⟨s0, s1, s2, s3, s4, s5, s6, s7, s8, s9, s10, s11⟩
      go_simp
      with_reducible rfl
    rotate_left
    · simp only [Act.put, List.setIfInBounds_toArray, List.set_cons_zero, List.set_cons_succ, i64_w, i32_w]
      rfl
    refine take_ (i := 14) (N := some 59) (v := ?_) (a' := ?_) #[true, true, true, true, true, true, true, true, true, true, true, true, true, true, true, false, false, false, false, false, false, false, false, false, false, false, false] rfl rfl (by kernel_rfl) (fun _ _ _ h => h) (Or.inl ⟨by rfl, ?_⟩) hHeld ?_ ?_
    rotate_left
    · rintro w' ⟨s0, s1, s2, s3, s4, s5, s6, s7, s8, s9, s10, s11⟩
      go_simp
      with_reducible rfl
    rotate_left
    · simp only [Act.put, List.setIfInBounds_toArray, List.set_cons_zero, List.set_cons_succ, i64_w, i32_w]
      rfl
    refine one_ (i := 15) (N := some 60) #[true, true, true, true, true, true, true, true, true, true, true, true, true, true, true, true, false, false, false, false, false, false, false, false, false, false, false] rfl rfl (by kernel_rfl) (by decide) (fun K hK => ?_)
    refine goes_ Tryd.func38 (by kernel_rfl) rfl #[.agg #[.int .i64 z.d, .int .i64 z.l, .int .i64 z.k], .agg #[.int .i64 z.d, .int .i64 z.l, .int .i64 z.k]] (by rfl) rfl rfl (by simp only [List.map_toArray, List.map_cons, List.map_nil]; rfl) ?_
    with_reducible refine (same_c z z true (by simp) _).mono ?_
    rintro e W11 ⟨rfl, hb11⟩
    refine ⟨_, rfl, ?_⟩
    have p11_t0 := keepc hb11 p10_t0
    have p11_t1 := keepc hb11 p10_t1
    have p11_t2 := keepc hb11 p10_t2
    have p11_b0 := keepc hb11 p10_b0
    have p11_b1 := keepc hb11 p10_b1
    have p11_b2 := keepc hb11 p10_b2
    have p11_j0 := keepc hb11 p10_j0
    have p11_j1 := keepc hb11 p10_j1
    have p11_j2 := keepc hb11 p10_j2
    have p11_v0 := keepc hb11 p10_v0
    have p11_v1_ := keepc hb11 p10_v1_
    have p11_v2_ := keepc hb11 p10_v2_
    have p11_r0 := keepc hb11 p10_r0
    have p11_r1 := keepc hb11 p10_r1
    have p11_r2 := keepc hb11 p10_r2
    have hB11 := blkb hb11 hB10
    have hfz11 : ∀ k, W11.frozen? ⟨rb, k, none⟩ = false := fun k => frozen_of_row W11 rb k _ _ hB11
    refine hK.out _ _ ⟨p11_t0, p11_t1, p11_t2, p11_b0, p11_b1, p11_b2, p11_j0, p11_j1, p11_j2, p11_v0, p11_v1_, p11_v2_⟩ (fun hHeld => ?_)
    clear hK K
    refine norm_ (a' := ?_) ?_ ?_
    rotate_left
    · show Act.put _ (some 60) _ = _
      simp only [Act.put, List.setIfInBounds_toArray, List.set_cons_zero, List.set_cons_succ, i64_w, i32_w]
      rfl
    refine pure_ (i := 16) (N := some 61) (v := ?_) (a' := ?_) #[true, true, true, true, true, true, true, true, true, true, true, true, true, true, true, true, true, false, false, false, false, false, false, false, false, false, false] rfl rfl (by kernel_rfl) (fun _ _ _ h => h) (Or.inl ⟨by rfl, ?_⟩) ?_ ?_
    rotate_left
    · intro w'
      go_simp
      with_reducible rfl
    rotate_left
    · simp only [Act.put, List.setIfInBounds_toArray, List.set_cons_zero, List.set_cons_succ, i64_w, i32_w]
      rfl
    refine pure_ (i := 17) (N := some 62) (v := ?_) (a' := ?_) #[true, true, true, true, true, true, true, true, true, true, true, true, true, true, true, true, true, true, false, false, false, false, false, false, false, false, false] rfl rfl (by kernel_rfl) (fun _ _ _ h => h) (Or.inl ⟨by rfl, ?_⟩) ?_ ?_
    rotate_left
    · intro w'
      go_simp
      with_reducible rfl
    rotate_left
    · simp only [Act.put, List.setIfInBounds_toArray, List.set_cons_zero, List.set_cons_succ, i64_w, i32_w]
      rfl
    refine pure_ (i := 18) (N := some 63) (v := ?_) (a' := ?_) #[true, true, true, true, true, true, true, true, true, true, true, true, true, true, true, true, true, true, true, false, false, false, false, false, false, false, false] rfl rfl (by kernel_rfl) (fun _ _ _ h => h) (Or.inl ⟨by rfl, ?_⟩) ?_ ?_
    rotate_left
    · intro w'
      go_simp
      with_reducible rfl
    rotate_left
    · simp only [Act.put, List.setIfInBounds_toArray, List.set_cons_zero, List.set_cons_succ, i64_w, i32_w]
      rfl
    refine pure_ (i := 19) (N := some 64) (v := ?_) (a' := ?_) #[true, true, true, true, true, true, true, true, true, true, true, true, true, true, true, true, true, true, true, true, false, false, false, false, false, false, false] rfl rfl (by kernel_rfl) (fun _ _ _ h => h) (Or.inl ⟨by rfl, ?_⟩) ?_ ?_
    rotate_left
    · intro w'
      go_simp
      with_reducible rfl
    rotate_left
    · simp only [Act.put, List.setIfInBounds_toArray, List.set_cons_zero, List.set_cons_succ, i64_w, i32_w]
      rfl
    refine pure_ (i := 20) (N := some 65) (v := ?_) (a' := ?_) #[true, true, true, true, true, true, true, true, true, true, true, true, true, true, true, true, true, true, true, true, true, false, false, false, false, false, false] rfl rfl (by kernel_rfl) (fun _ _ _ h => h) (Or.inl ⟨by rfl, ?_⟩) ?_ ?_
    rotate_left
    · intro w'
      go_simp
      with_reducible rfl
    rotate_left
    · simp only [Act.put, List.setIfInBounds_toArray, List.set_cons_zero, List.set_cons_succ, i64_w, i32_w]
      rfl
    refine pure_ (i := 21) (N := some 66) (v := ?_) (a' := ?_) #[true, true, true, true, true, true, true, true, true, true, true, true, true, true, true, true, true, true, true, true, true, true, false, false, false, false, false] rfl rfl (by kernel_rfl) (fun _ _ _ h => h) (Or.inl ⟨by rfl, ?_⟩) ?_ ?_
    rotate_left
    · intro w'
      go_simp
      with_reducible rfl
    rotate_left
    · simp only [Act.put, List.setIfInBounds_toArray, List.set_cons_zero, List.set_cons_succ, i64_w, i32_w]
      rfl
    refine pure_ (i := 22) (N := some 67) (v := ?_) (a' := ?_) #[true, true, true, true, true, true, true, true, true, true, true, true, true, true, true, true, true, true, true, true, true, true, true, false, false, false, false] rfl rfl (by kernel_rfl) (fun _ _ _ h => h) (Or.inl ⟨by rfl, ?_⟩) ?_ ?_
    rotate_left
    · intro w'
      go_simp
      with_reducible rfl
    rotate_left
    · simp only [Act.put, List.setIfInBounds_toArray, List.set_cons_zero, List.set_cons_succ, i64_w, i32_w]
      rfl
    refine pure_ (i := 23) (N := some 68) (v := ?_) (a' := ?_) #[true, true, true, true, true, true, true, true, true, true, true, true, true, true, true, true, true, true, true, true, true, true, true, true, false, false, false] rfl rfl (by kernel_rfl) (fun _ _ _ h => h) (Or.inl ⟨by rfl, ?_⟩) ?_ ?_
    rotate_left
    · intro w'
      go_simp
      with_reducible rfl
    rotate_left
    · simp only [Act.put, List.setIfInBounds_toArray, List.set_cons_zero, List.set_cons_succ, i64_w, i32_w]
      rfl
    refine pure_ (i := 24) (N := some 69) (v := ?_) (a' := ?_) #[true, true, true, true, true, true, true, true, true, true, true, true, true, true, true, true, true, true, true, true, true, true, true, true, true, false, false] rfl rfl (by kernel_rfl) (fun _ _ _ h => h) (Or.inl ⟨by rfl, ?_⟩) ?_ ?_
    rotate_left
    · intro w'
      go_simp
      with_reducible rfl
    rotate_left
    · simp only [Act.put, List.setIfInBounds_toArray, List.set_cons_zero, List.set_cons_succ, i64_w, i32_w]
      rfl
    refine last_ (i := 25) (N := none) #[true, true, true, true, true, true, true, true, true, true, true, true, true, true, true, true, true, true, true, true, true, true, true, true, true, true, false] rfl rfl (by kernel_rfl) (by decide) (fun K hK => ?_)
    refine skip_ (w1 := ?_) (by rfl) rfl ?_ ?_
    rotate_left
    · go_simp
      rfl
    refine hK.out _ _ ?_
    clear hK K
    refine pure_ (i := 26) (N := some 5) (v := ?_) (a' := ?_) #[true, true, true, true, true, true, true, true, true, true, true, true, true, true, true, true, true, true, true, true, true, true, true, true, true, true, true] rfl rfl (by kernel_rfl) (fun _ _ _ h => h) (Or.inl ⟨by rfl, ?_⟩) ?_ ?_
    rotate_left
    · intro w'
      go_simp
      with_reducible rfl
    rotate_left
    · simp only [Act.put, List.setIfInBounds_toArray, List.set_cons_zero, List.set_cons_succ, i64_w, i32_w]
      rfl
    refine done_ (by kernel_rfl) ?_

    have hTc : Tn W8 W11 (fun _ => False) := (tn_drew hb10).then_ (Tn.of_below hb11 (fun _ => False)) (fun _ (h : False) => h.elim)
    have HMc := HM8.out.still hTc
    have HRc := HR8.out.kept (.of_tn hTc F4_)
    have hOc := HO8.out.trans (.of_tn hTc F4_)
    obtain ⟨hr9, hT9⟩ := set3 (.pointer (some ⟨qi, 0, none⟩)) (.pointer (some ⟨qt, 0, none⟩)) (.slice A1 Y.length c1) HRc.at_
    have HR9 := Hd.mk hr9
    generalize hW : ((W11.setCell ⟨rb, 0, none⟩ (.pointer (some ⟨qi, 0, none⟩))).setCell ⟨rb, 1, none⟩ (.pointer (some ⟨qt, 0, none⟩))).setCell ⟨rb, 2, none⟩ (.slice A1 Y.length c1) = W9_ at HR9 hT9 ⊢
    clear hW hr9
    have HM9 := Hd.mk (HMc.frame hT9 (fun k h e => HRc.out (by rw [← e]; exact h)) (fun e => NEr0.out e))
    have HO9 : Hd (Out w W9_ F F4_) := ⟨⟨hOc.tn.then_ hT9 (fun q h => .inr (by rw [h]; exact NEt.out.2.2.2.1)), hOc.sub⟩⟩
    go_wp2
    (try simp only [Exit.inBlock, Exit.then])
    refine bodyPost_ret (results_list (rs := [.cell 4 33, .tmp 5]) rfl (by simp) (.cell rb 33 _ (0, 0) _ rfl HR9.out Tryd.underlying33 rfl (by kernel_rfl) (.tmp .nil))) rfl ?_
    exact ⟨F4_, mi, v1, L1, mt, v2, M1, _, Y, rfl, HM9.out, F2.out, HO9.out, F3.out⟩
  · subst ht
    have HE := Hd.mk hs.symm
    have e1 : (n == n) = true := by simp
    have e2 : (s == s) = true := ba_refl s
    clear hs
    go_upto_region 7 with (fail)
    refine start_ (n := 28) (S := fun w' => w'.cell? ⟨tb, 0, none⟩ = some (.pointer (some ⟨qi, 0, none⟩)) ∧ w'.cell? ⟨tb, 1, none⟩ = some (.pointer (some ⟨qt, 0, none⟩)) ∧ w'.cell? ⟨tb, 2, none⟩ = some (.slice A1 Y.length c1) ∧ w'.cell? ⟨kb, 0, none⟩ = some (.int .i64 z.d) ∧ w'.cell? ⟨kb, 1, none⟩ = some (.int .i64 z.l) ∧ w'.cell? ⟨kb, 2, none⟩ = some (.int .i64 z.k) ∧ w'.cell? ⟨jb, 0, none⟩ = some (.int .i64 z.d) ∧ w'.cell? ⟨jb, 1, none⟩ = some (.int .i64 z.l) ∧ w'.cell? ⟨jb, 2, none⟩ = some (.int .i64 z.k) ∧ w'.cell? ⟨wb, 0, none⟩ = some (.int .i64 z.d) ∧ w'.cell? ⟨wb, 1, none⟩ = some (.int .i64 z.l) ∧ w'.cell? ⟨wb, 2, none⟩ = some (.int .i64 z.k)) (ds := [26]) #[false, false, false, false, false, false, false, false, false, false, false, false, false, false, false, false, false, false, false, false, false, false, false, false, false, false, false, false] (by kernel_rfl) rfl rfl ⟨t0, t1, t2, b0, b1, b2, j0, j1, j2, v0, v1_, v2_⟩ (fun hHeld => ?_)
    refine pure_ (i := 1) (N := some 71) (v := ?_) (a' := ?_) #[false, true, false, false, false, false, false, false, false, false, false, false, false, false, false, false, false, false, false, false, false, false, false, false, false, false, false, false] rfl rfl (by kernel_rfl) (fun _ _ _ h => h) (Or.inl ⟨by rfl, ?_⟩) ?_ ?_
    rotate_left
    · intro w'
      go_simp
      with_reducible rfl
    rotate_left
    · simp only [Act.put, List.setIfInBounds_toArray, List.set_cons_zero, List.set_cons_succ, i64_w, i32_w]
      rfl
    refine pure_ (i := 2) (N := some 72) (v := ?_) (a' := ?_) #[false, true, true, false, false, false, false, false, false, false, false, false, false, false, false, false, false, false, false, false, false, false, false, false, false, false, false, false] rfl rfl (by kernel_rfl) (fun _ _ _ h => h) (Or.inl ⟨by rfl, ?_⟩) ?_ ?_
    rotate_left
    · intro w'
      go_simp
      with_reducible rfl
    rotate_left
    · simp only [Act.put, List.setIfInBounds_toArray, List.set_cons_zero, List.set_cons_succ, i64_w, i32_w]
      rfl
    refine pure_ (i := 3) (N := some 73) (v := ?_) (a' := ?_) #[false, true, true, true, false, false, false, false, false, false, false, false, false, false, false, false, false, false, false, false, false, false, false, false, false, false, false, false] rfl rfl (by kernel_rfl) (fun _ _ _ h => h) (Or.inl ⟨by rfl, ?_⟩) ?_ ?_
    rotate_left
    · intro w'
      go_simp
      with_reducible rfl
    rotate_left
    · simp only [Act.put, List.setIfInBounds_toArray, List.set_cons_zero, List.set_cons_succ, i64_w, i32_w]
      rfl
    refine pure_ (i := 4) (N := some 74) (v := ?_) (a' := ?_) #[false, true, true, true, true, false, false, false, false, false, false, false, false, false, false, false, false, false, false, false, false, false, false, false, false, false, false, false] rfl rfl (by kernel_rfl) (fun _ _ _ h => h) (Or.inl ⟨by rfl, ?_⟩) ?_ ?_
    rotate_left
    · intro w'
      go_simp
      with_reducible rfl
    rotate_left
    · simp only [Act.put, List.setIfInBounds_toArray, List.set_cons_zero, List.set_cons_succ, i64_w, i32_w]
      rfl
    refine pure_ (i := 5) (N := some 75) (v := ?_) (a' := ?_) #[false, true, true, true, true, true, false, false, false, false, false, false, false, false, false, false, false, false, false, false, false, false, false, false, false, false, false, false] rfl rfl (by kernel_rfl) (fun _ _ _ h => h) (Or.inl ⟨by rfl, ?_⟩) ?_ ?_
    rotate_left
    · intro w'
      go_simp
      with_reducible rfl
    rotate_left
    · simp only [Act.put, List.setIfInBounds_toArray, List.set_cons_zero, List.set_cons_succ, i64_w, i32_w]
      rfl
    refine take_ (i := 0) (N := some 70) (v := ?_) (a' := ?_) #[true, true, true, true, true, true, false, false, false, false, false, false, false, false, false, false, false, false, false, false, false, false, false, false, false, false, false, false] rfl rfl (by kernel_rfl) (fun _ _ _ h => h) (Or.inl ⟨by rfl, ?_⟩) hHeld ?_ ?_
    rotate_left
    · rintro w' ⟨s0, s1, s2, s3, s4, s5, s6, s7, s8, s9, s10, s11⟩
      go_simp
      with_reducible rfl
    rotate_left
    · simp only [Act.put, List.setIfInBounds_toArray, List.set_cons_zero, List.set_cons_succ, i64_w, i32_w]
      rfl
    refine take_ (i := 6) (N := some 76) (v := ?_) (a' := ?_) #[true, true, true, true, true, true, true, false, false, false, false, false, false, false, false, false, false, false, false, false, false, false, false, false, false, false, false, false] rfl rfl (by kernel_rfl) (fun _ _ _ h => h) (Or.inl ⟨by rfl, ?_⟩) hHeld ?_ ?_
    rotate_left
    · rintro w' ⟨s0, s1, s2, s3, s4, s5, s6, s7, s8, s9, s10, s11⟩
      go_simp
      with_reducible rfl
    rotate_left
    · simp only [Act.put, List.setIfInBounds_toArray, List.set_cons_zero, List.set_cons_succ, i64_w, i32_w]
      rfl
    refine take_ (i := 7) (N := some 77) (v := ?_) (a' := ?_) #[true, true, true, true, true, true, true, true, false, false, false, false, false, false, false, false, false, false, false, false, false, false, false, false, false, false, false, false] rfl rfl (by kernel_rfl) (fun _ _ _ h => h) (Or.inl ⟨by rfl, ?_⟩) hHeld ?_ ?_
    rotate_left
    · rintro w' ⟨s0, s1, s2, s3, s4, s5, s6, s7, s8, s9, s10, s11⟩
      go_simp
      with_reducible rfl
    rotate_left
    · simp only [Act.put, List.setIfInBounds_toArray, List.set_cons_zero, List.set_cons_succ, i64_w, i32_w]
      rfl
    refine one_ (i := 8) (N := some 78) #[true, true, true, true, true, true, true, true, true, false, false, false, false, false, false, false, false, false, false, false, false, false, false, false, false, false, false, false] rfl rfl (by kernel_rfl) (by decide) (fun K hK => ?_)
    refine goes_ Tryd.func38 (by kernel_rfl) rfl #[.agg #[.int .i64 z.d, .int .i64 z.l, .int .i64 z.k], .agg #[.int .i64 z.d, .int .i64 z.l, .int .i64 z.k]] (by rfl) rfl rfl (by simp only [List.map_toArray, List.map_cons, List.map_nil]; rfl) ?_
    with_reducible refine (same_c z z true (by simp) _).mono ?_
    rintro e W10 ⟨rfl, hb10⟩
    refine ⟨_, rfl, ?_⟩
    have p10_t0 := keepc hb10 t0
    have p10_t1 := keepc hb10 t1
    have p10_t2 := keepc hb10 t2
    have p10_b0 := keepc hb10 b0
    have p10_b1 := keepc hb10 b1
    have p10_b2 := keepc hb10 b2
    have p10_j0 := keepc hb10 j0
    have p10_j1 := keepc hb10 j1
    have p10_j2 := keepc hb10 j2
    have p10_v0 := keepc hb10 v0
    have p10_v1_ := keepc hb10 v1_
    have p10_v2_ := keepc hb10 v2_
    have p10_r0 := keepc hb10 r0
    have p10_r1 := keepc hb10 r1
    have p10_r2 := keepc hb10 r2
    have hB10 := blkb hb10 HR8.out.at_
    refine hK.out _ _ ⟨p10_t0, p10_t1, p10_t2, p10_b0, p10_b1, p10_b2, p10_j0, p10_j1, p10_j2, p10_v0, p10_v1_, p10_v2_⟩ (fun hHeld => ?_)
    clear hK K
    refine norm_ (a' := ?_) ?_ ?_
    rotate_left
    · show Act.put _ (some 78) _ = _
      simp only [Act.put, List.setIfInBounds_toArray, List.set_cons_zero, List.set_cons_succ, i64_w, i32_w]
      rfl
    refine pure_ (i := 9) (N := some 79) (v := ?_) (a' := ?_) #[true, true, true, true, true, true, true, true, true, true, false, false, false, false, false, false, false, false, false, false, false, false, false, false, false, false, false, false] rfl rfl (by kernel_rfl) (fun _ _ _ h => h) (Or.inl ⟨by rfl, ?_⟩) ?_ ?_
    rotate_left
    · intro w'
      go_simp
      with_reducible rfl
    rotate_left
    · simp only [Act.put, List.setIfInBounds_toArray, List.set_cons_zero, List.set_cons_succ, i64_w, i32_w]
      rfl
    refine pure_ (i := 10) (N := some 80) (v := ?_) (a' := ?_) #[true, true, true, true, true, true, true, true, true, true, true, false, false, false, false, false, false, false, false, false, false, false, false, false, false, false, false, false] rfl rfl (by kernel_rfl) (fun _ _ _ h => h) (Or.inl ⟨by rfl, ?_⟩) ?_ ?_
    rotate_left
    · intro w'
      go_simp
      with_reducible rfl
    rotate_left
    · simp only [Act.put, List.setIfInBounds_toArray, List.set_cons_zero, List.set_cons_succ, i64_w, i32_w]
      rfl
    refine take_ (i := 11) (N := some 81) (v := ?_) (a' := ?_) #[true, true, true, true, true, true, true, true, true, true, true, true, false, false, false, false, false, false, false, false, false, false, false, false, false, false, false, false] rfl rfl (by kernel_rfl) (fun _ _ _ h => h) (Or.inl ⟨by rfl, ?_⟩) hHeld ?_ ?_
    rotate_left
    · rintro w' ⟨s0, s1, s2, s3, s4, s5, s6, s7, s8, s9, s10, s11⟩
      go_simp
      with_reducible rfl
    rotate_left
    · simp only [Act.put, List.setIfInBounds_toArray, List.set_cons_zero, List.set_cons_succ, i64_w, i32_w]
      rfl
    refine take_ (i := 12) (N := some 82) (v := ?_) (a' := ?_) #[true, true, true, true, true, true, true, true, true, true, true, true, true, false, false, false, false, false, false, false, false, false, false, false, false, false, false, false] rfl rfl (by kernel_rfl) (fun _ _ _ h => h) (Or.inl ⟨by rfl, ?_⟩) hHeld ?_ ?_
    rotate_left
    · rintro w' ⟨s0, s1, s2, s3, s4, s5, s6, s7, s8, s9, s10, s11⟩
      go_simp
      with_reducible rfl
    rotate_left
    · simp only [Act.put, List.setIfInBounds_toArray, List.set_cons_zero, List.set_cons_succ, i64_w, i32_w]
      rfl
    refine one_ (i := 13) (N := some 83) #[true, true, true, true, true, true, true, true, true, true, true, true, true, true, false, false, false, false, false, false, false, false, false, false, false, false, false, false] rfl rfl (by kernel_rfl) (by decide) (fun K hK => ?_)
    refine goes_ Tryd.func38 (by kernel_rfl) rfl #[.agg #[.int .i64 z.d, .int .i64 z.l, .int .i64 z.k], .agg #[.int .i64 z.d, .int .i64 z.l, .int .i64 z.k]] (by rfl) rfl rfl (by simp only [List.map_toArray, List.map_cons, List.map_nil]; rfl) ?_
    with_reducible refine (same_c z z true (by simp) _).mono ?_
    rintro e W11 ⟨rfl, hb11⟩
    refine ⟨_, rfl, ?_⟩
    have p11_t0 := keepc hb11 p10_t0
    have p11_t1 := keepc hb11 p10_t1
    have p11_t2 := keepc hb11 p10_t2
    have p11_b0 := keepc hb11 p10_b0
    have p11_b1 := keepc hb11 p10_b1
    have p11_b2 := keepc hb11 p10_b2
    have p11_j0 := keepc hb11 p10_j0
    have p11_j1 := keepc hb11 p10_j1
    have p11_j2 := keepc hb11 p10_j2
    have p11_v0 := keepc hb11 p10_v0
    have p11_v1_ := keepc hb11 p10_v1_
    have p11_v2_ := keepc hb11 p10_v2_
    have p11_r0 := keepc hb11 p10_r0
    have p11_r1 := keepc hb11 p10_r1
    have p11_r2 := keepc hb11 p10_r2
    have hB11 := blkb hb11 hB10
    refine hK.out _ _ ⟨p11_t0, p11_t1, p11_t2, p11_b0, p11_b1, p11_b2, p11_j0, p11_j1, p11_j2, p11_v0, p11_v1_, p11_v2_⟩ (fun hHeld => ?_)
    clear hK K
    refine norm_ (a' := ?_) ?_ ?_
    rotate_left
    · show Act.put _ (some 83) _ = _
      simp only [Act.put, List.setIfInBounds_toArray, List.set_cons_zero, List.set_cons_succ, i64_w, i32_w]
      rfl
    refine pure_ (i := 14) (N := some 84) (v := ?_) (a' := ?_) #[true, true, true, true, true, true, true, true, true, true, true, true, true, true, true, false, false, false, false, false, false, false, false, false, false, false, false, false] rfl rfl (by kernel_rfl) (fun _ _ _ h => h) (Or.inl ⟨by rfl, ?_⟩) ?_ ?_
    rotate_left
    · intro w'
      go_simp
      with_reducible rfl
    rotate_left
    · simp only [Act.put, List.setIfInBounds_toArray, List.set_cons_zero, List.set_cons_succ, i64_w, i32_w]
      rfl
    refine pure_ (i := 15) (N := some 85) (v := ?_) (a' := ?_) #[true, true, true, true, true, true, true, true, true, true, true, true, true, true, true, true, false, false, false, false, false, false, false, false, false, false, false, false] rfl rfl (by kernel_rfl) (fun _ _ _ h => h) (Or.inl ⟨by rfl, ?_⟩) ?_ ?_
    rotate_left
    · intro w'
      go_simp
      with_reducible rfl
    rotate_left
    · simp only [Act.put, List.setIfInBounds_toArray, List.set_cons_zero, List.set_cons_succ, i64_w, i32_w]
      rfl
    refine pure_ (i := 16) (N := some 86) (v := ?_) (a' := ?_) #[true, true, true, true, true, true, true, true, true, true, true, true, true, true, true, true, true, false, false, false, false, false, false, false, false, false, false, false] rfl rfl (by kernel_rfl) (fun _ _ _ h => h) (Or.inl ⟨by rfl, ?_⟩) ?_ ?_
    rotate_left
    · intro w'
      go_simp
      with_reducible rfl
    rotate_left
    · simp only [Act.put, List.setIfInBounds_toArray, List.set_cons_zero, List.set_cons_succ, i64_w, i32_w]
      rfl
    refine pure_ (i := 17) (N := some 87) (v := ?_) (a' := ?_) #[true, true, true, true, true, true, true, true, true, true, true, true, true, true, true, true, true, true, false, false, false, false, false, false, false, false, false, false] rfl rfl (by kernel_rfl) (fun _ _ _ h => h) (Or.inl ⟨by rfl, ?_⟩) ?_ ?_
    rotate_left
    · intro w'
      go_simp
      with_reducible rfl
    rotate_left
    · simp only [Act.put, List.setIfInBounds_toArray, List.set_cons_zero, List.set_cons_succ, i64_w, i32_w]
      rfl
    refine pure_ (i := 18) (N := some 88) (v := ?_) (a' := ?_) #[true, true, true, true, true, true, true, true, true, true, true, true, true, true, true, true, true, true, true, false, false, false, false, false, false, false, false, false] rfl rfl (by kernel_rfl) (fun _ _ _ h => h) (Or.inl ⟨by rfl, ?_⟩) ?_ ?_
    rotate_left
    · intro w'
      go_simp
      with_reducible rfl
    rotate_left
    · simp only [Act.put, List.setIfInBounds_toArray, List.set_cons_zero, List.set_cons_succ, i64_w, i32_w]
      rfl
    refine pure_ (i := 19) (N := some 89) (v := ?_) (a' := ?_) #[true, true, true, true, true, true, true, true, true, true, true, true, true, true, true, true, true, true, true, true, false, false, false, false, false, false, false, false] rfl rfl (by kernel_rfl) (fun _ _ _ h => h) (Or.inl ⟨by rfl, ?_⟩) ?_ ?_
    rotate_left
    · intro w'
      go_simp
      with_reducible rfl
    rotate_left
    · simp only [Act.put, List.setIfInBounds_toArray, List.set_cons_zero, List.set_cons_succ, i64_w, i32_w]
      rfl
    refine pure_ (i := 20) (N := some 90) (v := ?_) (a' := ?_) #[true, true, true, true, true, true, true, true, true, true, true, true, true, true, true, true, true, true, true, true, true, false, false, false, false, false, false, false] rfl rfl (by kernel_rfl) (fun _ _ _ h => h) (Or.inl ⟨by rfl, ?_⟩) ?_ ?_
    rotate_left
    · intro w'
      go_simp
      with_reducible rfl
    rotate_left
    · simp only [Act.put, List.setIfInBounds_toArray, List.set_cons_zero, List.set_cons_succ, i64_w, i32_w]
      rfl
    refine pure_ (i := 21) (N := some 91) (v := ?_) (a' := ?_) #[true, true, true, true, true, true, true, true, true, true, true, true, true, true, true, true, true, true, true, true, true, true, false, false, false, false, false, false] rfl rfl (by kernel_rfl) (fun _ _ _ h => h) (Or.inl ⟨by rfl, ?_⟩) ?_ ?_
    rotate_left
    · intro w'
      go_simp
      with_reducible rfl
    rotate_left
    · simp only [Act.put, List.setIfInBounds_toArray, List.set_cons_zero, List.set_cons_succ, i64_w, i32_w]
      rfl
    refine pure_ (i := 22) (N := some 92) (v := ?_) (a' := ?_) #[true, true, true, true, true, true, true, true, true, true, true, true, true, true, true, true, true, true, true, true, true, true, true, false, false, false, false, false] rfl rfl (by kernel_rfl) (fun _ _ _ h => h) (Or.inl ⟨by rfl, ?_⟩) ?_ ?_
    rotate_left
    · intro w'
      go_simp
      with_reducible rfl
    rotate_left
    · simp only [Act.put, List.setIfInBounds_toArray, List.set_cons_zero, List.set_cons_succ, i64_w, i32_w]
      rfl
    refine one_ (i := 23) (N := some 93) #[true, true, true, true, true, true, true, true, true, true, true, true, true, true, true, true, true, true, true, true, true, true, true, true, false, false, false, false] rfl rfl (by kernel_rfl) (by decide) (fun K hK => ?_)
    refine goes_ Tryd.func15 (by kernel_rfl) rfl #[.int .i64 n] (by rfl) rfl rfl (by simp only [List.map_toArray, List.map_cons, List.map_nil]; rfl) ?_
    with_reducible refine (word_s n s hn1 hn2 HE.out _ (pw_b hb11 (pw_b hb10 HPW.out))).mono ?_
    rintro e W12 ⟨rfl, hb12⟩
    refine ⟨_, rfl, ?_⟩
    have p12_t0 := keept hb12 p11_t0
    have p12_t1 := keept hb12 p11_t1
    have p12_t2 := keept hb12 p11_t2
    have p12_b0 := keept hb12 p11_b0
    have p12_b1 := keept hb12 p11_b1
    have p12_b2 := keept hb12 p11_b2
    have p12_j0 := keept hb12 p11_j0
    have p12_j1 := keept hb12 p11_j1
    have p12_j2 := keept hb12 p11_j2
    have p12_v0 := keept hb12 p11_v0
    have p12_v1_ := keept hb12 p11_v1_
    have p12_v2_ := keept hb12 p11_v2_
    have p12_r0 := keept hb12 p11_r0
    have p12_r1 := keept hb12 p11_r1
    have p12_r2 := keept hb12 p11_r2
    have hB12 := blkt hb12 hB11
    have hfz12 : ∀ k, W12.frozen? ⟨rb, k, none⟩ = false := fun k => frozen_of_row W12 rb k _ _ hB12
    refine hK.out _ _ ⟨p12_t0, p12_t1, p12_t2, p12_b0, p12_b1, p12_b2, p12_j0, p12_j1, p12_j2, p12_v0, p12_v1_, p12_v2_⟩ (fun hHeld => ?_)
    clear hK K
    refine norm_ (a' := ?_) ?_ ?_
    rotate_left
    · show Act.put _ (some 93) _ = _
      simp only [Act.put, List.setIfInBounds_toArray, List.set_cons_zero, List.set_cons_succ, i64_w, i32_w]
      rfl
    refine pure_ (i := 24) (N := some 94) (v := ?_) (a' := ?_) #[true, true, true, true, true, true, true, true, true, true, true, true, true, true, true, true, true, true, true, true, true, true, true, true, true, false, false, false] rfl rfl (by kernel_rfl) (fun _ _ _ h => h) (Or.inl ⟨by rfl, ?_⟩) ?_ ?_
    rotate_left
    · intro w'
      go_simp
      with_reducible rfl
    rotate_left
    · simp only [Act.put, List.setIfInBounds_toArray, List.set_cons_zero, List.set_cons_succ, i64_w, i32_w]
      rfl
    refine pure_ (i := 25) (N := some 95) (v := ?_) (a' := ?_) #[true, true, true, true, true, true, true, true, true, true, true, true, true, true, true, true, true, true, true, true, true, true, true, true, true, true, false, false] rfl rfl (by kernel_rfl) (fun _ _ _ h => h) (Or.inl ⟨by rfl, ?_⟩) ?_ ?_
    rotate_left
    · intro w'
      go_simp
      with_reducible rfl
    rotate_left
    · simp only [Act.put, List.setIfInBounds_toArray, List.set_cons_zero, List.set_cons_succ, i64_w, i32_w]
      rfl
    refine last_ (i := 26) (N := none) #[true, true, true, true, true, true, true, true, true, true, true, true, true, true, true, true, true, true, true, true, true, true, true, true, true, true, true, false] rfl rfl (by kernel_rfl) (by decide) (fun K hK => ?_)
    refine skip_ (w1 := ?_) (by rfl) rfl ?_ ?_
    rotate_left
    · go_simp
      rfl
    refine hK.out _ _ ?_
    clear hK K
    refine pure_ (i := 27) (N := some 5) (v := ?_) (a' := ?_) #[true, true, true, true, true, true, true, true, true, true, true, true, true, true, true, true, true, true, true, true, true, true, true, true, true, true, true, true] rfl rfl (by kernel_rfl) (fun _ _ _ h => h) (Or.inl ⟨by rfl, ?_⟩) ?_ ?_
    rotate_left
    · intro w'
      go_simp
      with_reducible rfl
    rotate_left
    · simp only [Act.put, List.setIfInBounds_toArray, List.set_cons_zero, List.set_cons_succ, i64_w, i32_w]
      rfl
    refine done_ (by kernel_rfl) ?_

    have hTc : Tn W8 W12 (fun _ => False) := ((tn_drew hb10).then_ (Tn.of_below hb11 (fun _ => False)) (fun _ (h : False) => h.elim)).then_ hb12 (fun _ (h : False) => h.elim)
    have HMc := HM8.out.still hTc
    have HRc := HR8.out.kept (.of_tn hTc F4_)
    have hOc := HO8.out.trans (.of_tn hTc F4_)
    obtain ⟨hr9, hT9⟩ := set3 (.pointer (some ⟨qi, 0, none⟩)) (.pointer (some ⟨qt, 0, none⟩)) (.slice A1 Y.length c1) HRc.at_
    have HR9 := Hd.mk hr9
    generalize hW : ((W12.setCell ⟨rb, 0, none⟩ (.pointer (some ⟨qi, 0, none⟩))).setCell ⟨rb, 1, none⟩ (.pointer (some ⟨qt, 0, none⟩))).setCell ⟨rb, 2, none⟩ (.slice A1 Y.length c1) = W9_ at HR9 hT9 ⊢
    clear hW hr9
    have HM9 := Hd.mk (HMc.frame hT9 (fun k h e => HRc.out (by rw [← e]; exact h)) (fun e => NEr0.out e))
    have HO9 : Hd (Out w W9_ F F4_) := ⟨⟨hOc.tn.then_ hT9 (fun q h => .inr (by rw [h]; exact NEt.out.2.2.2.1)), hOc.sub⟩⟩
    go_wp2
    (try simp only [Exit.inBlock, Exit.then])
    refine bodyPost_ret (results_list (rs := [.cell 4 33, .tmp 5]) rfl (by simp) (.cell rb 33 _ (0, 0) _ rfl HR9.out Tryd.underlying33 rfl (by kernel_rfl) (.tmp .nil))) rfl ?_
    exact ⟨F4_, mi, v1, L1, mt, v2, M1, _, Y, rfl, HM9.out, F2.out, HO9.out, F3.out⟩
end Go.Proofs.YtkbbngkfncbgkaaDoor.UPops
