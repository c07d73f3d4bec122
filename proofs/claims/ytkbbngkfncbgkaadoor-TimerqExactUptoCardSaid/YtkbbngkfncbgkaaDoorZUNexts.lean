/- arrearslaw11.nexts: of three holders of one list it says true. Condition: the list is not beyond all memory. -/
import Derived.Test.YtkbbngkfncbgkaaDoorZUGets
namespace Go.Proofs.YtkbbngkfncbgkaaDoor.UNexts
open Go.RowKit Go.Proofs.YtkbbngkfncbgkaaDoor.IQHeap Go.Proofs.YtkbbngkfncbgkaaDoor.UPlain Go.Proofs.YtkbbngkfncbgkaaDoor.URel Go.Proofs.YtkbbngkfncbgkaaDoor.URef Go.Proofs.YtkbbngkfncbgkaaDoor.UTrio Go.Proofs.YtkbbngkfncbgkaaDoorW.PrintWords Go.Proofs.YtkbbngkfncbgkaaDoorW.PrintLast Go.Proofs.YtkbbngkfncbgkaaDoorW.PrintMore Go.Proofs.YtkbbngkfncbgkaaDoor.UWord Go.Proofs.YtkbbngkfncbgkaaDoor.PA
open Go.Proofs.YtkbbngkfncbgkaaDoor.IQWords (Ky KyOk Tn QS Hd)
set_option linter.unusedVariables false
set_option linter.unusedSimpArgs false
theorem lenI (n : Nat) (qb mb : Nat) (v : Value) (L : List (Ky × Int)) (w : World) (hQ : QS w qb v mb L) (hn : L.length = n) : Calls Tryd.prog 39 #[.pointer (some ⟨qb, 0, none⟩)] w fun e w' => e = .returned (.int .i64 n) ∧ w' = w := by
  subst hn
  exact Go.Proofs.YtkbbngkfncbgkaaDoor.IQGet.len_calls qb mb v L w hQ
theorem lenT (n : Nat) (qb mb : Nat) (v : Value) (L : List (Ky × ByteArray)) (w : World) (hQ : Go.Proofs.YtkbbngkfncbgkaaDoor.TQWords.QS w qb v mb L) (hn : L.length = n) : Calls Tryd.prog 40 #[.pointer (some ⟨qb, 0, none⟩)] w fun e w' => e = .returned (.int .i64 n) ∧ w' = w := by
  subst hn
  exact Go.Proofs.YtkbbngkfncbgkaaDoor.TQGet.len_calls qb mb v L w hQ
theorem same_c (a b : Ky) (t : Bool) (h : decide (a = b) = t) (w : World) : Calls Tryd.prog 38 #[.agg #[.int .i64 a.d, .int .i64 a.l, .int .i64 a.k], .agg #[.int .i64 b.d, .int .i64 b.l, .int .i64 b.k]] w fun e w' => e = .returned (.bool t) ∧ Below w.heap.size w w' :=
  arrearslaw11_same.calls a.d a.l a.k b.d b.l b.k t w (by rw [← h]; exact same2_is a b)
theorem head_facts {L : List (Ky × Int)} {M : List (Ky × ByteArray)} {X : List (Ky × Int)} (h : Same L M X) : ∃ (z : Ky) (t : Bool), decide (0 < L.length) = t ∧ (at_ Go.Proofs.YtkbbngkfncbgkaaDoor.IQWords.d0 L 0).1 = z ∧ decide (0 < M.length) = t ∧ (at_ Go.Proofs.YtkbbngkfncbgkaaDoor.TQWords.d0 M 0).1 = z ∧ ((t = true ∧ ∃ y r, X = y :: r ∧ y.1 = z) ∨ (t = false ∧ X = [] ∧ (⟨0, 0, 0⟩ : Ky) = z)) := by
  have h1 := h.i.len
  have h2 := h.t.len
  rw [List.length_map] at h2
  match X, h, h1, h2 with
  | [], h, h1, h2 =>
    have e1 : L = [] := List.eq_nil_of_length_eq_zero h1
    have e2 : M = [] := List.eq_nil_of_length_eq_zero h2
    subst e1 e2
    exact ⟨⟨0, 0, 0⟩, false, rfl, rfl, rfl, rfl, .inr ⟨rfl, rfl, rfl⟩⟩
  | y :: r, h, h1, h2 =>
    have e1 := h.i.head (fun _ _ => rfl) Go.Proofs.YtkbbngkfncbgkaaDoor.IQOrd.wo
    have e2 := Rel.head (fun _ _ => rfl) Go.Proofs.YtkbbngkfncbgkaaDoor.TQOrd.wo (show Rel _ _ M (tw wd y :: r.map (tw wd)) from h.t)
    exact ⟨y.1, true, decide_eq_true (by rw [h1]; simp), by rw [e1], decide_eq_true (by rw [h2]; simp), by rw [e2]; rfl, .inl ⟨rfl, y, r, rfl, rfl⟩⟩
theorem rl_cells {B : Nat} {w : World} {A : Option Addr} {n c : Nat} {y : Ky × Int} {r : List (Ky × Int)} (h : RL B w (.slice A n c) (y :: r)) : ∃ g, A = some ⟨g, 0, none⟩ ∧ w.cell? ⟨g, 0, none⟩ = some (.int .i64 y.1.d) ∧ w.cell? ⟨g, 1, none⟩ = some (.int .i64 y.1.l) ∧ w.cell? ⟨g, 2, none⟩ = some (.int .i64 y.1.k) := by
  obtain ⟨g, cap, e, _⟩ := Kd.R_form h (by simp)
  injection e with e _ _
  subst e
  have hC := (Kd.R_reads' h).2.2
  obtain ⟨ad, ea, h0, h1, h2, _⟩ := at_T76 hC 0 (Int.le_refl _) (by simp)
  injection ea with ea
  subst ea
  exact ⟨g, rfl, h0, h1, h2⟩
set_option maxHeartbeats 8000000 in
set_option maxRecDepth 1000000 in
theorem nexts_calls (B : Nat) (F : Nat → Prop) (qi mi : Nat) (vi : Value) (L : List (Ky × Int)) (qt mt : Nat) (vt : Value) (M : List (Ky × ByteArray)) (u : Value) (X : List (Ky × Int)) (w : World) (hM : TM B w F qi mi vi L qt mt vt M u X) (hS : Same L M X) (hx : X.length + 1 < 2950000000000) :
    Calls Tryd.prog 23 #[.agg #[.pointer (some ⟨qi, 0, none⟩), .pointer (some ⟨qt, 0, none⟩), u]] w fun e w' => e = .returned (.bool true) ∧ Tn w w' (fun _ => False) := by
  obtain ⟨A, c, rfl⟩ := hM.r.form
  obtain ⟨hM1, hX1, hT1⟩ := TM.box1 hM #[.pointer (some ⟨qi, 0, none⟩), .pointer (some ⟨qt, 0, none⟩), .slice A X.length c] 33
  have HM1 := Hd.mk hM1
  have HX1 := Hd.mk hX1
  have HT1 := Hd.mk hT1
  obtain ⟨z, t, f1, f2, f3, f4, f5⟩ := head_facts hS
  have F1 := Hd.mk f1
  have F2 := Hd.mk f2
  have F3 := Hd.mk f3
  have F4 := Hd.mk f4
  have F5 := Hd.mk f5
  have HL : Hd (L.length = X.length) := ⟨hS.i.len⟩
  have HN : Hd (M.length = X.length) := ⟨by rw [hS.t.len, List.length_map]⟩
  clear hM hM1 hX1 hT1 hS f1 f2 f3 f4 f5
  go_enter Tryd.func23, Tryd.ntmps23
  go_upto_region 1 with (fail)
  obtain ⟨tb, htb⟩ : ∃ tb, w.heap.size = tb := ⟨_, rfl⟩
  rw [htb] at HX1 ⊢
  generalize hW : w.alloc (.cells #[.pointer (some ⟨qi, 0, none⟩), .pointer (some ⟨qt, 0, none⟩), .slice A X.length c] 33) = W1 at HM1 HX1 HT1 ⊢
  clear hW htb
  have t0 : W1.cell? ⟨tb, 0, none⟩ = some (.pointer (some ⟨qi, 0, none⟩)) := cell_of_row W1 tb 0 _ _ (0, 0) HX1.out.at_
  have t1 : W1.cell? ⟨tb, 1, none⟩ = some (.pointer (some ⟨qt, 0, none⟩)) := cell_of_row W1 tb 1 _ _ (0, 0) HX1.out.at_
  have t2 : W1.cell? ⟨tb, 2, none⟩ = some (.slice A X.length c) := cell_of_row W1 tb 2 _ _ (0, 0) HX1.out.at_
  go_upto_region 2 with (first | (go_at_call 36; refine (Go.Proofs.YtkbbngkfncbgkaaDoor.IQCanc.next_aux qi mi vi L _ HM1.out.i t z F1.out F2.out).mono ?_; rintro e W2 ⟨rfl, hT2⟩; have HM2 := Hd.mk (HM1.out.still hT2); have HX2 := Hd.mk (HX1.out.kept (.of_tn hT2 _)); have HT2 := Hd.mk (HT1.out.then_ hT2 (fun _ h => h.elim)); clear hT2 t0 t1 t2; have t0 : W2.cell? ⟨tb, 0, none⟩ = some (.pointer (some ⟨qi, 0, none⟩)) := cell_of_row W2 tb 0 _ _ (0, 0) HX2.out.at_; have t1 : W2.cell? ⟨tb, 1, none⟩ = some (.pointer (some ⟨qt, 0, none⟩)) := cell_of_row W2 tb 1 _ _ (0, 0) HX2.out.at_; have t2 : W2.cell? ⟨tb, 2, none⟩ = some (.slice A X.length c) := cell_of_row W2 tb 2 _ _ (0, 0) HX2.out.at_))
  obtain ⟨hM3, hHK3, hT3⟩ := TM.box1 HM2.out #[.int .i64 z.d, .int .i64 z.l, .int .i64 z.k] 24
  have HM3 := Hd.mk hM3
  have HK3 := Hd.mk hHK3
  have HX3 := Hd.mk (HX2.out.kept (.of_tn hT3 _))
  have HT3 := Hd.mk (HT2.out.then_ hT3 (fun _ h => h.elim))
  have NEkb : Hd (0 ≠ W2.heap.size ∧ w.heap.size ≤ W2.heap.size ∧ tb ≠ W2.heap.size) := ⟨by have h0 := PowAt_lt HM2.out.pw; have hz := HT2.out.size; have h1 := (Array.getElem?_eq_some_iff.1 HX2.out.at_).1; omega⟩
  obtain ⟨kb, hkb⟩ : ∃ kb, W2.heap.size = kb := ⟨_, rfl⟩
  rw [hkb] at HK3 NEkb ⊢
  generalize hW : W2.alloc (.cells #[.int .i64 z.d, .int .i64 z.l, .int .i64 z.k] 24) = W3 at HM3 HX3 HK3 HT3 ⊢
  clear hW hkb hM3 hHK3 hT3 t0 t1 t2
  have t0 : W3.cell? ⟨tb, 0, none⟩ = some (.pointer (some ⟨qi, 0, none⟩)) := cell_of_row W3 tb 0 _ _ (0, 0) HX3.out.at_
  have t1 : W3.cell? ⟨tb, 1, none⟩ = some (.pointer (some ⟨qt, 0, none⟩)) := cell_of_row W3 tb 1 _ _ (0, 0) HX3.out.at_
  have t2 : W3.cell? ⟨tb, 2, none⟩ = some (.slice A X.length c) := cell_of_row W3 tb 2 _ _ (0, 0) HX3.out.at_
  have b0 : W3.cell? ⟨kb, 0, none⟩ = some (.int .i64 z.d) := cell_of_row W3 kb 0 _ _ (0, 0) HK3.out.at_
  have b1 : W3.cell? ⟨kb, 1, none⟩ = some (.int .i64 z.l) := cell_of_row W3 kb 1 _ _ (0, 0) HK3.out.at_
  have b2 : W3.cell? ⟨kb, 2, none⟩ = some (.int .i64 z.k) := cell_of_row W3 kb 2 _ _ (0, 0) HK3.out.at_
  go_upto_region 3 with (first | (go_at_call 37; refine (Go.Proofs.YtkbbngkfncbgkaaDoor.TQCanc.next_aux qt mt vt M _ HM3.out.t t z F3.out F4.out).mono ?_; rintro e W4 ⟨rfl, hT4'⟩; have hT4 := tnI hT4'; clear hT4'; have HM4 := Hd.mk (HM3.out.still hT4); have HX4 := Hd.mk (HX3.out.kept (.of_tn hT4 _)); have HK4 := Hd.mk (HK3.out.kept (.of_tn hT4 _)); have HT4 := Hd.mk (HT3.out.then_ hT4 (fun _ h => h.elim)); clear hT4 t0 t1 t2 b0 b1 b2; have t0 : W4.cell? ⟨tb, 0, none⟩ = some (.pointer (some ⟨qi, 0, none⟩)) := cell_of_row W4 tb 0 _ _ (0, 0) HX4.out.at_; have t1 : W4.cell? ⟨tb, 1, none⟩ = some (.pointer (some ⟨qt, 0, none⟩)) := cell_of_row W4 tb 1 _ _ (0, 0) HX4.out.at_; have t2 : W4.cell? ⟨tb, 2, none⟩ = some (.slice A X.length c) := cell_of_row W4 tb 2 _ _ (0, 0) HX4.out.at_; have b0 : W4.cell? ⟨kb, 0, none⟩ = some (.int .i64 z.d) := cell_of_row W4 kb 0 _ _ (0, 0) HK4.out.at_; have b1 : W4.cell? ⟨kb, 1, none⟩ = some (.int .i64 z.l) := cell_of_row W4 kb 1 _ _ (0, 0) HK4.out.at_; have b2 : W4.cell? ⟨kb, 2, none⟩ = some (.int .i64 z.k) := cell_of_row W4 kb 2 _ _ (0, 0) HK4.out.at_))
  obtain ⟨hM5, hHJ5, hT5⟩ := TM.box1 HM4.out #[.int .i64 z.d, .int .i64 z.l, .int .i64 z.k] 24
  have HM5 := Hd.mk hM5
  have HJ5 := Hd.mk hHJ5
  have HX5 := Hd.mk (HX4.out.kept (.of_tn hT5 _))
  have HK5 := Hd.mk (HK4.out.kept (.of_tn hT5 _))
  have HT5 := Hd.mk (HT4.out.then_ hT5 (fun _ h => h.elim))
  have NEjb : Hd (0 ≠ W4.heap.size ∧ w.heap.size ≤ W4.heap.size ∧ tb ≠ W4.heap.size ∧ kb ≠ W4.heap.size) := ⟨by have h0 := PowAt_lt HM4.out.pw; have hz := HT4.out.size; have h1 := (Array.getElem?_eq_some_iff.1 HX4.out.at_).1; have h2 := (Array.getElem?_eq_some_iff.1 HK4.out.at_).1; omega⟩
  obtain ⟨jb, hjb⟩ : ∃ jb, W4.heap.size = jb := ⟨_, rfl⟩
  rw [hjb] at HJ5 NEjb ⊢
  generalize hW : W4.alloc (.cells #[.int .i64 z.d, .int .i64 z.l, .int .i64 z.k] 24) = W5 at HM5 HX5 HK5 HJ5 HT5 ⊢
  clear hW hjb hM5 hHJ5 hT5 t0 t1 t2 b0 b1 b2
  have t0 : W5.cell? ⟨tb, 0, none⟩ = some (.pointer (some ⟨qi, 0, none⟩)) := cell_of_row W5 tb 0 _ _ (0, 0) HX5.out.at_
  have t1 : W5.cell? ⟨tb, 1, none⟩ = some (.pointer (some ⟨qt, 0, none⟩)) := cell_of_row W5 tb 1 _ _ (0, 0) HX5.out.at_
  have t2 : W5.cell? ⟨tb, 2, none⟩ = some (.slice A X.length c) := cell_of_row W5 tb 2 _ _ (0, 0) HX5.out.at_
  have b0 : W5.cell? ⟨kb, 0, none⟩ = some (.int .i64 z.d) := cell_of_row W5 kb 0 _ _ (0, 0) HK5.out.at_
  have b1 : W5.cell? ⟨kb, 1, none⟩ = some (.int .i64 z.l) := cell_of_row W5 kb 1 _ _ (0, 0) HK5.out.at_
  have b2 : W5.cell? ⟨kb, 2, none⟩ = some (.int .i64 z.k) := cell_of_row W5 kb 2 _ _ (0, 0) HK5.out.at_
  have j0 : W5.cell? ⟨jb, 0, none⟩ = some (.int .i64 z.d) := cell_of_row W5 jb 0 _ _ (0, 0) HJ5.out.at_
  have j1 : W5.cell? ⟨jb, 1, none⟩ = some (.int .i64 z.l) := cell_of_row W5 jb 1 _ _ (0, 0) HJ5.out.at_
  have j2 : W5.cell? ⟨jb, 2, none⟩ = some (.int .i64 z.k) := cell_of_row W5 jb 2 _ _ (0, 0) HJ5.out.at_
  go_upto_region 4 with (fail)
  obtain ⟨hM6, hHW6, hT6⟩ := TM.box1 HM5.out #[.int .i64 0, .int .i64 0, .int .i64 0] 24
  have HM6 := Hd.mk hM6
  have HW6 := Hd.mk hHW6
  have HX6 := Hd.mk (HX5.out.kept (.of_tn hT6 _))
  have HK6 := Hd.mk (HK5.out.kept (.of_tn hT6 _))
  have HJ6 := Hd.mk (HJ5.out.kept (.of_tn hT6 _))
  have HT6 := Hd.mk (HT5.out.then_ hT6 (fun _ h => h.elim))
  have NEwb : Hd (0 ≠ W5.heap.size ∧ w.heap.size ≤ W5.heap.size ∧ tb ≠ W5.heap.size ∧ kb ≠ W5.heap.size ∧ jb ≠ W5.heap.size) := ⟨by have h0 := PowAt_lt HM5.out.pw; have hz := HT5.out.size; have h1 := (Array.getElem?_eq_some_iff.1 HX5.out.at_).1; have h2 := (Array.getElem?_eq_some_iff.1 HK5.out.at_).1; have h3 := (Array.getElem?_eq_some_iff.1 HJ5.out.at_).1; omega⟩
  obtain ⟨wb, hwb⟩ : ∃ wb, W5.heap.size = wb := ⟨_, rfl⟩
  rw [hwb] at HW6 NEwb ⊢
  generalize hW : W5.alloc (.cells #[.int .i64 0, .int .i64 0, .int .i64 0] 24) = W6 at HM6 HX6 HK6 HJ6 HW6 HT6 ⊢
  clear hW hwb hM6 hHW6 hT6 t0 t1 t2 b0 b1 b2 j0 j1 j2
  have t0 : W6.cell? ⟨tb, 0, none⟩ = some (.pointer (some ⟨qi, 0, none⟩)) := cell_of_row W6 tb 0 _ _ (0, 0) HX6.out.at_
  have t1 : W6.cell? ⟨tb, 1, none⟩ = some (.pointer (some ⟨qt, 0, none⟩)) := cell_of_row W6 tb 1 _ _ (0, 0) HX6.out.at_
  have t2 : W6.cell? ⟨tb, 2, none⟩ = some (.slice A X.length c) := cell_of_row W6 tb 2 _ _ (0, 0) HX6.out.at_
  have b0 : W6.cell? ⟨kb, 0, none⟩ = some (.int .i64 z.d) := cell_of_row W6 kb 0 _ _ (0, 0) HK6.out.at_
  have b1 : W6.cell? ⟨kb, 1, none⟩ = some (.int .i64 z.l) := cell_of_row W6 kb 1 _ _ (0, 0) HK6.out.at_
  have b2 : W6.cell? ⟨kb, 2, none⟩ = some (.int .i64 z.k) := cell_of_row W6 kb 2 _ _ (0, 0) HK6.out.at_
  have j0 : W6.cell? ⟨jb, 0, none⟩ = some (.int .i64 z.d) := cell_of_row W6 jb 0 _ _ (0, 0) HJ6.out.at_
  have j1 : W6.cell? ⟨jb, 1, none⟩ = some (.int .i64 z.l) := cell_of_row W6 jb 1 _ _ (0, 0) HJ6.out.at_
  have j2 : W6.cell? ⟨jb, 2, none⟩ = some (.int .i64 z.k) := cell_of_row W6 jb 2 _ _ (0, 0) HJ6.out.at_
  have v0 : W6.cell? ⟨wb, 0, none⟩ = some (.int .i64 0) := cell_of_row W6 wb 0 _ _ (0, 0) HW6.out.at_
  have v1 : W6.cell? ⟨wb, 1, none⟩ = some (.int .i64 0) := cell_of_row W6 wb 1 _ _ (0, 0) HW6.out.at_
  have v2 : W6.cell? ⟨wb, 2, none⟩ = some (.int .i64 0) := cell_of_row W6 wb 2 _ _ (0, 0) HW6.out.at_
  rcases F5.out with ⟨ht, y, r, hX, hy⟩ | ⟨ht, hX, hz⟩
  · subst ht hX
    obtain ⟨g, eA, c0, c1, c2⟩ := rl_cells HM6.out.r
    subst eA
    rw [hy] at c0 c1 c2
    obtain ⟨hr8, ht8⟩ := Go.Proofs.YtkbbngkfncbgkaaDoor.IQPop.kset (y0 := .int .i64 z.d) (y1 := .int .i64 z.l) (y2 := .int .i64 z.k) HW6.out.at_
    have hfz : ∀ k, W6.frozen? ⟨wb, k, none⟩ = false := fun k => frozen_of_row W6 wb k _ _ HW6.out.at_
    have hg1 : g ≠ wb := fun e => HW6.out.out (HM6.out.fr wb (by rw [← e]; rfl))
    have hg2 : wb ≠ g := fun e => hg1 e.symm
    have htw1 : tb ≠ wb := NEwb.out.2.2.1
    have htw2 : kb ≠ wb := NEwb.out.2.2.2.1
    have htw3 : jb ≠ wb := NEwb.out.2.2.2.2
    have hT7 := ht8
    have HR := Hd.mk hr8
    have l0 : decide (((y :: r).length : Int) > 0) = true := decide_eq_true (by simp)
    have l1 : (0 : Int) < ((y :: r).length : Int) := by simp
    have l2 : (((y :: r).length : Int) == ((y :: r).length : Int)) = true := by simp
    clear hr8 ht8 hy
    go_upto_region 6 with (fail)
    generalize hW : ((W6.setCell ⟨wb, 0, none⟩ (.int .i64 z.d)).setCell ⟨wb, 1, none⟩ (.int .i64 z.l)).setCell ⟨wb, 2, none⟩ (.int .i64 z.k) = W7 at HR hT7 ⊢
    have HM7 := Hd.mk (HM6.out.frame hT7 (fun k h e => HW6.out.out (by rw [← e]; exact h)) (fun e => NEwb.out.1 e))
    have HX7 : Hd (Bx W7 F tb _) := ⟨⟨hT7.blk HX6.out.at_ htw1, HX6.out.out⟩⟩
    have HK7 : Hd (Bx W7 F kb _) := ⟨⟨hT7.blk HK6.out.at_ htw2, HK6.out.out⟩⟩
    have HJ7 : Hd (Bx W7 F jb _) := ⟨⟨hT7.blk HJ6.out.at_ htw3, HJ6.out.out⟩⟩
    have HW7 : Hd (Bx W7 F wb _) := ⟨⟨HR.out, HW6.out.out⟩⟩
    have HT7 := Hd.mk (HT6.out.then_ hT7 (fun q h => .inr (by rw [h]; exact NEwb.out.2.1)))
    clear hW c0 c1 c2 hfz hT7 HR t0 t1 t2 b0 b1 b2 j0 j1 j2 v0 v1 v2
    have t0 : W7.cell? ⟨tb, 0, none⟩ = some (.pointer (some ⟨qi, 0, none⟩)) := cell_of_row W7 tb 0 _ _ (0, 0) HX7.out.at_
    have t1 : W7.cell? ⟨tb, 1, none⟩ = some (.pointer (some ⟨qt, 0, none⟩)) := cell_of_row W7 tb 1 _ _ (0, 0) HX7.out.at_
    have t2 : W7.cell? ⟨tb, 2, none⟩ = some (.slice (some ⟨g, 0, none⟩) (y :: r).length c) := cell_of_row W7 tb 2 _ _ (0, 0) HX7.out.at_
    have b0 : W7.cell? ⟨kb, 0, none⟩ = some (.int .i64 z.d) := cell_of_row W7 kb 0 _ _ (0, 0) HK7.out.at_
    have b1 : W7.cell? ⟨kb, 1, none⟩ = some (.int .i64 z.l) := cell_of_row W7 kb 1 _ _ (0, 0) HK7.out.at_
    have b2 : W7.cell? ⟨kb, 2, none⟩ = some (.int .i64 z.k) := cell_of_row W7 kb 2 _ _ (0, 0) HK7.out.at_
    have j0 : W7.cell? ⟨jb, 0, none⟩ = some (.int .i64 z.d) := cell_of_row W7 jb 0 _ _ (0, 0) HJ7.out.at_
    have j1 : W7.cell? ⟨jb, 1, none⟩ = some (.int .i64 z.l) := cell_of_row W7 jb 1 _ _ (0, 0) HJ7.out.at_
    have j2 : W7.cell? ⟨jb, 2, none⟩ = some (.int .i64 z.k) := cell_of_row W7 jb 2 _ _ (0, 0) HJ7.out.at_
    have v0 : W7.cell? ⟨wb, 0, none⟩ = some (.int .i64 z.d) := cell_of_row W7 wb 0 _ _ (0, 0) HW7.out.at_
    have v1 : W7.cell? ⟨wb, 1, none⟩ = some (.int .i64 z.l) := cell_of_row W7 wb 1 _ _ (0, 0) HW7.out.at_
    have v2 : W7.cell? ⟨wb, 2, none⟩ = some (.int .i64 z.k) := cell_of_row W7 wb 2 _ _ (0, 0) HW7.out.at_
    go_upto_region 8 with (first | (go_at_call 38; refine (same_c z z true (by simp) _).mono ?_; rintro e W8 ⟨rfl, hb8⟩; have hT8 := Tn.of_below hb8 (fun _ => False); clear hb8; have HM7 := Hd.mk (HM7.out.still hT8); have HX7 := Hd.mk (HX7.out.kept (.of_tn hT8 _)); have HK7 := Hd.mk (HK7.out.kept (.of_tn hT8 _)); have HJ7 := Hd.mk (HJ7.out.kept (.of_tn hT8 _)); have HW7 := Hd.mk (HW7.out.kept (.of_tn hT8 _)); have HT7 := Hd.mk (HT7.out.then_ hT8 (fun _ h => h.elim)); clear hT8 t0 t1 t2 b0 b1 b2 j0 j1 j2 v0 v1 v2; have t0 : W8.cell? ⟨tb, 0, none⟩ = some (.pointer (some ⟨qi, 0, none⟩)) := cell_of_row W8 tb 0 _ _ (0, 0) HX7.out.at_; have t1 : W8.cell? ⟨tb, 1, none⟩ = some (.pointer (some ⟨qt, 0, none⟩)) := cell_of_row W8 tb 1 _ _ (0, 0) HX7.out.at_; have t2 : W8.cell? ⟨tb, 2, none⟩ = some (.slice (some ⟨g, 0, none⟩) (y :: r).length c) := cell_of_row W8 tb 2 _ _ (0, 0) HX7.out.at_; have b0 : W8.cell? ⟨kb, 0, none⟩ = some (.int .i64 z.d) := cell_of_row W8 kb 0 _ _ (0, 0) HK7.out.at_; have b1 : W8.cell? ⟨kb, 1, none⟩ = some (.int .i64 z.l) := cell_of_row W8 kb 1 _ _ (0, 0) HK7.out.at_; have b2 : W8.cell? ⟨kb, 2, none⟩ = some (.int .i64 z.k) := cell_of_row W8 kb 2 _ _ (0, 0) HK7.out.at_; have j0 : W8.cell? ⟨jb, 0, none⟩ = some (.int .i64 z.d) := cell_of_row W8 jb 0 _ _ (0, 0) HJ7.out.at_; have j1 : W8.cell? ⟨jb, 1, none⟩ = some (.int .i64 z.l) := cell_of_row W8 jb 1 _ _ (0, 0) HJ7.out.at_; have j2 : W8.cell? ⟨jb, 2, none⟩ = some (.int .i64 z.k) := cell_of_row W8 jb 2 _ _ (0, 0) HJ7.out.at_; have v0 : W8.cell? ⟨wb, 0, none⟩ = some (.int .i64 z.d) := cell_of_row W8 wb 0 _ _ (0, 0) HW7.out.at_; have v1 : W8.cell? ⟨wb, 1, none⟩ = some (.int .i64 z.l) := cell_of_row W8 wb 1 _ _ (0, 0) HW7.out.at_; have v2 : W8.cell? ⟨wb, 2, none⟩ = some (.int .i64 z.k) := cell_of_row W8 wb 2 _ _ (0, 0) HW7.out.at_))
    go_quiet ((first | (go_at_call 39; exact Calls.quiet_of_same (lenI _ qi mi vi L _ (HM7.out.i.drewN _) HL.out)) | (go_at_call 40; exact Calls.quiet_of_same (lenT _ qt mt vt M _ (HM7.out.t.drewN _) HN.out))))
    go_wp2
    go_ret
    exact ⟨rfl, HT7.out.drewN _⟩
  · subst ht hX
    replace HW6 : Hd (Bx W6 F wb (.cells #[.int .i64 z.d, .int .i64 z.l, .int .i64 z.k] 24 (0, 0))) := ⟨by rw [← hz]; exact HW6.out⟩
    clear v0 v1 v2 hz
    have v0 : W6.cell? ⟨wb, 0, none⟩ = some (.int .i64 z.d) := cell_of_row W6 wb 0 _ _ (0, 0) HW6.out.at_
    have v1 : W6.cell? ⟨wb, 1, none⟩ = some (.int .i64 z.l) := cell_of_row W6 wb 1 _ _ (0, 0) HW6.out.at_
    have v2 : W6.cell? ⟨wb, 2, none⟩ = some (.int .i64 z.k) := cell_of_row W6 wb 2 _ _ (0, 0) HW6.out.at_
    have l0 : decide (((([] : List (Ky × Int)).length : Nat) : Int) > 0) = false := decide_eq_false (by simp)
    have l2 : (((([] : List (Ky × Int)).length : Nat) : Int) == ((([] : List (Ky × Int)).length : Nat) : Int)) = true := by simp
    go_upto_region 8 with (first | (go_at_call 38; refine (same_c z z true (by simp) _).mono ?_; rintro e W8 ⟨rfl, hb8⟩; have hT8 := Tn.of_below hb8 (fun _ => False); clear hb8; have HM6 := Hd.mk (HM6.out.still hT8); have HX6 := Hd.mk (HX6.out.kept (.of_tn hT8 _)); have HK6 := Hd.mk (HK6.out.kept (.of_tn hT8 _)); have HJ6 := Hd.mk (HJ6.out.kept (.of_tn hT8 _)); have HW6 := Hd.mk (HW6.out.kept (.of_tn hT8 _)); have HT6 := Hd.mk (HT6.out.then_ hT8 (fun _ h => h.elim)); clear hT8 t0 t1 t2 b0 b1 b2 j0 j1 j2 v0 v1 v2; have t0 : W8.cell? ⟨tb, 0, none⟩ = some (.pointer (some ⟨qi, 0, none⟩)) := cell_of_row W8 tb 0 _ _ (0, 0) HX6.out.at_; have t1 : W8.cell? ⟨tb, 1, none⟩ = some (.pointer (some ⟨qt, 0, none⟩)) := cell_of_row W8 tb 1 _ _ (0, 0) HX6.out.at_; have t2 : W8.cell? ⟨tb, 2, none⟩ = some (.slice A ([] : List (Ky × Int)).length c) := cell_of_row W8 tb 2 _ _ (0, 0) HX6.out.at_; have b0 : W8.cell? ⟨kb, 0, none⟩ = some (.int .i64 z.d) := cell_of_row W8 kb 0 _ _ (0, 0) HK6.out.at_; have b1 : W8.cell? ⟨kb, 1, none⟩ = some (.int .i64 z.l) := cell_of_row W8 kb 1 _ _ (0, 0) HK6.out.at_; have b2 : W8.cell? ⟨kb, 2, none⟩ = some (.int .i64 z.k) := cell_of_row W8 kb 2 _ _ (0, 0) HK6.out.at_; have j0 : W8.cell? ⟨jb, 0, none⟩ = some (.int .i64 z.d) := cell_of_row W8 jb 0 _ _ (0, 0) HJ6.out.at_; have j1 : W8.cell? ⟨jb, 1, none⟩ = some (.int .i64 z.l) := cell_of_row W8 jb 1 _ _ (0, 0) HJ6.out.at_; have j2 : W8.cell? ⟨jb, 2, none⟩ = some (.int .i64 z.k) := cell_of_row W8 jb 2 _ _ (0, 0) HJ6.out.at_; have v0 : W8.cell? ⟨wb, 0, none⟩ = some (.int .i64 z.d) := cell_of_row W8 wb 0 _ _ (0, 0) HW6.out.at_; have v1 : W8.cell? ⟨wb, 1, none⟩ = some (.int .i64 z.l) := cell_of_row W8 wb 1 _ _ (0, 0) HW6.out.at_; have v2 : W8.cell? ⟨wb, 2, none⟩ = some (.int .i64 z.k) := cell_of_row W8 wb 2 _ _ (0, 0) HW6.out.at_))
    go_quiet ((first | (go_at_call 39; exact Calls.quiet_of_same (lenI _ qi mi vi L _ (HM6.out.i.drewN _) HL.out)) | (go_at_call 40; exact Calls.quiet_of_same (lenT _ qt mt vt M _ (HM6.out.t.drewN _) HN.out))))
    go_wp2
    go_ret
    exact ⟨rfl, HT6.out.drewN _⟩
end Go.Proofs.YtkbbngkfncbgkaaDoor.UNexts
