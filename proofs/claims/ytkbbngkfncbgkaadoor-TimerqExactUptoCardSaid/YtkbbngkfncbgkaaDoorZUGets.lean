/- arrearslaw11.gets: of three holders of one list it says true. Conditions: the key's numbers are ints, the list is not beyond all memory. -/
import Derived.Test.YtkbbngkfncbgkaaDoorZUTrio
import Derived.Test.YtkbbngkfncbgkaaDoorZW
import Derived.Deep.LoopGhost
import Derived.Lib.ItoaLen
namespace Go.Proofs.YtkbbngkfncbgkaaDoor.UWord
open Go.RowKit Go.Proofs.YtkbbngkfncbgkaaDoor.IQHeap Go.Proofs.YtkbbngkfncbgkaaDoor.UPlain Go.Proofs.YtkbbngkfncbgkaaDoor.URel Go.Proofs.YtkbbngkfncbgkaaDoor.URef Go.Proofs.YtkbbngkfncbgkaaDoor.UTrio Go.Proofs.YtkbbngkfncbgkaaDoorW.PrintWords Go.Proofs.YtkbbngkfncbgkaaDoorW.PrintLast Go.Proofs.YtkbbngkfncbgkaaDoorW.PrintMore
open Go.Proofs.YtkbbngkfncbgkaaDoor.IQWords (Ky KyOk Tn QS Hd)
set_option linter.unusedVariables false
set_option linter.unusedSimpArgs false
theorem itoa_c (n : Int) (h1 : -9223372036854775808 ≤ n) (h2 : n ≤ 9223372036854775807) (w : World) (hP : PowAt w) : Calls Tryd.prog 30 #[.int .i64 n] w fun e w' => e = .returned (.string ⟨(Lib.itoa n).toArray⟩) ∧ Tn w w' (fun _ => False) := by
  refine (Tryd.strconv_Itoa n h1 h2 w (PowAt_tab hP)).mono ?_
  rintro e w' ⟨rfl, k, os, rfl⟩
  refine ⟨rfl, ⟨rfl, rfl, rfl, ?_, fun i hi _ => ?_⟩⟩
  · simp [Go.Sort.grow]
  · simp [Go.Sort.grow, Array.getElem?_append, hi]
set_option maxHeartbeats 8000000 in
set_option maxRecDepth 1000000 in
theorem word_calls (n : Int) (h1 : -9223372036854775808 ≤ n) (h2 : n ≤ 9223372036854775807) (w : World) (hP : PowAt w) : Calls Tryd.prog 15 #[.int .i64 n] w fun e w' => e = .returned (.string (wd n)) ∧ Tn w w' (fun _ => False) := by
  have HP := Hd.mk hP
  have hlen := Lib.itoa_length_le n h1 h2
  clear hP
  go_enter Tryd.func15, Tryd.ntmps15
  go_wp2_with (first | (go_at_call 30; refine (itoa_c n h1 h2 _ HP.out).mono ?_; rintro e W1 ⟨rfl, hT1⟩; have HT1 := Hd.mk hT1; clear hT1))
  go_ret
  exact ⟨rfl, HT1.out⟩
theorem ba_refl (s : ByteArray) : (s == s) = true := by
  rcases s with ⟨d⟩
  exact beq_self_eq_true d
theorem TM.box1 {B : Nat} {w : World} {F : Nat → Prop} {qi mi : Nat} {vi : Value} {L : List (Ky × Int)} {qt mt : Nat} {vt : Value} {M : List (Ky × ByteArray)} {u : Value} {X : List (Ky × Int)} (h : TM B w F qi mi vi L qt mt vt M u X) (a : Array Value) (t : TypeId) :
    TM B (w.alloc (.cells a t)) F qi mi vi L qt mt vt M u X ∧ Bx (w.alloc (.cells a t)) F w.heap.size (.cells a t (0, 0)) ∧ Tn w (w.alloc (.cells a t)) (fun _ => False) :=
  ⟨h.still (Tn.alloc w _ _), ⟨heap_alloc_new w _, h.new (Nat.le_refl _)⟩, Tn.alloc w _ _⟩
theorem TM.box2 {B : Nat} {w : World} {F : Nat → Prop} {qi mi : Nat} {vi : Value} {L : List (Ky × Int)} {qt mt : Nat} {vt : Value} {M : List (Ky × ByteArray)} {u : Value} {X : List (Ky × Int)} (h : TM B w F qi mi vi L qt mt vt M u X) (a a2 : Array Value) (t t2 : TypeId) :
    TM B ((w.alloc (.cells a t)).alloc (.cells a2 t2)) F qi mi vi L qt mt vt M u X ∧ Bx ((w.alloc (.cells a t)).alloc (.cells a2 t2)) F w.heap.size (.cells a t (0, 0)) ∧ Bx ((w.alloc (.cells a t)).alloc (.cells a2 t2)) F (w.heap.size + 1) (.cells a2 t2 (0, 0)) ∧ Tn w ((w.alloc (.cells a t)).alloc (.cells a2 t2)) (fun _ => False) := by
  obtain ⟨h1, b1, t1⟩ := TM.box1 h a t
  obtain ⟨h2, b2, t2'⟩ := TM.box1 h1 a2 t2
  have e : (w.alloc (.cells a t)).heap.size = w.heap.size + 1 := by simp
  rw [e] at b2
  exact ⟨h2, b1.kept (.of_tn t2' _), b2, t1.then_ t2' (fun _ h => h.elim)⟩
end Go.Proofs.YtkbbngkfncbgkaaDoor.UWord

namespace Go.Proofs.YtkbbngkfncbgkaaDoor.UGets
open Go.RowKit Go.Proofs.YtkbbngkfncbgkaaDoor.IQHeap Go.Proofs.YtkbbngkfncbgkaaDoor.UPlain Go.Proofs.YtkbbngkfncbgkaaDoor.URel Go.Proofs.YtkbbngkfncbgkaaDoor.URef Go.Proofs.YtkbbngkfncbgkaaDoor.UTrio Go.Proofs.YtkbbngkfncbgkaaDoorW.PrintWords Go.Proofs.YtkbbngkfncbgkaaDoorW.PrintLast Go.Proofs.YtkbbngkfncbgkaaDoorW.PrintMore Go.Proofs.YtkbbngkfncbgkaaDoor.UWord
open Go.Proofs.YtkbbngkfncbgkaaDoor.IQWords (Ky KyOk Tn QS Hd)
set_option linter.unusedVariables false
set_option linter.unusedSimpArgs false
theorem getI (qb mb : Nat) (v : Value) (L : List (Ky × Int)) (k : Ky) (w : World) (hk : KyOk k) (hQ : Go.Proofs.YtkbbngkfncbgkaaDoor.IQWords.QS w qb v mb L) (hl : L.length < 5000000000000) {j : Nat} (hj : j < L.length) (he : (at_ Go.Proofs.YtkbbngkfncbgkaaDoor.IQWords.d0 L j).1 = k) (nv : Int) (hv : (at_ Go.Proofs.YtkbbngkfncbgkaaDoor.IQWords.d0 L j).2 = nv) : Calls Tryd.prog 31 #[.pointer (some ⟨qb, 0, none⟩), .agg #[.int .i64 k.d, .int .i64 k.l, .int .i64 k.k]] w fun e w' => e = .returned (.tuple #[.int .i64 nv, .bool true]) ∧ Go.Proofs.YtkbbngkfncbgkaaDoor.IQWords.Tn w w' (fun _ => False) := by
  subst hv
  exact Go.Proofs.YtkbbngkfncbgkaaDoor.IQFill.get_yes qb mb v L k w hk hQ hl hj he
theorem getT (qb mb : Nat) (v : Value) (L : List (Ky × ByteArray)) (k : Ky) (w : World) (hk : KyOk k) (hQ : Go.Proofs.YtkbbngkfncbgkaaDoor.TQWords.QS w qb v mb L) (hl : L.length < 5000000000000) {j : Nat} (hj : j < L.length) (he : (at_ Go.Proofs.YtkbbngkfncbgkaaDoor.TQWords.d0 L j).1 = k) (nv : ByteArray) (hv : (at_ Go.Proofs.YtkbbngkfncbgkaaDoor.TQWords.d0 L j).2 = nv) : Calls Tryd.prog 32 #[.pointer (some ⟨qb, 0, none⟩), .agg #[.int .i64 k.d, .int .i64 k.l, .int .i64 k.k]] w fun e w' => e = .returned (.tuple #[.string nv, .bool true]) ∧ Go.Proofs.YtkbbngkfncbgkaaDoor.TQWords.Tn w w' (fun _ => False) := by
  subst hv
  exact Go.Proofs.YtkbbngkfncbgkaaDoor.TQFill.get_yes qb mb v L k w hk hQ hl hj he
set_option maxHeartbeats 8000000 in
set_option maxRecDepth 1000000 in
theorem gets_calls (B : Nat) (F : Nat → Prop) (qi mi : Nat) (vi : Value) (L : List (Ky × Int)) (qt mt : Nat) (vt : Value) (M : List (Ky × ByteArray)) (u : Value) (X : List (Ky × Int)) (w : World) (hM : TM B w F qi mi vi L qt mt vt M u X) (hS : Same L M X) (hx : X.length + 1 < 2950000000000) (k : Ky) (hk : KyOk k) :
    Calls Tryd.prog 16 #[.agg #[.pointer (some ⟨qi, 0, none⟩), .pointer (some ⟨qt, 0, none⟩), u], .agg #[.int .i64 k.d, .int .i64 k.l, .int .i64 k.k]] w fun e w' => e = .returned (.bool true) ∧ Tn w w' (fun _ => False) := by
  obtain ⟨A, c, rfl⟩ := hM.r.form
  obtain ⟨hM1, hX1, hK1, hT1⟩ := TM.box2 hM #[.pointer (some ⟨qi, 0, none⟩), .pointer (some ⟨qt, 0, none⟩), .slice A X.length c] #[.int .i64 k.d, .int .i64 k.l, .int .i64 k.k] 33 24
  have HM1 := Hd.mk hM1
  have HX1 := Hd.mk hX1
  have HK1 := Hd.mk hK1
  have HT1 := Hd.mk hT1
  have HS := Hd.mk hS
  have HKO := Hd.mk hk
  have hL : L.length = X.length := hS.i.len
  have hMl : M.length = X.length := by rw [hS.t.len, List.length_map]
  have hl5 : L.length < 5000000000000 := by omega
  have hm5 : M.length < 5000000000000 := by omega
  have hx4 : X.length < 4000000000000 := by omega
  clear hM hM1 hX1 hK1 hT1 hS hk hL hMl
  go_enter Tryd.func16, Tryd.ntmps16
  go_upto_region 1 with (fail)
  obtain ⟨tb, htb⟩ : ∃ tb, w.heap.size = tb := ⟨_, rfl⟩
  obtain ⟨kb, hkb⟩ : ∃ kb, w.heap.size + 1 = kb := ⟨_, rfl⟩
  rw [hkb] at HK1 ⊢
  rw [htb] at HX1 ⊢
  generalize hW : (w.alloc (.cells #[.pointer (some ⟨qi, 0, none⟩), .pointer (some ⟨qt, 0, none⟩), .slice A X.length c] 33)).alloc (.cells #[.int .i64 k.d, .int .i64 k.l, .int .i64 k.k] 24) = W1 at HM1 HX1 HK1 HT1 ⊢
  clear hW htb hkb
  have t0 : W1.cell? ⟨tb, 0, none⟩ = some (.pointer (some ⟨qi, 0, none⟩)) := cell_of_row W1 tb 0 _ _ (0, 0) HX1.out.at_
  have t1 : W1.cell? ⟨tb, 1, none⟩ = some (.pointer (some ⟨qt, 0, none⟩)) := cell_of_row W1 tb 1 _ _ (0, 0) HX1.out.at_
  have t2 : W1.cell? ⟨tb, 2, none⟩ = some (.slice A X.length c) := cell_of_row W1 tb 2 _ _ (0, 0) HX1.out.at_
  have b0 : W1.cell? ⟨kb, 0, none⟩ = some (.int .i64 k.d) := cell_of_row W1 kb 0 _ _ (0, 0) HK1.out.at_
  have b1 : W1.cell? ⟨kb, 1, none⟩ = some (.int .i64 k.l) := cell_of_row W1 kb 1 _ _ (0, 0) HK1.out.at_
  have b2 : W1.cell? ⟨kb, 2, none⟩ = some (.int .i64 k.k) := cell_of_row W1 kb 2 _ _ (0, 0) HK1.out.at_
  rcases key_cases k X with ⟨x, hx, hxk⟩ | hno
  · obtain ⟨i, hi, hie⟩ := HS.out.i.yes hx
    obtain ⟨i2, hi2, hie2⟩ := HS.out.t.yes (List.mem_map.2 ⟨x, hx, rfl⟩)
    obtain ⟨v, hv⟩ : ∃ v, x.2 = v := ⟨_, rfl⟩
    have HG : Hd (getF k X = (v, true)) := ⟨by rw [← hv]; exact getF_yes HS.out.i.s.nk hx hxk⟩
    have HI : Hd ((at_ Go.Proofs.YtkbbngkfncbgkaaDoor.IQWords.d0 L i).1 = k) := ⟨by rw [hie]; exact hxk⟩
    have HI2 : Hd ((at_ Go.Proofs.YtkbbngkfncbgkaaDoor.IQWords.d0 L i).2 = v) := ⟨by rw [hie]; exact hv⟩
    have HJ : Hd ((at_ Go.Proofs.YtkbbngkfncbgkaaDoor.TQWords.d0 M i2).1 = k) := ⟨by rw [hie2]; exact hxk⟩
    have HJ2 : Hd ((at_ Go.Proofs.YtkbbngkfncbgkaaDoor.TQWords.d0 M i2).2 = wd v) := ⟨by rw [hie2, ← hv]; rfl⟩
    obtain ⟨v1, v2⟩ := HS.out.vo x hx
    rw [hv] at v1 v2
    obtain ⟨s, hs⟩ : ∃ s, wd v = s := ⟨_, rfl⟩
    have HE := Hd.mk hs
    have e1 : (v == v) = true := by simp
    have e2 : (s == s) = true := ba_refl s
    clear hie hie2 hv hxk hx hs
    go_upto_region 2 with (first | (go_at_call 26; refine (ref_get B _ _ X k hx4 HM1.out.r (v, true) HG.out).mono ?_; rintro e W2 ⟨rfl, hb2⟩; have hT2 := Tn.of_below hb2 (fun _ => False); clear hb2; have HM2 := Hd.mk (HM1.out.still hT2); have HX2 := Hd.mk (HX1.out.kept (.of_tn hT2 _)); have HK2 := Hd.mk (HK1.out.kept (.of_tn hT2 _)); have HT2 := Hd.mk (HT1.out.then_ hT2 (fun _ h => h.elim)); clear hT2 t0 t1 t2 b0 b1 b2; have t0 : W2.cell? ⟨tb, 0, none⟩ = some (.pointer (some ⟨qi, 0, none⟩)) := cell_of_row W2 tb 0 _ _ (0, 0) HX2.out.at_; have t1 : W2.cell? ⟨tb, 1, none⟩ = some (.pointer (some ⟨qt, 0, none⟩)) := cell_of_row W2 tb 1 _ _ (0, 0) HX2.out.at_; have t2 : W2.cell? ⟨tb, 2, none⟩ = some (.slice A X.length c) := cell_of_row W2 tb 2 _ _ (0, 0) HX2.out.at_; have b0 : W2.cell? ⟨kb, 0, none⟩ = some (.int .i64 k.d) := cell_of_row W2 kb 0 _ _ (0, 0) HK2.out.at_; have b1 : W2.cell? ⟨kb, 1, none⟩ = some (.int .i64 k.l) := cell_of_row W2 kb 1 _ _ (0, 0) HK2.out.at_; have b2 : W2.cell? ⟨kb, 2, none⟩ = some (.int .i64 k.k) := cell_of_row W2 kb 2 _ _ (0, 0) HK2.out.at_))
    go_upto_region 3 with (first | (go_at_call 31; refine (getI qi mi vi L k _ HKO.out HM2.out.i hl5 hi HI.out v HI2.out).mono ?_; rintro e W3 ⟨rfl, hT3⟩; have HM3 := Hd.mk (HM2.out.still hT3); have HX3 := Hd.mk (HX2.out.kept (.of_tn hT3 _)); have HK3 := Hd.mk (HK2.out.kept (.of_tn hT3 _)); have HT3 := Hd.mk (HT2.out.then_ hT3 (fun _ h => h.elim)); clear hT3 t0 t1 t2 b0 b1 b2; have t0 : W3.cell? ⟨tb, 0, none⟩ = some (.pointer (some ⟨qi, 0, none⟩)) := cell_of_row W3 tb 0 _ _ (0, 0) HX3.out.at_; have t1 : W3.cell? ⟨tb, 1, none⟩ = some (.pointer (some ⟨qt, 0, none⟩)) := cell_of_row W3 tb 1 _ _ (0, 0) HX3.out.at_; have t2 : W3.cell? ⟨tb, 2, none⟩ = some (.slice A X.length c) := cell_of_row W3 tb 2 _ _ (0, 0) HX3.out.at_; have b0 : W3.cell? ⟨kb, 0, none⟩ = some (.int .i64 k.d) := cell_of_row W3 kb 0 _ _ (0, 0) HK3.out.at_; have b1 : W3.cell? ⟨kb, 1, none⟩ = some (.int .i64 k.l) := cell_of_row W3 kb 1 _ _ (0, 0) HK3.out.at_; have b2 : W3.cell? ⟨kb, 2, none⟩ = some (.int .i64 k.k) := cell_of_row W3 kb 2 _ _ (0, 0) HK3.out.at_))
    go_upto_region 4 with (first | (go_at_call 32; refine (getT qt mt vt M k _ HKO.out HM3.out.t hm5 hi2 HJ.out s (by rw [HJ2.out, HE.out])).mono ?_; rintro e W4 ⟨rfl, hT4'⟩; have hT4 := tnI hT4'; clear hT4'; have HM4 := Hd.mk (HM3.out.still hT4); have HX4 := Hd.mk (HX3.out.kept (.of_tn hT4 _)); have HK4 := Hd.mk (HK3.out.kept (.of_tn hT4 _)); have HT4 := Hd.mk (HT3.out.then_ hT4 (fun _ h => h.elim)); clear hT4 t0 t1 t2 b0 b1 b2; have t0 : W4.cell? ⟨tb, 0, none⟩ = some (.pointer (some ⟨qi, 0, none⟩)) := cell_of_row W4 tb 0 _ _ (0, 0) HX4.out.at_; have t1 : W4.cell? ⟨tb, 1, none⟩ = some (.pointer (some ⟨qt, 0, none⟩)) := cell_of_row W4 tb 1 _ _ (0, 0) HX4.out.at_; have t2 : W4.cell? ⟨tb, 2, none⟩ = some (.slice A X.length c) := cell_of_row W4 tb 2 _ _ (0, 0) HX4.out.at_; have b0 : W4.cell? ⟨kb, 0, none⟩ = some (.int .i64 k.d) := cell_of_row W4 kb 0 _ _ (0, 0) HK4.out.at_; have b1 : W4.cell? ⟨kb, 1, none⟩ = some (.int .i64 k.l) := cell_of_row W4 kb 1 _ _ (0, 0) HK4.out.at_; have b2 : W4.cell? ⟨kb, 2, none⟩ = some (.int .i64 k.k) := cell_of_row W4 kb 2 _ _ (0, 0) HK4.out.at_))
    go_wp2_with (first | (go_at_call 15; refine (word_calls v v1 v2 _ HM4.out.pw).mono ?_; rintro e W5 ⟨rfl, hT5⟩; have HT5 := Hd.mk (HT4.out.then_ hT5 (fun _ h => h.elim)); clear hT5; rw [HE.out]))
    go_ret
    exact ⟨rfl, HT5.out⟩
  · have HG : Hd (getF k X = (0, false)) := ⟨getF_no hno⟩
    have HI : Hd (∀ i, i < L.length → (at_ Go.Proofs.YtkbbngkfncbgkaaDoor.IQWords.d0 L i).1 ≠ k) := ⟨HS.out.i.no hno⟩
    have HJ : Hd (∀ i, i < M.length → (at_ Go.Proofs.YtkbbngkfncbgkaaDoor.TQWords.d0 M i).1 ≠ k) := ⟨HS.out.t.no (tw_no wd hno)⟩
    clear hno
    go_upto_region 2 with (first | (go_at_call 26; refine (ref_get B _ _ X k hx4 HM1.out.r (0, false) HG.out).mono ?_; rintro e W2 ⟨rfl, hb2⟩; have hT2 := Tn.of_below hb2 (fun _ => False); clear hb2; have HM2 := Hd.mk (HM1.out.still hT2); have HX2 := Hd.mk (HX1.out.kept (.of_tn hT2 _)); have HK2 := Hd.mk (HK1.out.kept (.of_tn hT2 _)); have HT2 := Hd.mk (HT1.out.then_ hT2 (fun _ h => h.elim)); clear hT2 t0 t1 t2 b0 b1 b2; have t0 : W2.cell? ⟨tb, 0, none⟩ = some (.pointer (some ⟨qi, 0, none⟩)) := cell_of_row W2 tb 0 _ _ (0, 0) HX2.out.at_; have t1 : W2.cell? ⟨tb, 1, none⟩ = some (.pointer (some ⟨qt, 0, none⟩)) := cell_of_row W2 tb 1 _ _ (0, 0) HX2.out.at_; have t2 : W2.cell? ⟨tb, 2, none⟩ = some (.slice A X.length c) := cell_of_row W2 tb 2 _ _ (0, 0) HX2.out.at_; have b0 : W2.cell? ⟨kb, 0, none⟩ = some (.int .i64 k.d) := cell_of_row W2 kb 0 _ _ (0, 0) HK2.out.at_; have b1 : W2.cell? ⟨kb, 1, none⟩ = some (.int .i64 k.l) := cell_of_row W2 kb 1 _ _ (0, 0) HK2.out.at_; have b2 : W2.cell? ⟨kb, 2, none⟩ = some (.int .i64 k.k) := cell_of_row W2 kb 2 _ _ (0, 0) HK2.out.at_))
    go_upto_region 3 with (first | (go_at_call 31; refine (Go.Proofs.YtkbbngkfncbgkaaDoor.IQFill.get_no qi mi vi L k _ HKO.out HM2.out.i hl5 HI.out).mono ?_; rintro e W3 ⟨rfl, hT3⟩; have HM3 := Hd.mk (HM2.out.still hT3); have HX3 := Hd.mk (HX2.out.kept (.of_tn hT3 _)); have HK3 := Hd.mk (HK2.out.kept (.of_tn hT3 _)); have HT3 := Hd.mk (HT2.out.then_ hT3 (fun _ h => h.elim)); clear hT3 t0 t1 t2 b0 b1 b2; have t0 : W3.cell? ⟨tb, 0, none⟩ = some (.pointer (some ⟨qi, 0, none⟩)) := cell_of_row W3 tb 0 _ _ (0, 0) HX3.out.at_; have t1 : W3.cell? ⟨tb, 1, none⟩ = some (.pointer (some ⟨qt, 0, none⟩)) := cell_of_row W3 tb 1 _ _ (0, 0) HX3.out.at_; have t2 : W3.cell? ⟨tb, 2, none⟩ = some (.slice A X.length c) := cell_of_row W3 tb 2 _ _ (0, 0) HX3.out.at_; have b0 : W3.cell? ⟨kb, 0, none⟩ = some (.int .i64 k.d) := cell_of_row W3 kb 0 _ _ (0, 0) HK3.out.at_; have b1 : W3.cell? ⟨kb, 1, none⟩ = some (.int .i64 k.l) := cell_of_row W3 kb 1 _ _ (0, 0) HK3.out.at_; have b2 : W3.cell? ⟨kb, 2, none⟩ = some (.int .i64 k.k) := cell_of_row W3 kb 2 _ _ (0, 0) HK3.out.at_))
    go_upto_region 4 with (first | (go_at_call 32; refine (Go.Proofs.YtkbbngkfncbgkaaDoor.TQFill.get_no qt mt vt M k _ HKO.out HM3.out.t hm5 HJ.out).mono ?_; rintro e W4 ⟨rfl, hT4'⟩; have hT4 := tnI hT4'; clear hT4'; have HM4 := Hd.mk (HM3.out.still hT4); have HX4 := Hd.mk (HX3.out.kept (.of_tn hT4 _)); have HK4 := Hd.mk (HK3.out.kept (.of_tn hT4 _)); have HT4 := Hd.mk (HT3.out.then_ hT4 (fun _ h => h.elim)); clear hT4 t0 t1 t2 b0 b1 b2; have t0 : W4.cell? ⟨tb, 0, none⟩ = some (.pointer (some ⟨qi, 0, none⟩)) := cell_of_row W4 tb 0 _ _ (0, 0) HX4.out.at_; have t1 : W4.cell? ⟨tb, 1, none⟩ = some (.pointer (some ⟨qt, 0, none⟩)) := cell_of_row W4 tb 1 _ _ (0, 0) HX4.out.at_; have t2 : W4.cell? ⟨tb, 2, none⟩ = some (.slice A X.length c) := cell_of_row W4 tb 2 _ _ (0, 0) HX4.out.at_; have b0 : W4.cell? ⟨kb, 0, none⟩ = some (.int .i64 k.d) := cell_of_row W4 kb 0 _ _ (0, 0) HK4.out.at_; have b1 : W4.cell? ⟨kb, 1, none⟩ = some (.int .i64 k.l) := cell_of_row W4 kb 1 _ _ (0, 0) HK4.out.at_; have b2 : W4.cell? ⟨kb, 2, none⟩ = some (.int .i64 k.k) := cell_of_row W4 kb 2 _ _ (0, 0) HK4.out.at_))
    go_wp2
    go_ret
    exact ⟨rfl, HT4.out⟩
end Go.Proofs.YtkbbngkfncbgkaaDoor.UGets
