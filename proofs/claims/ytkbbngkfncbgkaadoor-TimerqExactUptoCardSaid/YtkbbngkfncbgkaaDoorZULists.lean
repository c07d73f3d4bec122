/- arrearslaw11.lists: of three holders of one list it says true. Condition: the list is not beyond all memory. -/
import Derived.Test.YtkbbngkfncbgkaaDoorZUPops
namespace Go.Proofs.YtkbbngkfncbgkaaDoor.ULists
open Go.RowKit Go.Proofs.YtkbbngkfncbgkaaDoor.IQHeap Go.Proofs.YtkbbngkfncbgkaaDoor.UPlain Go.Proofs.YtkbbngkfncbgkaaDoor.URel Go.Proofs.YtkbbngkfncbgkaaDoor.URef Go.Proofs.YtkbbngkfncbgkaaDoor.UTrio Go.Proofs.YtkbbngkfncbgkaaDoorW.PrintWords Go.Proofs.YtkbbngkfncbgkaaDoorW.PrintLast Go.Proofs.YtkbbngkfncbgkaaDoorW.PrintMore Go.Proofs.YtkbbngkfncbgkaaDoor.UWord Go.Proofs.YtkbbngkfncbgkaaDoor.UNexts Go.Proofs.YtkbbngkfncbgkaaDoor.UPops Go.Proofs.YtkbbngkfncbgkaaDoor.PA
open Go.Proofs.YtkbbngkfncbgkaaDoor.IQWords (Ky KyOk Tn QS Hd)
set_option linter.unusedVariables false
set_option linter.unusedSimpArgs false
theorem one3i (x : Int) : ∀ u ∈ [Value.int .i64 0, Value.int .i64 0, Value.int .i64 x], u.oneCell' = true := by
  intro u hu
  simp only [List.mem_cons, List.not_mem_nil, or_false] at hu
  rcases hu with rfl | rfl | rfl <;> rfl
/-- A row of the call's own with the list's keys. -/
def LO (W : World) (b : Nat) (A : Option Addr) (c : Nat) (X : List (Ky × Int)) : Prop := W.ownsRow b 24 3 (.slice A X.length c) X.length ((X.map (·.1)).flatMap Go.Proofs.YtkbbngkfncbgkaaDoor.IQWords.ek)
theorem LO.kept {w W : World} {S : Nat → Prop} {b c : Nat} {A : Option Addr} {X : List (Ky × Int)} (h : LO w b A c X) (ht : Tn w W S) (hn : ∀ ad, A = some ad → ¬ S ad.block) : LO W b A c X :=
  ht.row h fun k hk => by
    match A, hk with
    | some ad, hk => injection hk with hk; rw [← hk]; exact hn ad rfl
theorem LO.lt {w : World} {b c : Nat} {A : Option Addr} {X : List (Ky × Int)} (h : LO w b A c X) : ∀ ad, A = some ad → b ≤ ad.block ∧ ad.block < w.heap.size := fun ad e => World.ownsRow.lt h ad.block (by rw [e]; rfl)
theorem flat_get3 : ∀ (l : List Ky) (i c : Nat), i < l.length → c < 3 → (l.flatMap Go.Proofs.YtkbbngkfncbgkaaDoor.IQWords.ek)[i * 3 + c]? = (Go.Proofs.YtkbbngkfncbgkaaDoor.IQWords.ek (l.getD i ⟨0, 0, 0⟩))[c]?
  | [], i, c, hi, _ => absurd hi (Nat.not_lt_zero _)
  | a :: r, 0, c, _, hc => by
    rw [List.flatMap_cons, List.getElem?_append_left (by simp [Go.Proofs.YtkbbngkfncbgkaaDoor.IQWords.ek]; omega), Nat.zero_mul, Nat.zero_add]
    rfl
  | a :: r, i + 1, c, hi, hc => by
    rw [List.flatMap_cons, List.getElem?_append_right (by simp [Go.Proofs.YtkbbngkfncbgkaaDoor.IQWords.ek]; omega), show (i + 1) * 3 + c - (Go.Proofs.YtkbbngkfncbgkaaDoor.IQWords.ek a).length = i * 3 + c by simp [Go.Proofs.YtkbbngkfncbgkaaDoor.IQWords.ek]; omega, flat_get3 r i c (by simpa using hi) hc]
    rfl
theorem LO.C {w : World} {b c : Nat} {A : Option Addr} {X : List (Ky × Int)} (h : LO w b A c X) : X.length ≤ c ∧ Kd.C k24 w A (X.map fun x => sk x.1).length (X.map fun x => sk x.1) := by
  have h' := h
  unfold LO at h'
  rcases h'.2 with ⟨e, e2⟩ | ⟨g, cap, cur, e, hb, hg, hnc, hcm, hcs, ht⟩
  · injection e with e1 e3 e4
    subst e1 e4
    refine ⟨by omega, by simp, ?_, fun h0 => ?_⟩
    · rw [List.length_map, e2]; decide
    · rw [List.length_map, e2] at h0; exact absurd h0 (Nat.lt_irrefl _)
  · injection e with e1 e3 e4
    subst e1 e4
    refine ⟨hnc, by simp, ?_, fun _ => ⟨_, rfl, fun j p hj => ?_⟩⟩
    · rw [List.length_map]; unfold maxLen at hcm; omega
    · rw [List.getElem?_map] at hj
      obtain ⟨x, hx, rfl⟩ := Option.map_eq_some_iff.1 hj
      have hjl : j < X.length := (List.getElem?_eq_some_iff.1 hx).1
      refine ⟨[.int .i64 x.1.d, .int .i64 x.1.l, .int .i64 x.1.k], rfl, k24_mk w (sk x.1), fun q u hu => ?_⟩
      have ea : ∀ n : Nat, (⟨g, 0, none⟩ : Addr).add n = ⟨g, n, none⟩ := fun n => by
        unfold Addr.add
        split
        · rename_i h; rw [h]
        · rw [Nat.zero_add]
      have hq : q < 3 := (List.getElem?_eq_some_iff.1 hu).1
      show w.cell? ((⟨g, 0, none⟩ : Addr).add (j * 3 + q)) = some u
      rw [ea, World.ownsRow.cellAt h (j * 3 + q) (by omega), flat_get3 _ j q (by simpa using hjl) hq, List.getD_eq_getElem?_getD, List.getElem?_map, hx]
      exact hu
theorem listI (qb mb : Nat) (v : Value) (L X : List (Ky × Int)) (w : World) (hl : X.length < 3000000000000) (hQ : QS w qb v mb L) (hR : Rel Go.Proofs.YtkbbngkfncbgkaaDoor.IQOrd.ltI Go.Proofs.YtkbbngkfncbgkaaDoor.IQWords.d0 L X) :
    Calls Tryd.prog 44 #[.pointer (some ⟨qb, 0, none⟩)] w fun e w' => ∃ A c, e = .returned (.slice A X.length c) ∧ LO w' w.heap.size A c X ∧ Tn w w' (fun _ => False) := by
  refine (Go.Proofs.YtkbbngkfncbgkaaDoor.IQList.list_own Go.Proofs.YtkbbngkfncbgkaaDoor.IQSort.sortOk qb mb v L w (by rw [hR.len]; exact hl) hQ).mono ?_
  rintro e w' ⟨A, c, h1, _, _, h4, h5⟩
  rw [hR.len] at h1 h5
  rw [hR.keys] at h5
  exact ⟨A, c, h1, h5, h4⟩
theorem listT (qb mb : Nat) (v : Value) (M : List (Ky × ByteArray)) (X : List (Ky × Int)) (w : World) (hl : X.length < 3000000000000) (hQ : Go.Proofs.YtkbbngkfncbgkaaDoor.TQWords.QS w qb v mb M) (hR : Rel Go.Proofs.YtkbbngkfncbgkaaDoor.TQOrd.ltI Go.Proofs.YtkbbngkfncbgkaaDoor.TQWords.d0 M (X.map (tw wd))) :
    Calls Tryd.prog 45 #[.pointer (some ⟨qb, 0, none⟩)] w fun e w' => ∃ A c, e = .returned (.slice A X.length c) ∧ LO w' w.heap.size A c X ∧ Tn w w' (fun _ => False) := by
  have hlen : M.length = X.length := by rw [hR.len, List.length_map]
  refine (Go.Proofs.YtkbbngkfncbgkaaDoor.TQList.list_own Go.Proofs.YtkbbngkfncbgkaaDoor.TQSort.sortOk qb mb v M w (by rw [hlen]; exact hl) hQ).mono ?_
  rintro e w' ⟨A, c, h1, _, _, h4, h5⟩
  have hk : ((M.map (·.1)).mergeSort fun x y => !(Go.Proofs.YtkbbngkfncbgkaaDoor.TQOrd.ltK y x)) = X.map (·.1) := by
    have := hR.keys
    rw [tw_keys] at this
    exact this
  rw [hlen] at h1 h5
  rw [hk] at h5
  exact ⟨A, c, h1, h5, tnI h4⟩
theorem listed_c (B b : Nat) (A : Option Addr) (c : Nat) (u : Value) (X : List (Ky × Int)) (w : World) (hl : X.length < 4000000000000) (h : LO w b A c X) (hu : RL B w u X) : Calls Tryd.prog 46 #[.slice A X.length c, u] w fun e w' => e = .returned (.bool true) ∧ Below w.heap.size w w' := by
  obtain ⟨A2, c2, e, hc2, hC2⟩ := Kd.R_reads hu
  subst e
  obtain ⟨hc, hC⟩ := h.C
  obtain ⟨n, hn⟩ := (listed_f X hl).rounds
  have := arrearslaw11_listed.calls n A c (X.map fun x => sk x.1) A2 c2 (X.map si) true w hC (by rw [List.length_map]; exact hc) hC2 hc2 hn
  rw [List.length_map] at this
  exact this
set_option maxHeartbeats 8000000 in
set_option maxRecDepth 1000000 in
theorem lists_calls (B : Nat) (F : Nat → Prop) (qi mi : Nat) (vi : Value) (L : List (Ky × Int)) (qt mt : Nat) (vt : Value) (M : List (Ky × ByteArray)) (u : Value) (X : List (Ky × Int)) (w : World) (hM : TM B w F qi mi vi L qt mt vt M u X) (hS : Same L M X) (hx : X.length + 1 < 2950000000000) :
    Calls Tryd.prog 25 #[.agg #[.pointer (some ⟨qi, 0, none⟩), .pointer (some ⟨qt, 0, none⟩), u]] w fun e w' => e = .returned (.bool true) ∧ Tn w w' (fun _ => False) := by
  obtain ⟨Au, cu, rfl⟩ := hM.r.form
  obtain ⟨hM1, hX1, hT1⟩ := TM.box1 hM #[.pointer (some ⟨qi, 0, none⟩), .pointer (some ⟨qt, 0, none⟩), .slice Au X.length cu] 33
  have HM1 := Hd.mk hM1
  have HX1 := Hd.mk hX1
  have HT1 := Hd.mk hT1
  have HS := Hd.mk hS
  have hx3 : X.length < 3000000000000 := by omega
  have hx4 : X.length < 4000000000000 := by omega
  clear hM hM1 hX1 hT1 hS
  go_enter Tryd.func25, Tryd.ntmps25
  go_upto_region 1 with (fail)
  obtain ⟨tb, htb⟩ : ∃ tb, w.heap.size = tb := ⟨_, rfl⟩
  rw [htb] at HX1 ⊢
  generalize hW : w.alloc (.cells #[.pointer (some ⟨qi, 0, none⟩), .pointer (some ⟨qt, 0, none⟩), .slice Au X.length cu] 33) = W1 at HM1 HX1 HT1 ⊢
  clear hW htb
  have HB1 : Hd (Below W1.heap.size W1 W1) := ⟨Below.refl _ _⟩
  have t0 : W1.cell? ⟨tb, 0, none⟩ = some (.pointer (some ⟨qi, 0, none⟩)) := cell_of_row W1 tb 0 _ _ (0, 0) HX1.out.at_
  have t1 : W1.cell? ⟨tb, 1, none⟩ = some (.pointer (some ⟨qt, 0, none⟩)) := cell_of_row W1 tb 1 _ _ (0, 0) HX1.out.at_
  have t2 : W1.cell? ⟨tb, 2, none⟩ = some (.slice Au X.length cu) := cell_of_row W1 tb 2 _ _ (0, 0) HX1.out.at_
  go_upto_region 2 with (first | (go_at_call 44; refine (listI qi mi vi L X _ hx3 HM1.out.i HS.out.i).mono ?_; rintro e W2 ⟨A, c, rfl, hl2, hT2⟩; have HL2 := Hd.mk hl2; clear hl2; have HM2 := Hd.mk (HM1.out.still hT2); have HX2 := Hd.mk (HX1.out.kept (.of_tn hT2 F)); have HB2 : Hd (Below W1.heap.size W1 W2) := ⟨HB1.out.trans (hT2.below HB1.out.size (fun _ h => h.elim))⟩; clear hT2 t0 t1 t2; have t0 : W2.cell? ⟨tb, 0, none⟩ = some (.pointer (some ⟨qi, 0, none⟩)) := cell_of_row W2 tb 0 _ _ (0, 0) HX2.out.at_; have t1 : W2.cell? ⟨tb, 1, none⟩ = some (.pointer (some ⟨qt, 0, none⟩)) := cell_of_row W2 tb 1 _ _ (0, 0) HX2.out.at_; have t2 : W2.cell? ⟨tb, 2, none⟩ = some (.slice Au X.length cu) := cell_of_row W2 tb 2 _ _ (0, 0) HX2.out.at_))
  go_upto_region 3 with (first | (go_at_call 44; refine (listI qi mi vi L X _ hx3 HM2.out.i HS.out.i).mono ?_; rintro e W3 ⟨Am, cm, rfl, hl3, hT3⟩; have HK3 := Hd.mk hl3; have HNE : Hd (∀ a b, A = some a → Am = some b → a.block < b.block) := ⟨fun a b ea eb => Nat.lt_of_lt_of_le (HL2.out.lt a ea).2 (hl3.lt b eb).1⟩; have HBM : Hd (∀ b, Am = some b → W1.heap.size ≤ b.block) := ⟨fun b eb => Nat.le_trans HB2.out.size (hl3.lt b eb).1⟩; clear hl3; have HM3 := Hd.mk (HM2.out.still hT3); have HX3 := Hd.mk (HX2.out.kept (.of_tn hT3 F)); have HL3 := Hd.mk (HL2.out.kept hT3 (fun _ _ h => h)); have HB3 : Hd (Below W1.heap.size W1 W3) := ⟨HB2.out.trans (hT3.below HB2.out.size (fun _ h => h.elim))⟩; clear hT3 t0 t1 t2; have t0 : W3.cell? ⟨tb, 0, none⟩ = some (.pointer (some ⟨qi, 0, none⟩)) := cell_of_row W3 tb 0 _ _ (0, 0) HX3.out.at_; have t1 : W3.cell? ⟨tb, 1, none⟩ = some (.pointer (some ⟨qt, 0, none⟩)) := cell_of_row W3 tb 1 _ _ (0, 0) HX3.out.at_; have t2 : W3.cell? ⟨tb, 2, none⟩ = some (.slice Au X.length cu) := cell_of_row W3 tb 2 _ _ (0, 0) HX3.out.at_))
  go_upto_region 4 with (first | (go_at_call 45; refine (listT qt mt vt M X _ hx3 HM3.out.t HS.out.t).mono ?_; rintro e W4 ⟨Aw, cw, rfl, hl4, hT4'⟩; have HV4 := Hd.mk hl4; have hT4 := hT4'; clear hl4 hT4'; have HM4 := Hd.mk (HM3.out.still hT4); have HX4 := Hd.mk (HX3.out.kept (.of_tn hT4 F)); have HL4 := Hd.mk (HL3.out.kept hT4 (fun _ _ h => h)); have HK4 := Hd.mk (HK3.out.kept hT4 (fun _ _ h => h)); have HB4 : Hd (Below W1.heap.size W1 W4) := ⟨HB3.out.trans (hT4.below HB3.out.size (fun _ h => h.elim))⟩; clear hT4 t0 t1 t2; have t0 : W4.cell? ⟨tb, 0, none⟩ = some (.pointer (some ⟨qi, 0, none⟩)) := cell_of_row W4 tb 0 _ _ (0, 0) HX4.out.at_; have t1 : W4.cell? ⟨tb, 1, none⟩ = some (.pointer (some ⟨qt, 0, none⟩)) := cell_of_row W4 tb 1 _ _ (0, 0) HX4.out.at_; have t2 : W4.cell? ⟨tb, 2, none⟩ = some (.slice Au X.length cu) := cell_of_row W4 tb 2 _ _ (0, 0) HX4.out.at_))
  go_upto_region 6 with (first | (go_at_call 46; (first | (with_reducible refine (listed_c B _ A c _ X _ hx4 HL4.out HM4.out.r).mono ?_) | (with_reducible refine (listed_c B _ Aw cw _ X _ hx4 HV4.out HM4.out.r).mono ?_)); rintro e W5 ⟨rfl, hb5⟩; have hT5 := Tn.of_below hb5 (fun _ => False); clear hb5; have HM4 := Hd.mk (HM4.out.still hT5); have HX4 := Hd.mk (HX4.out.kept (.of_tn hT5 F)); have HL4 := Hd.mk (HL4.out.kept hT5 (fun _ _ h => h)); have HK4 := Hd.mk (HK4.out.kept hT5 (fun _ _ h => h)); have HV4 := Hd.mk (HV4.out.kept hT5 (fun _ _ h => h)); have HB4 : Hd (Below W1.heap.size W1 W5) := ⟨HB4.out.trans (hT5.below HB4.out.size (fun _ h => h.elim))⟩; clear hT5 t0 t1 t2; have t0 : W5.cell? ⟨tb, 0, none⟩ = some (.pointer (some ⟨qi, 0, none⟩)) := cell_of_row W5 tb 0 _ _ (0, 0) HX4.out.at_; have t1 : W5.cell? ⟨tb, 1, none⟩ = some (.pointer (some ⟨qt, 0, none⟩)) := cell_of_row W5 tb 1 _ _ (0, 0) HX4.out.at_; have t2 : W5.cell? ⟨tb, 2, none⟩ = some (.slice Au X.length cu) := cell_of_row W5 tb 2 _ _ (0, 0) HX4.out.at_))
  have HO0 : Hd (W5.ownsRow W1.heap.size 24 3 (.slice A X.length c) X.length ((X.map (·.1)).flatMap Go.Proofs.YtkbbngkfncbgkaaDoor.IQWords.ek)) := ⟨HL4.out⟩
  clear t0 t1 t2 HL4 HV4 HM4 HX4
  rename_i W4x
  go_wp2
  go_loopg [6] (X.length + 1) (fun g s6 wr => ∃ (i : Nat) (xs : List Value), s6 = .int .i64 i ∧ i ≤ X.length ∧ X.length + 1 ≤ g + i ∧ Hd (wr.ownsRow W1.heap.size 24 3 (.slice A X.length c) X.length xs) ∧ Hd (LO wr W2.heap.size Am cm X) ∧ Hd (Below W1.heap.size W1 wr))
  case atStart => exact ⟨0, _, rfl, Nat.zero_le _, by omega, HO0, HK4, HB4⟩
  case round =>
    clear HO0 HK4 HB4
    obtain ⟨i, xs, rfl, hi, hg, HO, HK, HB⟩ := hrel
    by_cases c1 : i < X.length
    · have c1' : (i : Int) < (X.length : Int) := by omega
      have i0 : (0 : Int) ≤ (i : Int) := by omega
      obtain ⟨g1, eA⟩ : ∃ g1, A = some ⟨g1, 0, none⟩ := by
        rcases HO.out.2 with ⟨_, h⟩ | ⟨g1, cap, cur, e, _⟩
        · omega
        · injection e with e _ _
          exact ⟨g1, e⟩
      subst eA
      have hlen := HO.out.1
      have k0 := World.ownsRow.cellAt HO.out (i * 3) (by omega)
      have k1 := World.ownsRow.cellAt HO.out (i * 3 + 1) (by omega)
      have k2 := World.ownsRow.cellAt HO.out (i * 3 + 2) (by omega)
      rw [List.getElem?_eq_getElem (by omega)] at k0 k1 k2
      have hfz : ∀ q, wr.frozen? ⟨g1, q, none⟩ = false := fun q => World.ownsRow.frozenAt HO.out q
      obtain ⟨o1, y1⟩ := World.ownsRow.stored HO.out (i * 3) (.int .i64 (-9))
      obtain ⟨o2, y2⟩ := World.ownsRow.stored o1 (i * 3 + 1) (.int .i64 i)
      obtain ⟨o3, y3⟩ := World.ownsRow.stored o2 (i * 3 + 2) (.int .i64 4444)
      have hlt := World.ownsRow.lt HO.out g1 rfl
      have HT3 : Hd (Tn wr _ (fun k => some k = some g1)) := ⟨((Tn.of_grown y1).then_ (Tn.of_grown y2) (fun _ h => .inl h)).then_ (Tn.of_grown y3) (fun _ h => .inl h)⟩
      have HO3 := Hd.mk o3
      have HK3 := Hd.mk (HK.out.kept HT3.out (fun ad e h => by have := HNE.out _ _ rfl e; injection h with h; rw [h] at this; exact Nat.lt_irrefl _ this))
      have HB3 : Hd (Below W1.heap.size W1 _) := ⟨HB.out.trans (HT3.out.below HB.out.size (fun k h => by injection h with h; rw [h]; exact hlt.1))⟩
      obtain ⟨q0, hq0⟩ : ∃ q, xs[i * 3]'(by omega) = q := ⟨_, rfl⟩
      obtain ⟨q1, hq1⟩ : ∃ q, xs[i * 3 + 1]'(by omega) = q := ⟨_, rfl⟩
      obtain ⟨q2, hq2⟩ : ∃ q, xs[i * 3 + 2]'(by omega) = q := ⟨_, rfl⟩
      rw [hq0] at k0
      rw [hq1] at k1
      rw [hq2] at k2
      clear o1 o2 o3 y1 y2 y3 hlen hlt hq0 hq1 hq2
      go_wp2
      go_roundg (X.length - i)
      case measure => omega
      case rel => exact ⟨i + 1, _, by go_num, by omega, by omega, HO3, HK3, HB3⟩
    · have c1' : decide ((i : Int) < (X.length : Int)) = false := decide_eq_false (by omega)
      have HO2 : Hd (∃ xs, wr.ownsRow W1.heap.size 24 3 (.slice A X.length c) (X.length + 0) xs) := ⟨xs, HO.out⟩
      have HQ2 : Hd (∀ q b, (Value.slice A X.length c).ownBlock = some q → Am = some b → q ≠ b.block) := ⟨fun q b h e he => by
        match A, h with
        | some ad, h =>
          injection h with h
          have := HNE.out _ _ rfl e
          rw [h, he] at this
          exact Nat.lt_irrefl _ this⟩
      clear HO hg hi
      go_wp2
      go_loopg [7, 8] 65 (fun g s7 s8 wr => ∃ (k : Nat), s8 = .int .i64 k ∧ k ≤ 64 ∧ 65 ≤ g + k ∧ Hd (∃ xs, wr.ownsRow W1.heap.size 24 3 s7 (X.length + k) xs) ∧ Hd (LO wr W2.heap.size Am cm X) ∧ Hd (Below W1.heap.size W1 wr) ∧ Hd (∀ q b, s7.ownBlock = some q → Am = some b → q ≠ b.block))
      case atStart => exact ⟨0, rfl, by omega, by omega, HO2, HK, HB, HQ2⟩
      case round =>
        clear HO2 HK HB HQ2
        obtain ⟨k, rfl, hk, hg2, HO, HK, HB, HQ⟩ := hrel
        obtain ⟨xs2, ho⟩ := HO.out
        have HO2 := Hd.mk ho
        clear ho HO
        by_cases c2 : k < 64
        · have c2' : (k : Int) < 64 := by omega
          have HLIM : Hd ((X.length + k + 1) * 24 ≤ 140737488355328) := ⟨by omega⟩
          go_upto_region 13 with (first | ((with_reducible refine gate_builtin (b := .append) (xs := #[.tmp 46, .tmp 50]) rfl ?_); go_loud (at_builtin; refine print_append_cells (w0 := W1) W1.heap.size rfl (.tmp 46) (.tmp 50) 85 24 (.agg #[.int .i64 0, .int .i64 0, .int .i64 0]) 3 24 rfl Tryd.underlying85 Go.Proofs.YtkbbngkfncbgkaaDoor.IQList.infoK rfl (by decide) (by decide) u7 (X.length + k) xs2 [.int .i64 0, .int .i64 0, .int .i64 (4445 + (k : Int))] rfl rfl rfl (one3i _) HO2.out HB.out HB.out.size HLIM.out ?_; intro v1 w3 hown hbl hgr hat; have HO3 : Hd (∃ xs, w3.ownsRow W1.heap.size 24 3 v1 (X.length + (k + 1)) xs) := ⟨⟨_, hown⟩⟩; have HB3 := Hd.mk hbl; have HK3 := Hd.mk (HK.out.kept (Tn.of_grown hgr) (fun ad e h => HQ.out _ _ h.symm e rfl)); have HQ3 : Hd (∀ q b, v1.ownBlock = some q → Am = some b → q ≠ b.block) := ⟨fun q b h e he => hat.elim (fun ha => HQ.out q b (by rw [← ha]; exact h) e he) (fun ⟨z, hz, hz2⟩ => by rw [h] at hz; injection hz with hz; have := (HK.out.lt b e).2; omega)⟩; clear hown hbl hgr hat)))
          go_wp2
          go_roundg (64 - k)
          case measure => omega
          case rel => exact ⟨k + 1, by go_num, by omega, by omega, HO3, HK3, HB3, HQ3⟩
        · have c2' : decide ((k : Int) < 64) = false := decide_eq_false (by omega)
          obtain rfl : k = 64 := by omega
          obtain ⟨gl, cl, eu⟩ : ∃ gl cl, u7 = .slice (some ⟨gl, 0, none⟩) (X.length + 64) cl := by
            rcases HO2.out.2 with ⟨_, h⟩ | ⟨gl, cap, cur, e, _⟩
            · omega
            · exact ⟨gl, cap, e⟩
          subst eu
          have e1 : (((X.length + 64 : Nat) : Int) == (X.length : Int) + 64) = true := by simp
          have e2 : ((X.length : Int) + 64 == (X.length : Int) + 64) = true := by simp
          have HM5 := Hd.mk (HM1.out.still (Tn.of_below HB.out _))
          have HX5 := Hd.mk (HX1.out.kept (.of_tn (Tn.of_below HB.out _) F))
          have HT5 := Hd.mk (HT1.out.then_ (Tn.of_below HB.out (fun _ => False)) (fun _ h => h.elim))
          clear HO2 HQ hg2 hk
          have t0 : wr.cell? ⟨tb, 0, none⟩ = some (.pointer (some ⟨qi, 0, none⟩)) := cell_of_row wr tb 0 _ _ (0, 0) HX5.out.at_
          have t1 : wr.cell? ⟨tb, 1, none⟩ = some (.pointer (some ⟨qt, 0, none⟩)) := cell_of_row wr tb 1 _ _ (0, 0) HX5.out.at_
          have t2 : wr.cell? ⟨tb, 2, none⟩ = some (.slice Au X.length cu) := cell_of_row wr tb 2 _ _ (0, 0) HX5.out.at_
          go_wp2_with (first | (go_at_call 46; refine (listed_c B _ Am cm _ X _ hx4 HK.out HM5.out.r).mono ?_; rintro e W6 ⟨rfl, hb6⟩; have hT6 := Tn.of_below hb6 (fun _ => False); clear hb6; have HM6 := Hd.mk (HM5.out.still hT6); have HX6 := Hd.mk (HX5.out.kept (.of_tn hT6 _)); have HT6 := Hd.mk (HT5.out.then_ hT6 (fun _ h => h.elim)); clear hT6 t0 t1 t2; have t0 : W6.cell? ⟨tb, 0, none⟩ = some (.pointer (some ⟨qi, 0, none⟩)) := cell_of_row W6 tb 0 _ _ (0, 0) HX6.out.at_; have t1 : W6.cell? ⟨tb, 1, none⟩ = some (.pointer (some ⟨qt, 0, none⟩)) := cell_of_row W6 tb 1 _ _ (0, 0) HX6.out.at_; have t2 : W6.cell? ⟨tb, 2, none⟩ = some (.slice Au X.length cu) := cell_of_row W6 tb 2 _ _ (0, 0) HX6.out.at_) | (go_at_call 23; refine (nexts_calls B F qi mi vi L qt mt vt M _ X _ HM6.out HS.out hx).mono ?_; rintro e W7 ⟨rfl, hT7⟩; have HT7 := Hd.mk (HT6.out.then_ hT7 (fun _ h => h.elim)); clear hT7))
          go_ret
          exact ⟨rfl, HT7.out⟩
end Go.Proofs.YtkbbngkfncbgkaaDoor.ULists
