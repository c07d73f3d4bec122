/- The queue's PopDue. Condition: the row is not beyond all memory. -/
import Derived.Test.YtkbbngkfncbgkaaDoorZTQTake
namespace Go.Proofs.YtkbbngkfncbgkaaDoor.TQPop
open Go.RowKit Go.Maps Go.Proofs.YtkbbngkfncbgkaaDoor.IQHeap Go.Proofs.YtkbbngkfncbgkaaDoor.TQWords Go.Proofs.YtkbbngkfncbgkaaDoor.TQSwap Go.Proofs.YtkbbngkfncbgkaaDoor.TQOrd Go.Proofs.YtkbbngkfncbgkaaDoor.TQUp Go.Proofs.YtkbbngkfncbgkaaDoor.TQGet Go.Proofs.YtkbbngkfncbgkaaDoor.TQPush Go.Proofs.YtkbbngkfncbgkaaDoor.TQTake Go.Proofs.YtkbbngkfncbgkaaDoorW.PrintWords
set_option linter.unusedVariables false
set_option linter.unusedSimpArgs false
theorem kset {W : World} {rb : Nat} {z0 z1 z2 : Value} {y0 y1 y2 : Value} (h : W.heap[rb]? = some (.cells #[z0, z1, z2] 24 (0, 0))) :
    (((W.setCell ⟨rb, 0, none⟩ y0).setCell ⟨rb, 1, none⟩ y1).setCell ⟨rb, 2, none⟩ y2).heap[rb]? = some (.cells #[y0, y1, y2] 24 (0, 0)) ∧
      Tn W (((W.setCell ⟨rb, 0, none⟩ y0).setCell ⟨rb, 1, none⟩ y1).setCell ⟨rb, 2, none⟩ y2) (fun q => q = rb) := by
  have hset : ∀ (W : World) (j : Nat) (u : Value), Tn W (W.setCell ⟨rb, j, none⟩ u) (fun q => q = rb) := fun W j u => ⟨rfl, rfl, rfl, by simp [World.setCell], fun i _ hn => Below.heap_setCell _ ⟨rb, j, none⟩ _ i hn⟩
  have h1 := heap_setCell_same W rb 0 _ _ y0 h
  have h2 := heap_setCell_same _ rb 1 _ _ y1 h1
  have h3 := heap_setCell_same _ rb 2 _ _ y2 h2
  exact ⟨h3, ((hset _ _ _).then_ (hset _ _ _) (fun _ h => .inl h)).then_ (hset _ _ _) (fun _ h => .inl h)⟩
theorem take0 (qb mb b cap m : Nat) (L : List It) (w : World) (hm : L.length = m + 1) (hl : L.length < 3000000000000) (hQ : QS w qb (.slice (some ⟨b, 0, none⟩) (m + 1) cap) mb L) :
    Calls Tryd.prog 35 #[.pointer (some ⟨qb, 0, none⟩), .int .i64 0] w fun e w' =>
      e = .returned (.agg #[.int .i64 (at_ d0 L 0).1.d, .int .i64 (at_ d0 L 0).1.l, .int .i64 (at_ d0 L 0).1.k, .string (at_ d0 L 0).2]) ∧ QS w' qb (.slice (some ⟨b, 0, none⟩) m cap) mb (takeF ltI d0 L 0) ∧ Tn w w' (fun q => q = qb ∨ q = mb ∨ q = b) :=
  take_calls qb mb b cap m 0 L w hm (by omega) hl hQ
set_option maxHeartbeats 4000000 in
set_option maxRecDepth 1000000 in
theorem pop_none (qb mb : Nat) (v : Value) (day : Int) (L : List It) (w : World) (hQ : QS w qb v mb L) (hd : ∀ x ∈ L, False ∨ (0 < L.length ∧ day < (at_ d0 L 0).1.d)) :
    Calls Tryd.prog 42 #[.pointer (some ⟨qb, 0, none⟩), .int .i64 day] w fun e w' =>
      e = .returned (.tuple #[.agg #[.int .i64 0, .int .i64 0, .int .i64 0], .string ⟨#[]⟩, .bool false]) ∧ Tn w w' (fun _ => False) := by
  obtain ⟨A, cap, rfl⟩ := hQ.row.forms
  have HT := Hd.mk (Tn.alloc w (.cells #[.int .i64 0, .int .i64 0, .int .i64 0] 24) (fun _ => False))
  have HA := Hd.mk (hQ.alloc (.cells #[.int .i64 0, .int .i64 0, .int .i64 0] 24))
  have HBX : Hd ((w.alloc (.cells #[.int .i64 0, .int .i64 0, .int .i64 0] 24)).heap[w.heap.size]? = _) := ⟨heap_alloc_new w _⟩
  clear hQ
  go_enter Tryd.func42, Tryd.ntmps42
  go_upto_region 1 with (fail)
  obtain ⟨rb, hrb⟩ : ∃ rb, w.heap.size = rb := ⟨_, rfl⟩
  rw [hrb] at HBX ⊢
  generalize hW : w.alloc (.cells #[.int .i64 0, .int .i64 0, .int .i64 0] 24) = W1 at HT HA HBX ⊢
  clear hW
  have q0 := HA.out.c0
  obtain ⟨hr8, ht8⟩ := kset (y0 := .int .i64 0) (y1 := .int .i64 0) (y2 := .int .i64 0) HBX.out
  have HR8 := Hd.mk hr8
  have HT9 := Hd.mk ht8
  clear hr8 ht8
  have r0 : W1.cell? ⟨rb, 0, none⟩ = some (.int .i64 0) := cell_of_row W1 rb 0 _ _ (0, 0) HBX.out
  have r1 : W1.cell? ⟨rb, 1, none⟩ = some (.int .i64 0) := cell_of_row W1 rb 1 _ _ (0, 0) HBX.out
  have r2 : W1.cell? ⟨rb, 2, none⟩ = some (.int .i64 0) := cell_of_row W1 rb 2 _ _ (0, 0) HBX.out
  have hfz : ∀ k, W1.frozen? ⟨rb, k, none⟩ = false := fun k => frozen_of_row W1 rb k _ _ HBX.out
  by_cases h0 : L.length = 0
  · have hz : ((L.length : Int) == 0) = true := by rw [h0]; rfl
    go_wp2
    (try simp only [Exit.inBlock, Exit.then])
    refine bodyPost_ret (results_list (rs := [.cell 4 24, .tmp 5, .tmp 6]) rfl (by simp) (.cell rb 24 _ (0, 0) _ rfl HR8.out Tryd.underlying24 rfl (by kernel_rfl) (.tmp (.tmp .nil)))) rfl ?_
    exact ⟨rfl, HT.out.then_ HT9.out (fun q h => .inr (by rw [h, ← hrb]; exact Nat.le_refl _))⟩
  · have hz : ((L.length : Int) == 0) = false := beq_eq_false_iff_ne.2 (by omega)
    obtain ⟨b, cap', hv⟩ := HA.out.row.form (by omega)
    injection hv with hv _ hv2
    subst hv
    have hdd : day < (at_ d0 L 0).1.d := by
      rcases hd _ (at_mem (i := 0) (by omega)) with h | h
      · exact h.elim
      · exact h.2
    have c0 : W1.cell? ⟨b, 0, none⟩ = some (.int .i64 (at_ d0 L 0).1.d) := by
      have h := HA.out.row.cell (i := 0) (by omega) 0 (by decide)
      rw [Nat.zero_mul] at h
      exact h
    have im : (0 : Int) < (L.length : Int) := by omega
    have hgt : (at_ d0 L 0).1.d > day := hdd
    go_wp2
    (try simp only [Exit.inBlock, Exit.then])
    refine bodyPost_ret (results_list (rs := [.cell 4 24, .tmp 5, .tmp 6]) rfl (by simp) (.cell rb 24 _ (0, 0) _ rfl HR8.out Tryd.underlying24 rfl (by kernel_rfl) (.tmp (.tmp .nil)))) rfl ?_
    exact ⟨rfl, HT.out.then_ HT9.out (fun q h => .inr (by rw [h, ← hrb]; exact Nat.le_refl _))⟩
set_option maxHeartbeats 4000000 in
set_option maxRecDepth 1000000 in
theorem pop_some (qb mb : Nat) (v : Value) (day : Int) (L : List It) (w : World) (hl : L.length < 3000000000000) (hQ : QS w qb v mb L) (h0 : 0 < L.length) (hd : (at_ d0 L 0).1.d ≤ day) :
    Calls Tryd.prog 42 #[.pointer (some ⟨qb, 0, none⟩), .int .i64 day] w fun e w' =>
      e = .returned (.tuple #[.agg #[.int .i64 (at_ d0 L 0).1.d, .int .i64 (at_ d0 L 0).1.l, .int .i64 (at_ d0 L 0).1.k], .string (at_ d0 L 0).2, .bool true]) ∧
        ∃ v1, QS w' qb v1 mb (takeF ltI d0 L 0) ∧ Tn w w' (fun q => q = qb ∨ q = mb ∨ v.ownBlock = some q) ∧ v1.ownBlock = v.ownBlock := by
  obtain ⟨b, cap, rfl⟩ := hQ.row.form h0
  obtain ⟨m, hm⟩ : ∃ m, L.length = m + 1 := ⟨L.length - 1, by omega⟩
  rw [hm] at hQ
  have HT := Hd.mk (Tn.alloc w (.cells #[.int .i64 0, .int .i64 0, .int .i64 0] 24) (fun _ => False))
  have HA := Hd.mk (hQ.alloc (.cells #[.int .i64 0, .int .i64 0, .int .i64 0] 24))
  have HBX : Hd ((w.alloc (.cells #[.int .i64 0, .int .i64 0, .int .i64 0] 24)).heap[w.heap.size]? = _) := ⟨heap_alloc_new w _⟩
  have HRB : Hd (w.heap.size ≠ qb ∧ w.heap.size ≠ mb ∧ w.heap.size ≠ b) := ⟨by have := qs_lts hQ; exact ⟨by omega, by omega, by have := this.2.2 b rfl; omega⟩⟩
  have hob : (Value.slice (some ⟨b, 0, none⟩) L.length cap).ownBlock = some b := rfl
  clear hQ
  go_enter Tryd.func42, Tryd.ntmps42
  go_upto_region 1 with (fail)
  obtain ⟨rb, hrb⟩ : ∃ rb, w.heap.size = rb := ⟨_, rfl⟩
  rw [hrb] at HBX HRB ⊢
  generalize hW : w.alloc (.cells #[.int .i64 0, .int .i64 0, .int .i64 0] 24) = W1 at HT HA HBX ⊢
  clear hW
  have q0 := HA.out.c0
  have hz : ((m : Int) + 1 == 0) = false := beq_eq_false_iff_ne.2 (by omega)
  have c0 : W1.cell? ⟨b, 0, none⟩ = some (.int .i64 (at_ d0 L 0).1.d) := by
    have h := HA.out.row
    rw [← hm] at h
    have h := h.cell (i := 0) (by omega) 0 (by decide)
    rw [Nat.zero_mul] at h
    exact h
  have hgt : decide ((at_ d0 L 0).1.d > day) = false := decide_eq_false (by omega)
  go_upto_region 5 with (first | (go_at_call 35; refine (take0 qb mb b cap m L _ hm hl HA.out).mono ?_; rintro e W2 ⟨rfl, hQ2, hT2⟩))
  have HRX : Hd (W2.heap[rb]? = _) := ⟨hT2.blk HBX.out (fun h => h.elim HRB.out.1 (fun h => h.elim HRB.out.2.1 HRB.out.2.2))⟩
  have HQ2 := Hd.mk hQ2
  have HT2 := Hd.mk hT2
  clear hQ2 hT2 q0 c0 HBX HA
  have HQ3 := Hd.mk (HQ2.out.alloc (.cells #[.int .i64 (at_ d0 L 0).1.d, .int .i64 (at_ d0 L 0).1.l, .int .i64 (at_ d0 L 0).1.k, .string (at_ d0 L 0).2] 71))
  have HT3 := Hd.mk (Tn.alloc W2 (.cells #[.int .i64 (at_ d0 L 0).1.d, .int .i64 (at_ d0 L 0).1.l, .int .i64 (at_ d0 L 0).1.k, .string (at_ d0 L 0).2] 71) (fun _ => False))
  have HOX : Hd ((W2.alloc (.cells #[.int .i64 (at_ d0 L 0).1.d, .int .i64 (at_ d0 L 0).1.l, .int .i64 (at_ d0 L 0).1.k, .string (at_ d0 L 0).2] 71)).heap[W2.heap.size]? = _) := ⟨heap_alloc_new W2 _⟩
  have HNE : Hd (W2.heap.size ≠ rb) := ⟨by have := (Array.getElem?_eq_some_iff.1 HRX.out).1; omega⟩
  obtain ⟨ob, hob2⟩ : ∃ ob, W2.heap.size = ob := ⟨_, rfl⟩
  rw [hob2] at HOX HNE ⊢
  replace HRX : Hd _ := ⟨HT3.out.blk HRX.out (fun h => h)⟩
  generalize hW3 : W2.alloc (.cells #[.int .i64 (at_ d0 L 0).1.d, .int .i64 (at_ d0 L 0).1.l, .int .i64 (at_ d0 L 0).1.k, .string (at_ d0 L 0).2] 71) = W3 at HQ3 HT3 HOX HRX ⊢
  clear hW3
  obtain ⟨hr8, ht8⟩ := kset (y0 := .int .i64 (at_ d0 L 0).1.d) (y1 := .int .i64 (at_ d0 L 0).1.l) (y2 := .int .i64 (at_ d0 L 0).1.k) HRX.out
  have HR8 := Hd.mk hr8
  have HT9 := Hd.mk ht8.drew
  clear hr8 ht8
  have o0 : W3.cell? ⟨ob, 0, none⟩ = some (.int .i64 (at_ d0 L 0).1.d) := cell_of_row W3 ob 0 _ _ (0, 0) HOX.out
  have o1 : W3.cell? ⟨ob, 1, none⟩ = some (.int .i64 (at_ d0 L 0).1.l) := cell_of_row W3 ob 1 _ _ (0, 0) HOX.out
  have o2 : W3.cell? ⟨ob, 2, none⟩ = some (.int .i64 (at_ d0 L 0).1.k) := cell_of_row W3 ob 2 _ _ (0, 0) HOX.out
  have o3 : W3.cell? ⟨ob, 3, none⟩ = some (.string (at_ d0 L 0).2) := cell_of_row W3 ob 3 _ _ (0, 0) HOX.out
  have r0 : W3.cell? ⟨rb, 0, none⟩ = some (.int .i64 0) := cell_of_row W3 rb 0 _ _ (0, 0) HRX.out
  have r1 : W3.cell? ⟨rb, 1, none⟩ = some (.int .i64 0) := cell_of_row W3 rb 1 _ _ (0, 0) HRX.out
  have r2 : W3.cell? ⟨rb, 2, none⟩ = some (.int .i64 0) := cell_of_row W3 rb 2 _ _ (0, 0) HRX.out
  have hfz : ∀ k, W3.frozen? ⟨rb, k, none⟩ = false := fun k => frozen_of_row W3 rb k _ _ HRX.out
  have hne : ob ≠ rb := HNE.out
  have hne2 : rb ≠ ob := fun e => hne e.symm
  go_region
  go_wp2
  (try simp only [Exit.inBlock, Exit.then])
  refine bodyPost_ret (results_list (rs := [.cell 4 24, .tmp 5, .tmp 6]) rfl (by simp) (.cell rb 24 _ (0, 0) _ rfl HR8.out Tryd.underlying24 rfl (by kernel_rfl) (.tmp (.tmp .nil)))) rfl ?_
  refine ⟨rfl, .slice (some ⟨b, 0, none⟩) m cap, HQ3.out.kept HT9.out (fun h => HRB.out.1 h.symm) (fun h => HRB.out.2.1 h.symm) (fun k hk h => by cases hk; exact HRB.out.2.2 h.symm), ?_, rfl⟩
  have h1 := (HT.out.mono (S2 := fun q => q = qb ∨ q = mb ∨ (Value.slice (some ⟨b, 0, none⟩) L.length cap).ownBlock = some q) (fun _ h => h.elim)).then_ HT2.out (fun q h => .inl (h.elim .inl (fun h => h.elim (fun h => .inr (.inl h)) (fun h => .inr (.inr (by rw [h]; rfl))))))
  exact (h1.then_ HT3.out (fun _ h => h.elim)).then_ HT9.out (fun q h => .inr (by rw [h, ← hrb]; exact Nat.le_refl _))
end Go.Proofs.YtkbbngkfncbgkaaDoor.TQPop
