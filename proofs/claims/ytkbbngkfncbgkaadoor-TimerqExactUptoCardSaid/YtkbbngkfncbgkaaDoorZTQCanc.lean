/- The queue's Cancel and Next. Conditions: the key's numbers are ints, the row is not beyond all memory. -/
import Derived.Test.YtkbbngkfncbgkaaDoorZTQPop
namespace Go.Proofs.YtkbbngkfncbgkaaDoor.TQCanc
open Go.RowKit Go.Maps Go.Proofs.YtkbbngkfncbgkaaDoor.IQHeap Go.Proofs.YtkbbngkfncbgkaaDoor.TQWords Go.Proofs.YtkbbngkfncbgkaaDoor.TQSwap Go.Proofs.YtkbbngkfncbgkaaDoor.TQOrd Go.Proofs.YtkbbngkfncbgkaaDoor.TQUp Go.Proofs.YtkbbngkfncbgkaaDoor.TQGet Go.Proofs.YtkbbngkfncbgkaaDoor.TQPush Go.Proofs.YtkbbngkfncbgkaaDoor.TQTake Go.Proofs.YtkbbngkfncbgkaaDoor.TQPop Go.Proofs.YtkbbngkfncbgkaaDoorW.PrintWords
set_option linter.unusedVariables false
set_option linter.unusedSimpArgs false
/-- take, the row's block not named. -/
theorem take_v (qb mb : Nat) (v : Value) (i : Nat) (L : List It) (w : World) (hi : i < L.length) (hl : L.length < 3000000000000) (hQ : QS w qb v mb L) :
    Calls Tryd.prog 35 #[.pointer (some ⟨qb, 0, none⟩), .int .i64 i] w fun e w' =>
      e = .returned (.agg #[.int .i64 (at_ d0 L i).1.d, .int .i64 (at_ d0 L i).1.l, .int .i64 (at_ d0 L i).1.k, .string (at_ d0 L i).2]) ∧ ∃ v1, QS w' qb v1 mb (takeF ltI d0 L i) ∧ Tn w w' (fun q => q = qb ∨ q = mb ∨ v.ownBlock = some q) ∧ v1.ownBlock = v.ownBlock := by
  obtain ⟨b, cap, rfl⟩ := hQ.row.form (by omega)
  obtain ⟨m, hm⟩ : ∃ m, L.length = m + 1 := ⟨L.length - 1, by omega⟩
  have hQ2 := hQ
  rw [hm] at hQ2
  refine (take_calls qb mb b cap m i L w hm hi hl hQ2).mono ?_
  rintro e w' ⟨h1, h2, h3⟩
  exact ⟨h1, _, h2, h3.mono (fun q h => h.imp id (fun h => h.imp id (fun h => by rw [h]; rfl))), rfl⟩
set_option maxHeartbeats 4000000 in
set_option maxRecDepth 1000000 in
theorem cancel_calls (qb mb : Nat) (v : Value) (L : List It) (k : Ky) (w : World) (hk : KyOk k) (hl : L.length < 3000000000000) (hQ : QS w qb v mb L) :
    Calls Tryd.prog 19 #[.pointer (some ⟨qb, 0, none⟩), .agg #[.int .i64 k.d, .int .i64 k.l, .int .i64 k.k]] w fun e w' =>
      ((e = .returned (.bool false) ∧ (∀ i, i < L.length → (at_ d0 L i).1 ≠ k) ∧ Tn w w' (fun _ => False)) ∨
        (e = .returned (.bool true) ∧ ∃ i, i < L.length ∧ (at_ d0 L i).1 = k ∧ ∃ v1, QS w' qb v1 mb (takeF ltI d0 L i) ∧ Tn w w' (fun q => q = qb ∨ q = mb ∨ v.ownBlock = some q) ∧ v1.ownBlock = v.ownBlock)) := by
  obtain ⟨f, hp, hf⟩ := hQ.pm
  have HT := Hd.mk (Tn.alloc w (.cells #[.int .i64 k.d, .int .i64 k.l, .int .i64 k.k] 24) (fun _ => False))
  have HA := Hd.mk (hQ.alloc (.cells #[.int .i64 k.d, .int .i64 k.l, .int .i64 k.k] 24))
  have HP := Hd.mk (hp.kept HT.out (fun h => h))
  have HBX := Hd.mk (box_cells w k)
  have HF := Hd.mk hf
  clear hQ hp hf
  go_enter Tryd.func19, Tryd.ntmps19
  go_wp2
  obtain ⟨kb, hkb⟩ : ∃ kb, w.heap.size = kb := ⟨_, rfl⟩
  rw [hkb] at HBX ⊢
  generalize hW : w.alloc (.cells #[.int .i64 k.d, .int .i64 k.l, .int .i64 k.k] 24) = W1 at HT HA HP HBX ⊢
  clear hW
  have q1 := HA.out.c1
  have b0 : W1.cell? ⟨kb, 0, none⟩ = some (.int .i64 k.d) := cell_of_row W1 kb 0 _ _ (0, 0) HBX.out
  have b1 : W1.cell? ⟨kb, 1, none⟩ = some (.int .i64 k.l) := cell_of_row W1 kb 1 _ _ (0, 0) HBX.out
  have b2 : W1.cell? ⟨kb, 2, none⟩ = some (.int .i64 k.k) := cell_of_row W1 kb 2 _ _ (0, 0) HBX.out
  have hlk : ∀ n, (Instr.lookup 51 (.map (some mb)) (.agg #[.int .i64 k.d, .int .i64 k.l, .int .i64 k.k]) true).run Tryd.prog (W1.drewN n) = .ok (.tuple #[.int .i64 ((f k).getD 0 : Nat), .bool (f k).isSome]) (W1.drewN n) := fun n => PMf.run (w := W1.drewN n) HP.out hk
  rcases HF.out.find k with ⟨h1, h2⟩ | ⟨i, hi, h1, h2⟩
  · rw [h1] at hlk
    simp only [Option.getD_none, Option.isSome_none] at hlk
    have H2 := Hd.mk h2
    clear h2
    go_quiet (fail)
    go_wp2
    go_ret
    exact .inl ⟨rfl, H2.out, HT.out.drewN _⟩
  · rw [h2] at hlk
    simp only [Option.getD_some, Option.isSome_some] at hlk
    go_quiet (fail)
    go_wp2_with (first | (go_at_call 35; refine (take_v qb mb v i L _ hi hl (HA.out.drewN _)).mono ?_; rintro e w2 ⟨rfl, v1, hQ2, hT2, hN2⟩))
    go_ret
    exact .inr ⟨rfl, i, hi, h1, v1, hQ2, ((HT.out.drewN _).mono (fun _ h => h.elim)).then_ hT2 (fun _ h => .inl h), hN2⟩
set_option maxHeartbeats 4000000 in
set_option maxRecDepth 1000000 in
theorem next_aux (qb mb : Nat) (v : Value) (L : List It) (w : World) (hQ : QS w qb v mb L) (t : Bool) (k : Ky) (ht : decide (0 < L.length) = t) (hk : (at_ d0 L 0).1 = k) :
    Calls Tryd.prog 37 #[.pointer (some ⟨qb, 0, none⟩)] w fun e w' =>
      e = .returned (.tuple #[.agg #[.int .i64 k.d, .int .i64 k.l, .int .i64 k.k], .bool t]) ∧ Tn w w' (fun _ => False) := by
  obtain ⟨A, cap, rfl⟩ := hQ.row.forms
  have HT := Hd.mk (Tn.alloc w (.cells #[.int .i64 0, .int .i64 0, .int .i64 0] 24) (fun _ => False))
  have HA := Hd.mk (hQ.alloc (.cells #[.int .i64 0, .int .i64 0, .int .i64 0] 24))
  have HBX : Hd ((w.alloc (.cells #[.int .i64 0, .int .i64 0, .int .i64 0] 24)).heap[w.heap.size]? = _) := ⟨heap_alloc_new w _⟩
  clear hQ
  cases t
  · have h0 : L.length = 0 := by
      have := of_decide_eq_false ht
      omega
    have hl0 : L = [] := List.eq_nil_of_length_eq_zero h0
    subst hl0
    obtain rfl : (⟨0, 0, 0⟩ : Ky) = k := hk
    clear ht h0
    go_enter Tryd.func37, Tryd.ntmps37
    go_upto_region 1 with (fail)
    obtain ⟨rb, hrb⟩ : ∃ rb, w.heap.size = rb := ⟨_, rfl⟩
    rw [hrb] at HBX ⊢
    generalize hW : w.alloc (.cells #[.int .i64 0, .int .i64 0, .int .i64 0] 24) = W1 at HT HA HBX ⊢
    clear hW
    have q0 := HA.out.c0
    obtain ⟨hr8, ht8⟩ := kset (y0 := .int .i64 0) (y1 := .int .i64 0) (y2 := .int .i64 0) HBX.out
    have HR8 := Hd.mk hr8
    have HT9 := Hd.mk ht8
    clear hr8 ht8
    have r0 : W1.cell? ⟨rb, 0, none⟩ = some (.int .i64 0) := cell_of_row W1 rb 0 _ _ (0, 0) HBX.out
    have r1 : W1.cell? ⟨rb, 1, none⟩ = some (.int .i64 0) := cell_of_row W1 rb 1 _ _ (0, 0) HBX.out
    have r2 : W1.cell? ⟨rb, 2, none⟩ = some (.int .i64 0) := cell_of_row W1 rb 2 _ _ (0, 0) HBX.out
    have hfz : ∀ k, W1.frozen? ⟨rb, k, none⟩ = false := fun k => frozen_of_row W1 rb k _ _ HBX.out
    go_wp2
    (try simp only [Exit.inBlock, Exit.then])
    refine bodyPost_ret (results_list (rs := [.cell 2 24, .tmp 3]) rfl (by simp) (.cell rb 24 _ (0, 0) _ rfl HR8.out Tryd.underlying24 rfl (by kernel_rfl) (.tmp .nil))) rfl ?_
    exact ⟨rfl, HT.out.then_ HT9.out (fun q h => .inr (by rw [h, ← hrb]; exact Nat.le_refl _))⟩
  · have h0 : 0 < L.length := of_decide_eq_true ht
    have hz : ((L.length : Int) == 0) = false := beq_eq_false_iff_ne.2 (by omega)
    obtain ⟨b, cap', hv⟩ := HA.out.row.form h0
    injection hv with hv _ hv2
    subst hv
    have HK := Hd.mk hk
    clear ht hk
    go_enter Tryd.func37, Tryd.ntmps37
    go_upto_region 1 with (fail)
    obtain ⟨rb, hrb⟩ : ∃ rb, w.heap.size = rb := ⟨_, rfl⟩
    rw [hrb] at HBX ⊢
    generalize hW : w.alloc (.cells #[.int .i64 0, .int .i64 0, .int .i64 0] 24) = W1 at HT HA HBX ⊢
    clear hW
    have q0 := HA.out.c0
    obtain ⟨hr8, ht8⟩ := kset (y0 := .int .i64 k.d) (y1 := .int .i64 k.l) (y2 := .int .i64 k.k) HBX.out
    have HR8 := Hd.mk hr8
    have HT9 := Hd.mk ht8
    clear hr8 ht8
    have r0 : W1.cell? ⟨rb, 0, none⟩ = some (.int .i64 0) := cell_of_row W1 rb 0 _ _ (0, 0) HBX.out
    have r1 : W1.cell? ⟨rb, 1, none⟩ = some (.int .i64 0) := cell_of_row W1 rb 1 _ _ (0, 0) HBX.out
    have r2 : W1.cell? ⟨rb, 2, none⟩ = some (.int .i64 0) := cell_of_row W1 rb 2 _ _ (0, 0) HBX.out
    have hfz : ∀ k, W1.frozen? ⟨rb, k, none⟩ = false := fun k => frozen_of_row W1 rb k _ _ HBX.out
    have hb : rb ≠ b := fun e => by
      obtain ⟨cur, h⟩ := HA.out.row.typed b rfl
      rw [← e, HBX.out] at h
      injection h with h
      injection h with _ h
      exact absurd h (by decide)
    have hb2 : b ≠ rb := fun e => hb e.symm
    have c0 : W1.cell? ⟨b, 0, none⟩ = some (.int .i64 k.d) := by
      have h := HA.out.row.cell (i := 0) h0 0 (by decide)
      rw [Nat.zero_mul] at h
      rw [← HK.out]
      exact h
    have c1 : W1.cell? ⟨b, 1, none⟩ = some (.int .i64 k.l) := by
      have h := HA.out.row.cell (i := 0) h0 1 (by decide)
      rw [Nat.zero_mul, Nat.zero_add] at h
      rw [← HK.out]
      exact h
    have c2 : W1.cell? ⟨b, 2, none⟩ = some (.int .i64 k.k) := by
      have h := HA.out.row.cell (i := 0) h0 2 (by decide)
      rw [Nat.zero_mul, Nat.zero_add] at h
      rw [← HK.out]
      exact h
    have im : (0 : Int) < (L.length : Int) := by omega
    go_wp2
    (try simp only [Exit.inBlock, Exit.then])
    refine bodyPost_ret (results_list (rs := [.cell 2 24, .tmp 3]) rfl (by simp) (.cell rb 24 _ (0, 0) _ rfl HR8.out Tryd.underlying24 rfl (by kernel_rfl) (.tmp .nil))) rfl ?_
    exact ⟨rfl, HT.out.then_ HT9.out (fun q h => .inr (by rw [h, ← hrb]; exact Nat.le_refl _))⟩
theorem next_calls (qb mb : Nat) (v : Value) (L : List It) (w : World) (hQ : QS w qb v mb L) :
    Calls Tryd.prog 37 #[.pointer (some ⟨qb, 0, none⟩)] w fun e w' =>
      e = .returned (.tuple #[.agg #[.int .i64 (at_ d0 L 0).1.d, .int .i64 (at_ d0 L 0).1.l, .int .i64 (at_ d0 L 0).1.k], .bool (decide (0 < L.length))]) ∧ Tn w w' (fun _ => False) :=
  next_aux qb mb v L w hQ _ _ rfl rfl
end Go.Proofs.YtkbbngkfncbgkaaDoor.TQCanc
