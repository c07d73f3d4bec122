/- The queue's Move. Conditions: the numbers are ints, the row is not beyond all memory. -/
import Derived.Test.YtkbbngkfncbgkaaDoorZIQCanc
namespace Go.Proofs.YtkbbngkfncbgkaaDoor.IQMove
open Go.RowKit Go.Maps Go.Proofs.YtkbbngkfncbgkaaDoor.IQHeap Go.Proofs.YtkbbngkfncbgkaaDoor.IQWords Go.Proofs.YtkbbngkfncbgkaaDoor.IQSwap Go.Proofs.YtkbbngkfncbgkaaDoor.IQOrd Go.Proofs.YtkbbngkfncbgkaaDoor.IQUp Go.Proofs.YtkbbngkfncbgkaaDoor.IQGet Go.Proofs.YtkbbngkfncbgkaaDoor.IQPush Go.Proofs.YtkbbngkfncbgkaaDoor.IQTake Go.Proofs.YtkbbngkfncbgkaaDoor.IQPop Go.Proofs.YtkbbngkfncbgkaaDoor.IQCanc Go.Proofs.YtkbbngkfncbgkaaDoorW.PrintWords
set_option linter.unusedVariables false
set_option linter.unusedSimpArgs false
/-- What Move comes to: refused, nothing to do, or taken out and laid in at the other day. -/
def MoveR (w w' : World) (qb mb : Nat) (v : Value) (L : List It) (k k2 : Ky) (e : Ending) : Prop :=
  (e = .returned (.int .i64 110) ∧ (∀ i, i < L.length → (at_ d0 L i).1 ≠ k) ∧ Tn w w' (fun _ => False)) ∨
  (e = .returned (.int .i64 0) ∧ k2 = k ∧ (∃ i, i < L.length ∧ (at_ d0 L i).1 = k) ∧ Tn w w' (fun _ => False)) ∨
  (e = .returned (.int .i64 110) ∧ k2 ≠ k ∧ (∃ i, i < L.length ∧ (at_ d0 L i).1 = k) ∧ (∃ i, i < L.length ∧ (at_ d0 L i).1 = k2) ∧ Tn w w' (fun _ => False)) ∨
  (e = .returned (.int .i64 0) ∧ k2 ≠ k ∧ (∀ i, i < L.length → (at_ d0 L i).1 ≠ k2) ∧ ∃ i, i < L.length ∧ (at_ d0 L i).1 = k ∧ ∃ v1, QS w' qb v1 mb (pushF ltI d0 (takeF ltI d0 L i) (k2, (at_ d0 L i).2)) ∧ Tn w w' (fun q => q = qb ∨ q = mb ∨ v.ownBlock = some q) ∧ ∀ q, v1.ownBlock = some q → v.ownBlock = some q ∨ w.heap.size ≤ q)
set_option maxHeartbeats 4000000 in
set_option maxRecDepth 1000000 in
theorem move_calls (qb mb : Nat) (v : Value) (L : List It) (k : Ky) (day : Int) (w : World) (hk : KyOk k) (hd : (Lit.int .i64 day).wf = true) (hl : L.length + 1 < 3000000000000) (hQ : QS w qb v mb L) :
    Calls Tryd.prog 21 #[.pointer (some ⟨qb, 0, none⟩), .agg #[.int .i64 k.d, .int .i64 k.l, .int .i64 k.k], .int .i64 day] w fun e w' => MoveR w w' qb mb v L k ⟨day, k.l, k.k⟩ e := by
  obtain ⟨f, hp, hf⟩ := hQ.pm
  have HT := Hd.mk (Tn.alloc w (.cells #[.int .i64 k.d, .int .i64 k.l, .int .i64 k.k] 24) (fun _ => False))
  have HA := Hd.mk (hQ.alloc (.cells #[.int .i64 k.d, .int .i64 k.l, .int .i64 k.k] 24))
  have HP := Hd.mk (hp.kept HT.out (fun h => h))
  have HBX := Hd.mk (box_cells w k)
  have HF := Hd.mk hf
  have hk2 : KyOk ⟨day, k.l, k.k⟩ := ⟨hd, hk.l, hk.k⟩
  clear hQ hp hf
  go_enter Tryd.func21, Tryd.ntmps21
  go_wp2
  obtain ⟨kb, hkb⟩ : ∃ kb, w.heap.size = kb := ⟨_, rfl⟩
  rw [hkb] at HBX ⊢
  generalize hW : w.alloc (.cells #[.int .i64 k.d, .int .i64 k.l, .int .i64 k.k] 24) = W1 at HT HA HP HBX ⊢
  clear hW
  have q1 := HA.out.c1
  have b0 : W1.cell? ⟨kb, 0, none⟩ = some (.int .i64 k.d) := cell_of_row W1 kb 0 _ _ (0, 0) HBX.out
  have b1 : W1.cell? ⟨kb, 1, none⟩ = some (.int .i64 k.l) := cell_of_row W1 kb 1 _ _ (0, 0) HBX.out
  have b2 : W1.cell? ⟨kb, 2, none⟩ = some (.int .i64 k.k) := cell_of_row W1 kb 2 _ _ (0, 0) HBX.out
  have hlk : ∀ n, (Instr.lookup 51 (.map (some mb)) (.agg #[.int .i64 k.d, .int .i64 k.l, .int .i64 k.k]) true).run Tryd.prog (W1.drewN n) = .ok (.tuple #[.int .i64 ((f k).getD 0 : Nat), .bool (f k).isSome]) (W1.drewN n) := fun n => PMf.run (w := W1.drewN n) HP.out hk
  rcases HF.out.find k with ⟨h1, h2⟩ | ⟨i, hi, h1, h2⟩
  · rw [h1] at hlk
    simp only [Option.getD_none, Option.isSome_none] at hlk
    have H2 := Hd.mk h2
    clear h2
    go_quiet (fail)
    go_wp2
    go_ret
    exact .inl ⟨rfl, H2.out, HT.out.drewN _⟩
  · rw [h2] at hlk
    simp only [Option.getD_some, Option.isSome_some] at hlk
    have HI := Hd.mk h1
    clear h1 h2
    go_quiet (fail)
    generalize hW2 : W1.drewN _ = W2
    have HT2 : Hd (Tn w W2 (fun _ => False)) := ⟨by rw [← hW2]; exact HT.out.drewN _⟩
    have HA2 : Hd (QS W2 qb v mb L) := ⟨by rw [← hW2]; exact HA.out.drewN _⟩
    have HP2 : Hd (PMf W2 mb L.length f) := ⟨by rw [← hW2]; exact HP.out⟩
    have HBX2 : Hd (W2.heap[kb]? = some (.cells #[.int .i64 k.d, .int .i64 k.l, .int .i64 k.k] 24 (0, 0))) := ⟨by rw [← hW2]; exact HBX.out⟩
    clear hlk q1 b0 b1 b2 hW2 HT HA HP HBX
    have b0 : W2.cell? ⟨kb, 0, none⟩ = some (.int .i64 k.d) := cell_of_row W2 kb 0 _ _ (0, 0) HBX2.out
    have b1 : W2.cell? ⟨kb, 1, none⟩ = some (.int .i64 k.l) := cell_of_row W2 kb 1 _ _ (0, 0) HBX2.out
    have b2 : W2.cell? ⟨kb, 2, none⟩ = some (.int .i64 k.k) := cell_of_row W2 kb 2 _ _ (0, 0) HBX2.out
    have hlt : kb < W2.heap.size := (Array.getElem?_eq_some_iff.1 HBX2.out).1
    have HT3 := Hd.mk (HT2.out.then_ (Tn.alloc W2 (.cells #[.int .i64 day, .int .i64 k.l, .int .i64 k.k] 24) (fun _ => False)) (fun _ h => .inl h))
    have HNE0 : Hd (W2.heap.size ≠ qb ∧ W2.heap.size ≠ mb ∧ v.ownBlock ≠ some W2.heap.size) := ⟨by
      have h := qs_lts HA2.out
      exact ⟨by omega, by omega, fun e => by have := h.2.2 _ e; omega⟩⟩
    have HA3 := Hd.mk (HA2.out.alloc (.cells #[.int .i64 day, .int .i64 k.l, .int .i64 k.k] 24))
    have HP3 := Hd.mk (HP2.out.kept (Tn.alloc W2 (.cells #[.int .i64 day, .int .i64 k.l, .int .i64 k.k] 24) (fun _ => False)) (fun h => h))
    have HBX3 := Hd.mk ((Tn.alloc W2 (.cells #[.int .i64 day, .int .i64 k.l, .int .i64 k.k] 24) (fun _ => False)).blk HBX2.out (fun h => h))
    have HTX3 := Hd.mk (box_cells W2 ⟨day, k.l, k.k⟩)
    go_upto_region 6 with (fail)
    obtain ⟨tb, htb⟩ : ∃ tb, W2.heap.size = tb := ⟨_, rfl⟩
    rw [htb] at HTX3 HNE0 ⊢
    generalize hW3 : W2.alloc (.cells #[.int .i64 day, .int .i64 k.l, .int .i64 k.k] 24) = W3 at HT3 HA3 HP3 HBX3 HTX3 ⊢
    clear hW3 b0 b1 b2 hlt HT2 HA2 HP2 HBX2
    have q0 := HA3.out.c0
    have q1 := HA3.out.c1
    have b0 : W3.cell? ⟨kb, 0, none⟩ = some (.int .i64 k.d) := cell_of_row W3 kb 0 _ _ (0, 0) HBX3.out
    have b1 : W3.cell? ⟨kb, 1, none⟩ = some (.int .i64 k.l) := cell_of_row W3 kb 1 _ _ (0, 0) HBX3.out
    have b2 : W3.cell? ⟨kb, 2, none⟩ = some (.int .i64 k.k) := cell_of_row W3 kb 2 _ _ (0, 0) HBX3.out
    have c0 : W3.cell? ⟨tb, 0, none⟩ = some (.int .i64 day) := cell_of_row W3 tb 0 _ _ (0, 0) HTX3.out
    have c1 : W3.cell? ⟨tb, 1, none⟩ = some (.int .i64 k.l) := cell_of_row W3 tb 1 _ _ (0, 0) HTX3.out
    have c2 : W3.cell? ⟨tb, 2, none⟩ = some (.int .i64 k.k) := cell_of_row W3 tb 2 _ _ (0, 0) HTX3.out
    by_cases hdk : day = k.d
    · have HE : Hd ((⟨day, k.l, k.k⟩ : Ky) = k) := ⟨by rw [hdk]⟩
      have hz : (day == k.d) = true := by rw [hdk]; exact beq_self_eq_true _
      clear hdk
      go_wp2
      go_ret
      exact .inr (.inl ⟨rfl, HE.out, ⟨i, hi, HI.out⟩, HT3.out⟩)
    · have HE : Hd ((⟨day, k.l, k.k⟩ : Ky) ≠ k) := ⟨fun e => hdk (congrArg (fun x : Ky => x.d) e)⟩
      have hz : (day == k.d) = false := beq_eq_false_iff_ne.2 hdk
      have hlk : ∀ n, (Instr.lookup 51 (.map (some mb)) (.agg #[.int .i64 day, .int .i64 k.l, .int .i64 k.k]) true).run Tryd.prog (W3.drewN n) = .ok (.tuple #[.int .i64 ((f ⟨day, k.l, k.k⟩).getD 0 : Nat), .bool (f ⟨day, k.l, k.k⟩).isSome]) (W3.drewN n) := fun n => PMf.run (w := W3.drewN n) HP3.out hk2
      rcases HF.out.find ⟨day, k.l, k.k⟩ with ⟨h3, h4⟩ | ⟨i2, hi2, h3, h4⟩
      · rw [h3] at hlk
        simp only [Option.getD_none, Option.isSome_none] at hlk
        have H4 := Hd.mk h4
        clear h3 h4 hdk
        go_upto_region 8 with (fail)
        go_quiet (fail)
        generalize hW4 : W3.drewN _ = W4
        have HT4 : Hd (Tn w W4 (fun _ => False)) := ⟨by rw [← hW4]; exact HT3.out.drewN _⟩
        have HA4 : Hd (QS W4 qb v mb L) := ⟨by rw [← hW4]; exact HA3.out.drewN _⟩
        have HTX4 : Hd (W4.heap[tb]? = some (.cells #[.int .i64 day, .int .i64 k.l, .int .i64 k.k] 24 (0, 0))) := ⟨by rw [← hW4]; exact HTX3.out⟩
        clear hlk q0 q1 b0 b1 b2 c0 c1 c2 hW4 HT3 HA3 HP3 HBX3 HTX3
        have hl3 : L.length < 3000000000000 := by omega
        have hpm := takeF_perm (lt := ltI) (d := d0) hi
        have hlen2 : (takeF ltI d0 L i).length + 1 = L.length := by have h := hpm.length_eq; rw [List.length_cons] at h; exact h
        have HNO : Hd (∀ j, j < (takeF ltI d0 L i).length → (at_ d0 (takeF ltI d0 L i) j).1 ≠ ⟨day, k.l, k.k⟩) := ⟨fun j hj e => by
          have hm := hpm.mem_iff.1 (List.mem_cons_of_mem _ (at_mem hj))
          obtain ⟨j2, hj2, e2⟩ := List.getElem_of_mem hm
          exact H4.out j2 hj2 (by rw [at_eq d0 L hj2, e2]; exact e)⟩
        have hlp : (takeF ltI d0 L i).length + 1 < 3000000000000 := by omega
        clear hpm hlen2
        go_upto_region 12 with (first | (go_at_call 34; refine (take_v qb mb v i L _ hi hl3 HA4.out).mono ?_; rintro e W5 ⟨rfl, v5, hQ5, hT5, hv5⟩; have HQ5 := Hd.mk (hQ5.alloc (.cells #[.int .i64 (at_ d0 L i).1.d, .int .i64 (at_ d0 L i).1.l, .int .i64 (at_ d0 L i).1.k, .int .i64 (at_ d0 L i).2] 68)); have HT5 := Hd.mk hT5; have HV5 := Hd.mk hv5; clear hQ5 hT5 hv5))
        have HTX5 : Hd (W5.heap[tb]? = _) := ⟨HT5.out.blk HTX4.out (fun h => h.elim HNE0.out.1 (fun h => h.elim HNE0.out.2.1 HNE0.out.2.2))⟩
        have HTX6 : Hd ((W5.alloc (.cells #[.int .i64 (at_ d0 L i).1.d, .int .i64 (at_ d0 L i).1.l, .int .i64 (at_ d0 L i).1.k, .int .i64 (at_ d0 L i).2] 68)).heap[tb]? = _) := ⟨(Tn.alloc W5 _ (fun _ => False)).blk HTX5.out (fun h => h)⟩
        have HOX : Hd ((W5.alloc (.cells #[.int .i64 (at_ d0 L i).1.d, .int .i64 (at_ d0 L i).1.l, .int .i64 (at_ d0 L i).1.k, .int .i64 (at_ d0 L i).2] 68)).heap[W5.heap.size]? = some (.cells #[.int .i64 (at_ d0 L i).1.d, .int .i64 (at_ d0 L i).1.l, .int .i64 (at_ d0 L i).1.k, .int .i64 (at_ d0 L i).2] 68 (0, 0))) := ⟨heap_alloc_new W5 _⟩
        have HT6 : Hd (Tn w (W5.alloc (.cells #[.int .i64 (at_ d0 L i).1.d, .int .i64 (at_ d0 L i).1.l, .int .i64 (at_ d0 L i).1.k, .int .i64 (at_ d0 L i).2] 68)) (fun q => q = qb ∨ q = mb ∨ v.ownBlock = some q)) := ⟨((HT4.out.mono (fun _ h => h.elim)).then_ HT5.out (fun _ h => .inl h)).then_ (Tn.alloc W5 _ (fun _ => False)) (fun _ h => h.elim)⟩
        obtain ⟨ob, hob⟩ : ∃ ob, W5.heap.size = ob := ⟨_, rfl⟩
        rw [hob] at HOX ⊢
        generalize hW6 : W5.alloc (.cells #[.int .i64 (at_ d0 L i).1.d, .int .i64 (at_ d0 L i).1.l, .int .i64 (at_ d0 L i).1.k, .int .i64 (at_ d0 L i).2] 68) = W6 at HTX6 HOX HT6 HQ5 ⊢
        clear hW6 HTX5 HTX4 HT5 HT4 HA4
        have c0 : W6.cell? ⟨tb, 0, none⟩ = some (.int .i64 day) := cell_of_row W6 tb 0 _ _ (0, 0) HTX6.out
        have c1 : W6.cell? ⟨tb, 1, none⟩ = some (.int .i64 k.l) := cell_of_row W6 tb 1 _ _ (0, 0) HTX6.out
        have c2 : W6.cell? ⟨tb, 2, none⟩ = some (.int .i64 k.k) := cell_of_row W6 tb 2 _ _ (0, 0) HTX6.out
        have o3 : W6.cell? ⟨ob, 3, none⟩ = some (.int .i64 (at_ d0 L i).2) := cell_of_row W6 ob 3 _ _ (0, 0) HOX.out
        go_wp2_with (first | (go_at_call 28; refine (push_calls qb mb v5 (takeF ltI d0 L i) ⟨day, k.l, k.k⟩ (at_ d0 L i).2 _ hk2 hlp HQ5.out HNO.out).mono ?_; rintro e W7 ⟨rfl, v7, hQ7, hT7, hN7⟩))
        go_ret
        exact .inr (.inr (.inr ⟨rfl, HE.out, H4.out, i, hi, HI.out, v7, hQ7, HT6.out.then_ hT7 (fun q h => .inl (h.imp id (fun h => h.imp id (fun h => by rw [← HV5.out]; exact h)))), fun q h => (hN7 q h).imp (fun h => by rw [← HV5.out]; exact h) (fun h => Nat.le_trans HT6.out.size h)⟩))
      · rw [h4] at hlk
        simp only [Option.getD_some, Option.isSome_some] at hlk
        have H4 := Hd.mk h3
        clear h3 h4 hdk
        go_upto_region 8 with (fail)
        go_quiet (fail)
        go_wp2
        go_ret
        exact .inr (.inr (.inl ⟨rfl, HE.out, ⟨i, hi, HI.out⟩, ⟨i2, hi2, H4.out⟩, HT3.out.drewN _⟩))
end Go.Proofs.YtkbbngkfncbgkaaDoor.IQMove
