/- The queue's Put. Conditions: the key's numbers are ints, the row is not beyond all memory. -/
import Derived.Test.YtkbbngkfncbgkaaDoorZTQGet
import Derived.Test.YtkbbngkfncbgkaaDoorZW
namespace Go.Proofs.YtkbbngkfncbgkaaDoor.TQPush
open Go.RowKit Go.Maps Go.Proofs.YtkbbngkfncbgkaaDoor.IQHeap Go.Proofs.YtkbbngkfncbgkaaDoor.TQWords Go.Proofs.YtkbbngkfncbgkaaDoor.TQSwap Go.Proofs.YtkbbngkfncbgkaaDoor.TQOrd Go.Proofs.YtkbbngkfncbgkaaDoor.TQUp Go.Proofs.YtkbbngkfncbgkaaDoor.TQGet Go.Proofs.YtkbbngkfncbgkaaDoorW.PrintWords Go.Proofs.YtkbbngkfncbgkaaDoorW.PrintLast Go.Proofs.YtkbbngkfncbgkaaDoorW.PrintMore
set_option linter.unusedVariables false
set_option linter.unusedSimpArgs false
theorem infoE : (Tryd.prog.info? 71).map (fun i => (i.zero, i.size, i.bytes)) = some (some (.agg #[.int .i64 0, .int .i64 0, .int .i64 0, .string d0.2]), 4, 40) := by kernel_rfl
theorem one4 {k : Ky} {n : ByteArray} : ∀ u ∈ [Value.int .i64 k.d, Value.int .i64 k.l, Value.int .i64 k.k, .string n], u.oneCell' = true := by
  intro u hu
  simp only [List.mem_cons, List.not_mem_nil, or_false] at hu
  rcases hu with rfl | rfl | rfl | rfl <;> rfl
theorem alloc_cell {w : World} {a : Addr} {v : Value} (h : w.cell? a = some v) (o : Obj) : (w.alloc o).cell? a = some v :=
  (World.cell?_of_block ((Tn.alloc w o (fun _ => False)).block a.block (World.block_lt_of_cell? w a h) (fun h => h))).trans h
theorem wrap_nat {n : Nat} (h : n < 9000000000000000000) : IntKind.i64.wrap (n : Int) = n := by
  simp [IntKind.wrap, IntKind.bits, IntKind.signed]
  omega
theorem own_form {w : World} {v : Value} {n : Nat} {xs : List Value} (h : w.ownsRow 0 71 4 v (n + 1) xs) : ∃ g cap, v = .slice (some ⟨g, 0, none⟩) (n + 1) cap := by
  rcases h.2 with ⟨_, h0⟩ | ⟨g, cap, cur, rfl, _⟩
  · omega
  · exact ⟨g, cap, rfl⟩
theorem push_st {W W2 : World} {qb mb : Nat} {v : Value} {L : List It} (h : QS W qb v mb L) (hg : W.grownBy W2 v.ownBlock) : W2.cell? ⟨qb, 0, none⟩ = some v ∧ W2.frozen? ⟨qb, 0, none⟩ = false := by
  have ht := Tn.of_grown hg
  have h2 := ht.blk h.st (fun e => h.n2 e.symm)
  exact ⟨cell_of_row W2 qb 0 _ _ (0, 0) h2, frozen_of_row W2 qb 0 _ _ h2⟩
/-- What stands behind the append and the store of the new row. -/
structure PMid (w W : World) (qb : Nat) (v v1 : Value) (mb : Nat) (L L2 : List It) (s : Nat) (f : Ky → Option Nat) : Prop where
  st : W.heap[qb]? = some (.cells #[v1, .map (some mb)] 57 (0, 0))
  row : IR W v1 L2
  pm : PMf W mb s f
  tn : Tn w W (fun q => q = qb ∨ q = mb ∨ v.ownBlock = some q)
  nb : ∀ q, v1.ownBlock = some q → v.ownBlock = some q ∨ w.heap.size ≤ q
  nq : v1.ownBlock ≠ some qb
  nm : v1.ownBlock ≠ some mb
theorem pmid0 {w W1 W2 : World} {qb mb : Nat} {v v1 : Value} {L : List It} {f : Ky → Option Nat} {k : Ky} {n : ByteArray} (hQ : QS W1 qb v mb L) (hp : PMf W1 mb L.length f) (hT : Tn w W1 (fun _ => False))
    (ho : W2.ownsRow 0 71 4 v1 (L.length + 1) (L.flatMap ei ++ [.int .i64 k.d, .int .i64 k.l, .int .i64 k.k, .string n])) (hg : W1.grownBy W2 v.ownBlock) (hat : v1.ownBlock = v.ownBlock ∨ ∃ b, v1.ownBlock = some b ∧ W1.heap.size ≤ b) :
    PMid w (W2.setCell ⟨qb, 0, none⟩ v1) qb v v1 mb L (L ++ [(k, n)]) L.length f := by
  have ht := Tn.of_grown hg
  have h2 := ht.blk hQ.st (fun e => hQ.n2 e.symm)
  have nq : v1.ownBlock ≠ some qb := by
    rcases hat with h | ⟨b, h, hb⟩
    · rw [h]; exact hQ.n2
    · rw [h]
      intro e
      injection e with e
      have := (Array.getElem?_eq_some_iff.1 hQ.st).1
      omega
  have nm : v1.ownBlock ≠ some mb := by
    rcases hat with h | ⟨b, h, hb⟩
    · rw [h]; exact hQ.n3
    · rw [h]
      intro e
      injection e with e
      obtain ⟨es, c, hm⟩ := hp.lt
      have := (Array.getElem?_eq_some_iff.1 hm).1
      omega
  have hset : Tn W2 (W2.setCell ⟨qb, 0, none⟩ v1) (fun q => q = qb) := ⟨rfl, rfl, rfl, by simp [World.setCell], fun i _ hn => Below.heap_setCell W2 ⟨qb, 0, none⟩ v1 i hn⟩
  refine ⟨heap_setCell_same W2 qb 0 _ _ _ h2, ?_, (hp.kept ht (fun e => hQ.n3 e.symm)).kept hset (fun e => hQ.n1 e.symm), ?_, ?_, nq, nm⟩
  · have e : (L ++ [(k, n)]).flatMap ei = L.flatMap ei ++ [.int .i64 k.d, .int .i64 k.l, .int .i64 k.k, .string n] := by rw [List.flatMap_append]; rfl
    unfold IR
    rw [e, List.length_append]
    exact hset.row ho (fun q hq e => nq (by rw [hq, e]))
  · have hA : Tn W1 W2 (fun q => q = qb ∨ v.ownBlock = some q) := ht.mono (fun _ h => .inr h.symm)
    have hB := hA.then_ hset (fun _ h => .inl (.inl h))
    exact (hT.mono (fun _ h => h.elim)).then_ hB (fun q h => .inl (h.elim .inl (fun h => .inr (.inr h))))
  · intro q hq
    rcases hat with h | ⟨b, h, hb⟩
    · exact .inl (by rw [← h]; exact hq)
    · rw [h] at hq
      injection hq with hq
      have := hT.size
      exact .inr (by omega)
/-- The key's box stands. -/
theorem pbox {W1 W2 : World} {qb mb kb : Nat} {v v1 : Value} {L : List It} {k : Ky} (hQ : QS W1 qb v mb L) (hb : W1.heap[kb]? = some (.cells #[.int .i64 k.d, .int .i64 k.l, .int .i64 k.k] 24 (0, 0))) (hg : W1.grownBy W2 v.ownBlock) :
    (W2.setCell ⟨qb, 0, none⟩ v1).heap[kb]? = some (.cells #[.int .i64 k.d, .int .i64 k.l, .int .i64 k.k] 24 (0, 0)) := by
  have n1 : kb ≠ qb := fun e => by
    have h1 := hQ.st
    rw [← e, hb] at h1
    injection h1 with h1
    injection h1 with _ h1
    exact absurd h1 (by decide)
  have n2 : some kb ≠ v.ownBlock := fun e => by
    obtain ⟨cur, h1⟩ := hQ.row.typed kb e.symm
    rw [hb] at h1
    injection h1 with h1
    injection h1 with _ h1
    exact absurd h1 (by decide)
  exact (Below.heap_setCell W2 ⟨qb, 0, none⟩ v1 kb n1).trans ((Tn.of_grown hg).blk hb n2)
theorem PMid.fin {w W W2 : World} {qb mb : Nat} {v v1 : Value} {L : List It} {s : Nat} {f : Ky → Option Nat} {k : Ky} {n : ByteArray} (h : PMid w W qb v v1 mb L (L ++ [(k, n)]) s f) (hk : KyOk k) (hok : ∀ x ∈ L, KyOk x.1) (hf : Placed L f) (hno : ∀ i, i < L.length → (at_ d0 L i).1 ≠ k)
    (hp : PMf W2 mb (L.length + 1) (upd f k (some L.length))) (ht : Tn W.drew W2 (fun q => q = mb)) (n1 : qb ≠ mb) : QS W2 qb v1 mb (L ++ [(k, n)]) ∧ Tn w W2 (fun q => q = qb ∨ q = mb ∨ v.ownBlock = some q) := by
  refine ⟨⟨ht.blk h.st n1, (h.row.drew).kept ht (fun q hq e => h.nm (by rw [hq, e])), ⟨_, by rw [List.length_append]; exact hp, hf.push (k, n) hno⟩, fun x hx => ?_⟩, h.tn.drew.then_ ht (fun q hq => .inl (.inr (.inl hq)))⟩
  rcases List.mem_append.1 hx with hx | hx
  · exact hok x hx
  · rw [List.mem_singleton.1 hx]
    exact hk
set_option maxHeartbeats 4000000 in
set_option maxRecDepth 1000000 in
theorem push_calls (qb mb : Nat) (v : Value) (L : List It) (k : Ky) (n : ByteArray) (w : World) (hk : KyOk k) (hl : L.length + 1 < 3000000000000) (hQ : QS w qb v mb L) (hno : ∀ i, i < L.length → (at_ d0 L i).1 ≠ k) :
    Calls Tryd.prog 29 #[.pointer (some ⟨qb, 0, none⟩), .agg #[.int .i64 k.d, .int .i64 k.l, .int .i64 k.k], .string n] w fun e w' =>
      e = .returned (.tuple #[]) ∧ ∃ v1, QS w' qb v1 mb (pushF ltI d0 L (k, n)) ∧ Tn w w' (fun q => q = qb ∨ q = mb ∨ v.ownBlock = some q) ∧ ∀ q, v1.ownBlock = some q → v.ownBlock = some q ∨ w.heap.size ≤ q := by
  obtain ⟨f, hp, hf⟩ := hQ.pm
  have HT := Hd.mk (Tn.alloc w (.cells #[.int .i64 k.d, .int .i64 k.l, .int .i64 k.k] 24) (fun _ => False))
  have HA := Hd.mk (hQ.alloc (.cells #[.int .i64 k.d, .int .i64 k.l, .int .i64 k.k] 24))
  have HP := Hd.mk (hp.kept HT.out (fun h => h))
  have HBX := Hd.mk (box_cells w k)
  have HF := Hd.mk hf
  have HNO := Hd.mk hno
  have HOK := Hd.mk hQ.ok
  have HLIM : Hd ((L.length + 1) * 40 ≤ 140737488355328) := ⟨by omega⟩
  clear hQ hp hf hno
  go_enter Tryd.func29, Tryd.ntmps29
  go_wp2
  obtain ⟨kb, hkb⟩ : ∃ kb, w.heap.size = kb := ⟨_, rfl⟩
  rw [hkb] at HBX ⊢
  generalize hW : w.alloc (.cells #[.int .i64 k.d, .int .i64 k.l, .int .i64 k.k] 24) = W1 at HT HA HP HBX ⊢
  clear hW
  have q0 := HA.out.c0
  have b0 : W1.cell? ⟨kb, 0, none⟩ = some (.int .i64 k.d) := cell_of_row W1 kb 0 _ _ (0, 0) HBX.out
  have b1 : W1.cell? ⟨kb, 1, none⟩ = some (.int .i64 k.l) := cell_of_row W1 kb 1 _ _ (0, 0) HBX.out
  have b2 : W1.cell? ⟨kb, 2, none⟩ = some (.int .i64 k.k) := cell_of_row W1 kb 2 _ _ (0, 0) HBX.out
  refine start_ (n := 13) (S := fun w' => w'.cell? ⟨qb, 0, none⟩ = some v ∧ w'.cell? ⟨kb, 0, none⟩ = some (.int .i64 k.d) ∧ w'.cell? ⟨kb, 1, none⟩ = some (.int .i64 k.l) ∧ w'.cell? ⟨kb, 2, none⟩ = some (.int .i64 k.k)) (ds := [9, 12]) #[false, false, false, false, false, false, false, false, false, false, false, false, false] (by kernel_rfl) rfl rfl ⟨q0, b0, b1, b2⟩ (fun hHeld => ?_)
  refine pure_ (i := 0) (N := some 6) (v := ?_) (a' := ?_) #[true, false, false, false, false, false, false, false, false, false, false, false, false] rfl rfl (by kernel_rfl) (fun _ _ _ h => h) (Or.inl ⟨by rfl, ?_⟩) ?_ ?_
  rotate_left
  · intro w'
    go_simp
    with_reducible rfl
  rotate_left
  · simp only [Act.put, List.setIfInBounds_toArray, List.set_cons_zero, List.set_cons_succ, i64_w, i32_w]
    rfl
  refine pure_ (i := 1) (N := some 7) (v := ?_) (a' := ?_) #[true, true, false, false, false, false, false, false, false, false, false, false, false] rfl rfl (by kernel_rfl) (fun _ _ _ h => h) (Or.inl ⟨by rfl, ?_⟩) ?_ ?_
  rotate_left
  · intro w'
    go_simp
    with_reducible rfl
  rotate_left
  · simp only [Act.put, List.setIfInBounds_toArray, List.set_cons_zero, List.set_cons_succ, i64_w, i32_w]
    rfl
  refine pure_ (i := 2) (N := some 8) (v := ?_) (a' := ?_) #[true, true, true, false, false, false, false, false, false, false, false, false, false] rfl rfl (by kernel_rfl) (fun _ _ _ h => h) (Or.inl ⟨by rfl, ?_⟩) ?_ ?_
  rotate_left
  · intro w'
    go_simp
    with_reducible rfl
  rotate_left
  · simp only [Act.put, List.setIfInBounds_toArray, List.set_cons_zero, List.set_cons_succ, i64_w, i32_w]
    rfl
  refine pure_ (i := 3) (N := some 9) (v := ?_) (a' := ?_) #[true, true, true, true, false, false, false, false, false, false, false, false, false] rfl rfl (by kernel_rfl) (fun _ _ _ h => h) (Or.inl ⟨by rfl, ?_⟩) ?_ ?_
  rotate_left
  · intro w'
    go_simp
    with_reducible rfl
  rotate_left
  · simp only [Act.put, List.setIfInBounds_toArray, List.set_cons_zero, List.set_cons_succ, i64_w, i32_w]
    rfl
  refine pure_ (i := 6) (N := some 12) (v := ?_) (a' := ?_) #[true, true, true, true, false, false, true, false, false, false, false, false, false] rfl rfl (by kernel_rfl) (fun _ _ _ h => h) (Or.inl ⟨by rfl, ?_⟩) ?_ ?_
  rotate_left
  · intro w'
    go_simp
    with_reducible rfl
  rotate_left
  · simp only [Act.put, List.setIfInBounds_toArray, List.set_cons_zero, List.set_cons_succ, i64_w, i32_w]
    rfl
  refine take_ (i := 4) (N := some 10) (v := ?_) (a' := ?_) #[true, true, true, true, true, false, true, false, false, false, false, false, false] rfl rfl (by kernel_rfl) (fun _ _ _ h => h) (Or.inl ⟨by rfl, ?_⟩) hHeld ?_ ?_
  rotate_left
  · rintro w' ⟨s0, s1, s2, s3⟩
    go_simp
    with_reducible rfl
  rotate_left
  · simp only [Act.put, List.setIfInBounds_toArray, List.set_cons_zero, List.set_cons_succ, i64_w, i32_w]
    rfl
  refine take_ (i := 5) (N := some 11) (v := ?_) (a' := ?_) #[true, true, true, true, true, true, true, false, false, false, false, false, false] rfl rfl (by kernel_rfl) (fun _ _ _ h => h) (Or.inl ⟨by rfl, ?_⟩) hHeld ?_ ?_
  rotate_left
  · rintro w' ⟨s0, s1, s2, s3⟩
    go_simp
    with_reducible rfl
  rotate_left
  · simp only [Act.put, List.setIfInBounds_toArray, List.set_cons_zero, List.set_cons_succ, i64_w, i32_w]
    rfl
  refine pure_ (i := 7) (N := some 13) (v := ?_) (a' := ?_) #[true, true, true, true, true, true, true, true, false, false, false, false, false] rfl rfl (by kernel_rfl) (fun _ _ _ h => h) (Or.inl ⟨by rfl, ?_⟩) ?_ ?_
  rotate_left
  · intro w'
    go_simp
    with_reducible rfl
  rotate_left
  · simp only [Act.put, List.setIfInBounds_toArray, List.set_cons_zero, List.set_cons_succ, i64_w, i32_w]
    rfl
  refine one_ (i := 8) (N := some 14) #[true, true, true, true, true, true, true, true, true, false, false, false, false] rfl rfl (by kernel_rfl) (by decide) (fun K hK => ?_)
  refine value_ (w1 := ?_) (v := ?_) (by rfl) rfl ?_ ?_
  rotate_left 2
  · go_simp
    constructor
    · rfl
    · rfl
  refine hK.out _ _ ⟨alloc_cell q0 _, alloc_cell b0 _, alloc_cell b1 _, alloc_cell b2 _⟩ (fun hHeld => ?_)
  clear hK K
  refine norm_ (a' := ?_) ?_ ?_
  rotate_left
  · show Act.put _ (some 14) _ = _
    simp only [Act.put, List.setIfInBounds_toArray, List.set_cons_zero, List.set_cons_succ, i64_w, i32_w]
    rfl
  refine last_ (i := 9) (N := some 15) #[true, true, true, true, true, true, true, true, true, true, false, false, false] rfl rfl (by kernel_rfl) (by decide) (fun K hK => ?_)
  refine step_append_cells (w0 := W1.drew) 0 (by rfl) (.tmp 10) (.tmp 14) 55 71 (.agg #[.int .i64 0, .int .i64 0, .int .i64 0, .string d0.2]) 4 40 rfl Tryd.underlying55 infoE rfl (by decide) (by decide) v L.length (L.flatMap ei) [.int .i64 k.d, .int .i64 k.l, .int .i64 k.k, .string n] rfl rfl rfl one4 HA.out.row.drew (Below.refl _ _) (Nat.zero_le _) HLIM.out ?_
  intro v1 W2 hown hbl hgr hat
  obtain ⟨g1, cap1, rfl⟩ := own_form hown
  obtain ⟨hq3, hz3⟩ := push_st HA.out.drew hgr
  have HOWN := Hd.mk hown
  have HGR := Hd.mk hgr
  have HAT := Hd.mk hat
  clear hown hbl hgr hat
  refine hK.out _ _ ?_
  clear hK K
  refine norm_ (a' := ?_) ?_ ?_
  rotate_left
  · show Act.put _ (some 15) _ = _
    simp only [Act.put, List.setIfInBounds_toArray, List.set_cons_zero, List.set_cons_succ, i64_w, i32_w]
    rfl
  refine pure_ (i := 10) (N := some 16) (v := ?_) (a' := ?_) #[true, true, true, true, true, true, true, true, true, true, true, false, false] rfl rfl (by kernel_rfl) (fun _ _ _ h => h) (Or.inl ⟨by rfl, ?_⟩) ?_ ?_
  rotate_left
  · intro w'
    go_simp
    with_reducible rfl
  rotate_left
  · simp only [Act.put, List.setIfInBounds_toArray, List.set_cons_zero, List.set_cons_succ, i64_w, i32_w]
    rfl
  refine pure_ (i := 11) (N := some 17) (v := ?_) (a' := ?_) #[true, true, true, true, true, true, true, true, true, true, true, true, false] rfl rfl (by kernel_rfl) (fun _ _ _ h => h) (Or.inl ⟨by rfl, ?_⟩) ?_ ?_
  rotate_left
  · intro w'
    go_simp
    with_reducible rfl
  rotate_left
  · simp only [Act.put, List.setIfInBounds_toArray, List.set_cons_zero, List.set_cons_succ, i64_w, i32_w]
    rfl
  refine last_ (i := 12) (N := none) #[true, true, true, true, true, true, true, true, true, true, true, true, true] rfl rfl (by kernel_rfl) (by decide) (fun K hK => ?_)
  refine skip_ (w1 := ?_) (by rfl) rfl ?_ ?_
  rotate_left
  · go_simp
    rfl
  refine hK.out _ _ ?_
  clear hK K
  refine done_ (by kernel_rfl) ?_
  go_wp2
  generalize hW3 : World.setCell _ _ _ = W3
  have hM := pmid0 (w := w) (W1 := W1.drew) (k := k) (n := n) HA.out.drew HP.out.drew HT.out.drew HOWN.out HGR.out HAT.out
  have hbx := pbox (v1 := .slice (some ⟨g1, 0, none⟩) (L.length + 1) cap1) HA.out.drew HBX.out HGR.out
  rw [hW3] at hM hbx
  have HM := Hd.mk hM
  have N1 := Hd.mk HA.out.n1
  clear hW3 q0 b0 b1 b2 hq3 hz3 HOWN HGR HAT HBX HA HP HT
  have q0 : W3.cell? ⟨qb, 0, none⟩ = some (.slice (some ⟨g1, 0, none⟩) (L.length + 1) cap1) := cell_of_row W3 qb 0 _ _ (0, 0) hM.st
  have q1 : W3.cell? ⟨qb, 1, none⟩ = some (.map (some mb)) := cell_of_row W3 qb 1 _ _ (0, 0) hM.st
  have b0 : W3.cell? ⟨kb, 0, none⟩ = some (.int .i64 k.d) := cell_of_row W3 kb 0 _ _ (0, 0) hbx
  have b1 : W3.cell? ⟨kb, 1, none⟩ = some (.int .i64 k.l) := cell_of_row W3 kb 1 _ _ (0, 0) hbx
  have b2 : W3.cell? ⟨kb, 2, none⟩ = some (.int .i64 k.k) := cell_of_row W3 kb 2 _ _ (0, 0) hbx
  have he : ((L.length + 1 : Nat) : Int) - 1 = (L.length : Int) := by omega
  clear hM hbx
  go_still_tail 11, (by kernel_rfl)
  change wpList _ _ _ _ _ W3.drew
  clear q0 q1 b0 b1 b2
  refine PMf.store (w := W3.drew) HM.out.pm.drew hk L.length (wf_nat (by omega)) (by omega) rfl _ _ _ rfl rfl rfl ?hv ?_
  case hv => exact congrArg (Value.int .i64) (wrap_nat (by omega))
  intro W4 hp4 ht4
  rw [HF.out.2 k HNO.out] at hp4
  obtain ⟨hQ4, hT4⟩ := HM.out.fin hk HOK.out HF.out HNO.out hp4 ht4 N1.out
  have HQ4 := Hd.mk hQ4
  have HT4 := Hd.mk hT4
  have HNB := Hd.mk HM.out.nb
  have q0 := hQ4.c0
  clear hp4 ht4 HM hQ4 hT4
  go_wp2_with (first | (go_at_call 50; refine (up_calls qb mb _ L.length _ _ (by simp) (by simp; omega) HQ4.out).mono ?_; rintro e w5 ⟨rfl, hQ5, hT5⟩))
  go_end0
  exact ⟨rfl, _, hQ5, HT4.out.then_ hT5 (fun q hq => (hq.elim (fun h => .inl (.inr (.inl h))) (fun h => (HNB.out q h).elim (fun h => .inl (.inr (.inr h))) .inr))), HNB.out⟩
end Go.Proofs.YtkbbngkfncbgkaaDoor.TQPush

namespace Go.Proofs.YtkbbngkfncbgkaaDoor.TQPut
open Go.RowKit Go.Maps Go.Proofs.YtkbbngkfncbgkaaDoor.IQHeap Go.Proofs.YtkbbngkfncbgkaaDoor.TQWords Go.Proofs.YtkbbngkfncbgkaaDoor.TQSwap Go.Proofs.YtkbbngkfncbgkaaDoor.TQOrd Go.Proofs.YtkbbngkfncbgkaaDoor.TQUp Go.Proofs.YtkbbngkfncbgkaaDoor.TQGet Go.Proofs.YtkbbngkfncbgkaaDoor.TQPush
set_option linter.unusedVariables false
set_option linter.unusedSimpArgs false
set_option maxHeartbeats 4000000 in
set_option maxRecDepth 1000000 in
theorem put_calls (qb mb : Nat) (v : Value) (L : List It) (k : Ky) (n : ByteArray) (w : World) (hk : KyOk k) (hl : L.length + 1 < 3000000000000) (hQ : QS w qb v mb L) :
    Calls Tryd.prog 14 #[.pointer (some ⟨qb, 0, none⟩), .agg #[.int .i64 k.d, .int .i64 k.l, .int .i64 k.k], .string n] w fun e w' =>
      ((e = .returned (.int .i64 110) ∧ (∃ i, i < L.length ∧ (at_ d0 L i).1 = k) ∧ Tn w w' (fun _ => False)) ∨
        (e = .returned (.int .i64 0) ∧ (∀ i, i < L.length → (at_ d0 L i).1 ≠ k) ∧ ∃ v1, QS w' qb v1 mb (pushF ltI d0 L (k, n)) ∧ Tn w w' (fun q => q = qb ∨ q = mb ∨ v.ownBlock = some q) ∧ ∀ q, v1.ownBlock = some q → v.ownBlock = some q ∨ w.heap.size ≤ q)) := by
  obtain ⟨f, hp, hf⟩ := hQ.pm
  have HT := Hd.mk (Tn.alloc w (.cells #[.int .i64 k.d, .int .i64 k.l, .int .i64 k.k] 24) (fun _ => False))
  have HA := Hd.mk (hQ.alloc (.cells #[.int .i64 k.d, .int .i64 k.l, .int .i64 k.k] 24))
  have HP := Hd.mk (hp.kept HT.out (fun h => h))
  have HBX := Hd.mk (box_cells w k)
  have HF := Hd.mk hf
  clear hQ hp hf
  go_enter Tryd.func14, Tryd.ntmps14
  go_wp2
  obtain ⟨kb, hkb⟩ : ∃ kb, w.heap.size = kb := ⟨_, rfl⟩
  rw [hkb] at HBX ⊢
  generalize hW : w.alloc (.cells #[.int .i64 k.d, .int .i64 k.l, .int .i64 k.k] 24) = W1 at HT HA HP HBX ⊢
  clear hW
  have q1 := HA.out.c1
  have b0 : W1.cell? ⟨kb, 0, none⟩ = some (.int .i64 k.d) := cell_of_row W1 kb 0 _ _ (0, 0) HBX.out
  have b1 : W1.cell? ⟨kb, 1, none⟩ = some (.int .i64 k.l) := cell_of_row W1 kb 1 _ _ (0, 0) HBX.out
  have b2 : W1.cell? ⟨kb, 2, none⟩ = some (.int .i64 k.k) := cell_of_row W1 kb 2 _ _ (0, 0) HBX.out
  have hlk : ∀ n, (Instr.lookup 51 (.map (some mb)) (.agg #[.int .i64 k.d, .int .i64 k.l, .int .i64 k.k]) true).run Tryd.prog (W1.drewN n) = .ok (.tuple #[.int .i64 ((f k).getD 0 : Nat), .bool (f k).isSome]) (W1.drewN n) := fun n => PMf.run (w := W1.drewN n) HP.out hk
  rcases HF.out.find k with ⟨h1, h2⟩ | ⟨i, hi, h1, h2⟩
  · rw [h1] at hlk
    simp only [Option.getD_none, Option.isSome_none] at hlk
    have H2 := Hd.mk h2
    clear h2
    go_quiet (fail)
    go_wp2_with (first | (go_at_call 29; refine (push_calls qb mb v L k n _ hk hl (HA.out.drewN _) H2.out).mono ?_; rintro e w2 ⟨rfl, v1, hQ2, hT2, hN2⟩))
    go_ret
    exact .inr ⟨rfl, H2.out, v1, hQ2, ((HT.out.drewN _).mono (fun _ h => h.elim)).then_ hT2 (fun _ h => .inl h), fun q hq => (hN2 q hq).imp id (fun h => Nat.le_trans HT.out.size h)⟩
  · rw [h2] at hlk
    simp only [Option.getD_some, Option.isSome_some] at hlk
    go_quiet (fail)
    go_wp2
    go_ret
    exact .inl ⟨rfl, ⟨i, hi, h1⟩, HT.out.drewN _⟩
end Go.Proofs.YtkbbngkfncbgkaaDoor.TQPut
