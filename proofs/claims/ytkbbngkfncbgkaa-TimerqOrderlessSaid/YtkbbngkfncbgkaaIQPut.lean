/- The queue's Put. Conditions: the key's numbers are ints, the row is not beyond all memory. -/
import Derived.Test.YtkbbngkfncbgkaaIQPush
namespace Go.Proofs.Ytkbbngkfncbgkaa.IQPut
open Go.RowKit Go.Maps Go.Proofs.Ytkbbngkfncbgkaa.IQHeap Go.Proofs.Ytkbbngkfncbgkaa.IQWords Go.Proofs.Ytkbbngkfncbgkaa.IQSwap Go.Proofs.Ytkbbngkfncbgkaa.IQOrd Go.Proofs.Ytkbbngkfncbgkaa.IQUp Go.Proofs.Ytkbbngkfncbgkaa.IQGet Go.Proofs.Ytkbbngkfncbgkaa.IQPush
set_option linter.unusedVariables false
set_option linter.unusedSimpArgs false
set_option maxHeartbeats 4000000 in
set_option maxRecDepth 1000000 in
theorem put_calls (qb mb : Nat) (v : Value) (L : List It) (k : Ky) (n : Int) (w : World) (hk : KyOk k) (hl : L.length + 1 < 3000000000000) (hQ : QS w qb v mb L) :
    Calls Try.prog 14 #[.pointer (some ⟨qb, 0, none⟩), .agg #[.int .i64 k.d, .int .i64 k.l, .int .i64 k.k], .int .i64 n] w fun e w' =>
      ((e = .returned (.int .i64 110) ∧ (∃ i, i < L.length ∧ (at_ d0 L i).1 = k) ∧ Tn w w' (fun _ => False)) ∨
        (e = .returned (.int .i64 0) ∧ (∀ i, i < L.length → (at_ d0 L i).1 ≠ k) ∧ ∃ v1, QS w' qb v1 mb (pushF ltI d0 L (k, n)) ∧ Tn w w' (fun q => q = qb ∨ q = mb ∨ v.ownBlock = some q) ∧ ∀ q, v1.ownBlock = some q → v.ownBlock = some q ∨ w.heap.size ≤ q)) := by
  obtain ⟨f, hp, hf⟩ := hQ.pm
  have HT := Hd.mk (Tn.alloc w (.cells #[.int .i64 k.d, .int .i64 k.l, .int .i64 k.k] 26) (fun _ => False))
  have HA := Hd.mk (hQ.alloc (.cells #[.int .i64 k.d, .int .i64 k.l, .int .i64 k.k] 26))
  have HP := Hd.mk (hp.kept HT.out (fun h => h))
  have HBX := Hd.mk (box_cells w k)
  have HF := Hd.mk hf
  clear hQ hp hf
  go_enter Try.func14, Try.ntmps14
  go_wp2
  obtain ⟨kb, hkb⟩ : ∃ kb, w.heap.size = kb := ⟨_, rfl⟩
  rw [hkb] at HBX ⊢
  generalize hW : w.alloc (.cells #[.int .i64 k.d, .int .i64 k.l, .int .i64 k.k] 26) = W1 at HT HA HP HBX ⊢
  clear hW
  have q1 := HA.out.c1
  have b0 : W1.cell? ⟨kb, 0, none⟩ = some (.int .i64 k.d) := cell_of_row W1 kb 0 _ _ (0, 0) HBX.out
  have b1 : W1.cell? ⟨kb, 1, none⟩ = some (.int .i64 k.l) := cell_of_row W1 kb 1 _ _ (0, 0) HBX.out
  have b2 : W1.cell? ⟨kb, 2, none⟩ = some (.int .i64 k.k) := cell_of_row W1 kb 2 _ _ (0, 0) HBX.out
  have hlk : ∀ n, (Instr.lookup 43 (.map (some mb)) (.agg #[.int .i64 k.d, .int .i64 k.l, .int .i64 k.k]) true).run Try.prog (W1.drewN n) = .ok (.tuple #[.int .i64 ((f k).getD 0 : Nat), .bool (f k).isSome]) (W1.drewN n) := fun n => PMf.run (w := W1.drewN n) HP.out hk
  rcases HF.out.find k with ⟨h1, h2⟩ | ⟨i, hi, h1, h2⟩
  · rw [h1] at hlk
    simp only [Option.getD_none, Option.isSome_none] at hlk
    have H2 := Hd.mk h2
    clear h2
    go_quiet (fail)
    go_wp2_with (first | (go_at_call 20; refine (push_calls qb mb v L k n _ hk hl (HA.out.drewN _) H2.out).mono ?_; rintro e w2 ⟨rfl, v1, hQ2, hT2, hN2⟩))
    go_ret
    exact .inr ⟨rfl, H2.out, v1, hQ2, ((HT.out.drewN _).mono (fun _ h => h.elim)).then_ hT2 (fun _ h => .inl h), fun q hq => (hN2 q hq).imp id (fun h => Nat.le_trans HT.out.size h)⟩
  · rw [h2] at hlk
    simp only [Option.getD_some, Option.isSome_some] at hlk
    go_quiet (fail)
    go_wp2
    go_ret
    exact .inl ⟨rfl, ⟨i, hi, h1⟩, HT.out.drewN _⟩
end Go.Proofs.Ytkbbngkfncbgkaa.IQPut
