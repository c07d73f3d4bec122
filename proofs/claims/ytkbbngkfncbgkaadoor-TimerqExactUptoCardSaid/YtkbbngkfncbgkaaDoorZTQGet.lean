/- The queue's New, Len and Get. Condition: the key's numbers are ints. -/
import Derived.Test.YtkbbngkfncbgkaaDoorZTQDown
namespace Go.Proofs.YtkbbngkfncbgkaaDoor.TQGet
open Go.RowKit Go.Maps Go.Proofs.YtkbbngkfncbgkaaDoor.IQHeap Go.Proofs.YtkbbngkfncbgkaaDoor.TQWords Go.Proofs.YtkbbngkfncbgkaaDoor.TQSwap Go.Proofs.YtkbbngkfncbgkaaDoor.TQOrd Go.Proofs.YtkbbngkfncbgkaaDoor.TQUp
set_option linter.unusedVariables false
set_option linter.unusedSimpArgs false
theorem box_cells (w : World) (k : Ky) : (w.alloc (.cells #[.int .i64 k.d, .int .i64 k.l, .int .i64 k.k] 24)).heap[w.heap.size]? = some (.cells #[.int .i64 k.d, .int .i64 k.l, .int .i64 k.k] 24 (0, 0)) := heap_alloc_new w _
theorem len_calls (qb mb : Nat) (v : Value) (L : List It) (w : World) (hQ : QS w qb v mb L) :
    Calls Tryd.prog 40 #[.pointer (some ⟨qb, 0, none⟩)] w fun e w' => e = .returned (.int .i64 L.length) ∧ w' = w := by
  obtain ⟨A, cap, rfl⟩ := hQ.row.forms
  have q0 := hQ.c0
  clear hQ
  go_enter Tryd.func40, Tryd.ntmps40
  go_wp2
  go_ret
  exact ⟨rfl, rfl⟩
theorem new_calls (w : World) :
    Calls Tryd.prog 11 #[] w fun e w' => ∃ qb mb, e = .returned (.pointer (some ⟨qb, 0, none⟩)) ∧ w.heap.size ≤ qb ∧ w.heap.size ≤ mb ∧ QS w' qb (.slice none 0 0) mb [] ∧ Tn w w' (fun _ => False) := by
  have hmm := @run_makeMap Tryd.prog
  go_enter Tryd.func11, Tryd.ntmps11
  go_wp2
  go_ret
  trace_state
  have hs : (w.alloc (.map #[] 0)).heap.size = w.heap.size + 1 := by simp
  have hn := heap_alloc_new (w.alloc (.map #[] 0)) (.cells #[.slice none 0 0, .map (some w.heap.size)] 57)
  rw [hs] at hn
  refine ⟨w.heap.size + 1, w.heap.size, rfl, by omega, by omega, ⟨hn, World.ownsRow_nil _ _ _ _, ⟨fun _ => none, (PMf.made w).kept (Tn.alloc _ _ (fun _ => False)) (fun h => h), ⟨fun i hi => absurd hi (Nat.not_lt_zero _), fun _ _ => rfl⟩⟩, fun x hx => by cases hx⟩, (Tn.alloc w _ _).then_ (Tn.alloc _ _ (fun _ => False)) (fun _ h => h.elim)⟩
set_option maxHeartbeats 4000000 in
set_option maxRecDepth 1000000 in
theorem get_calls (qb mb : Nat) (v : Value) (L : List It) (k : Ky) (w : World) (hk : KyOk k) (hl : L.length < 5000000000000) (hQ : QS w qb v mb L) :
    Calls Tryd.prog 32 #[.pointer (some ⟨qb, 0, none⟩), .agg #[.int .i64 k.d, .int .i64 k.l, .int .i64 k.k]] w fun e w' =>
      ((e = .returned (.tuple #[.string d0.2, .bool false]) ∧ ∀ i, i < L.length → (at_ d0 L i).1 ≠ k) ∨ ∃ i, i < L.length ∧ (at_ d0 L i).1 = k ∧ e = .returned (.tuple #[.string (at_ d0 L i).2, .bool true])) ∧ Tn w w' (fun _ => False) := by
  obtain ⟨f, hp, hf⟩ := hQ.pm
  have hA := hQ.alloc (.cells #[.int .i64 k.d, .int .i64 k.l, .int .i64 k.k] 24)
  have hpA := hp.kept (Tn.alloc w (.cells #[.int .i64 k.d, .int .i64 k.l, .int .i64 k.k] 24) (fun _ => False)) (fun h => h)
  have hbx := box_cells w k
  have HT := Hd.mk (Tn.alloc w (.cells #[.int .i64 k.d, .int .i64 k.l, .int .i64 k.k] 24) (fun _ => False))
  have HA := Hd.mk hA
  have HP := Hd.mk hpA
  have HBX := Hd.mk hbx
  have HF := Hd.mk hf
  clear hQ hp hA hpA hbx hf
  go_enter Tryd.func32, Tryd.ntmps32
  go_wp2
  obtain ⟨kb, hkb⟩ : ∃ kb, w.heap.size = kb := ⟨_, rfl⟩
  rw [hkb] at HBX ⊢
  generalize hW : w.alloc (.cells #[.int .i64 k.d, .int .i64 k.l, .int .i64 k.k] 24) = W1 at HT HA HP HBX ⊢
  obtain ⟨A, cap, rfl⟩ := HA.out.row.forms
  have q0 := HA.out.c0
  have q1 := HA.out.c1
  have b0 : W1.cell? ⟨kb, 0, none⟩ = some (.int .i64 k.d) := cell_of_row W1 kb 0 _ _ (0, 0) HBX.out
  have b1 : W1.cell? ⟨kb, 1, none⟩ = some (.int .i64 k.l) := cell_of_row W1 kb 1 _ _ (0, 0) HBX.out
  have b2 : W1.cell? ⟨kb, 2, none⟩ = some (.int .i64 k.k) := cell_of_row W1 kb 2 _ _ (0, 0) HBX.out
  have hlk : ∀ n, (Instr.lookup 51 (.map (some mb)) (.agg #[.int .i64 k.d, .int .i64 k.l, .int .i64 k.k]) true).run Tryd.prog (W1.drewN n) = .ok (.tuple #[.int .i64 ((f k).getD 0 : Nat), .bool (f k).isSome]) (W1.drewN n) := fun n => PMf.run (w := W1.drewN n) HP.out hk
  rcases HF.out.find k with ⟨h1, h2⟩ | ⟨i, hi, h1, h2⟩
  · rw [h1] at hlk
    simp only [Option.getD_none, Option.isSome_none] at hlk
    have H2 := Hd.mk h2
    clear h2
    go_quiet (fail)
    go_wp2
    go_ret2
    exact ⟨.inl ⟨rfl, H2.out⟩, HT.out.drewN _⟩
  · rw [h2] at hlk
    simp only [Option.getD_some, Option.isSome_some] at hlk
    obtain ⟨b, cap', hv⟩ := HA.out.row.form (by omega)
    injection hv with hv _ hv2
    subst hv
    have im : (i : Int) < (L.length : Int) := by omega
    have c3 : W1.cell? ⟨b, i * 4 + 3, none⟩ = some (.string (at_ d0 L i).2) := HA.out.row.cell hi 3 (by decide)
    go_quiet (fail)
    go_wp2
    go_ret2
    exact ⟨.inr ⟨i, hi, h1, rfl⟩, HT.out.drewN _⟩
end Go.Proofs.YtkbbngkfncbgkaaDoor.TQGet
