/- arrearslaw11.TimerqPuts, TimerqMoves, TimerqPops by hand: each returns true. Conditions: the script can be read, its numbers are ints, it is not beyond all memory; the table of powers of ten stands as laid. -/
import Derived.Test.YtkbbngkfncbgkaaDoorZUUpTo
namespace Go.Proofs.YtkbbngkfncbgkaaDoor.ULaws
open Go.RowKit Go.Proofs.YtkbbngkfncbgkaaDoor.IQHeap Go.Proofs.YtkbbngkfncbgkaaDoor.UPlain Go.Proofs.YtkbbngkfncbgkaaDoor.URel Go.Proofs.YtkbbngkfncbgkaaDoor.URef Go.Proofs.YtkbbngkfncbgkaaDoor.UTrio Go.Proofs.YtkbbngkfncbgkaaDoorW.PrintWords Go.Proofs.YtkbbngkfncbgkaaDoorW.PrintLast Go.Proofs.YtkbbngkfncbgkaaDoorW.PrintMore Go.Proofs.YtkbbngkfncbgkaaDoor.UWord Go.Proofs.YtkbbngkfncbgkaaDoor.UNexts Go.Proofs.YtkbbngkfncbgkaaDoor.UPops Go.Proofs.YtkbbngkfncbgkaaDoor.UUpTo
open Go.Proofs.YtkbbngkfncbgkaaDoor.IQWords (Ky KyOk Tn QS Hd)
set_option linter.unusedVariables false
set_option linter.unusedSimpArgs false
theorem at_add (g n : Nat) : (⟨g, 0, none⟩ : Addr).add n = ⟨g, n, none⟩ := by
  unfold Addr.add
  split
  · rename_i h; rw [h]
  · rw [Nat.zero_add]
def oc (o : Opp) : List Value := [.int .i64 o.kd, .bool o.oth, .int .i64 o.k.d, .int .i64 o.k.l, .int .i64 o.k.k, .int .i64 o.n]
theorem oc_get : ∀ (l : List Opp) (i c : Nat) (o : Opp), l[i]? = some o → c < 6 → (l.flatMap oc)[i * 6 + c]? = (oc o)[c]?
  | [], i, c, o, h, _ => by cases h
  | a :: r, 0, c, o, h, hc => by
    injection h with h
    subst h
    rw [List.flatMap_cons, List.getElem?_append_left (by simp [oc]; omega), Nat.zero_mul, Nat.zero_add]
  | a :: r, i + 1, c, o, h, hc => by
    rw [List.flatMap_cons, List.getElem?_append_right (by simp [oc]; omega), show (i + 1) * 6 + c - (oc a).length = i * 6 + c by simp [oc]; omega]
    exact oc_get r i c o h hc
theorem OR_block {W : World} {g : Nat} {ops : List Opp} (hc : ∀ j, j < ops.length * 6 → W.cell? ⟨g, j, none⟩ = (ops.flatMap oc)[j]?) : OR W (some ⟨g, 0, none⟩) ops := fun i o hi => by
  have hl : i < ops.length := (List.getElem?_eq_some_iff.1 hi).1
  have h : ∀ c, c < 6 → W.cell? ⟨g, i * 6 + c, none⟩ = (oc o)[c]? := fun c hc2 => by rw [hc _ (by omega), oc_get ops i c o hi hc2]
  refine ⟨_, rfl, ?_, ?_, ?_, ?_, ?_, ?_⟩
  · rw [at_add]; exact h 0 (by decide)
  · rw [at_add]; exact h 1 (by decide)
  · rw [at_add]; exact h 2 (by decide)
  · rw [at_add]; exact h 3 (by decide)
  · rw [at_add]; exact h 4 (by decide)
  · rw [at_add]; exact h 5 (by decide)
theorem OR_lit (w : World) (ops : List Opp) (a : Array Value) (h : a.toList = ops.flatMap oc) : OR (w.alloc (.cells a 26)) (some ⟨w.heap.size, 0, none⟩) ops :=
  OR_block fun j hj => by
    rw [cell_of_row _ w.heap.size j a _ (0, 0) (heap_alloc_new w _), ← h]
    simp
theorem lit_ok {n : Int} (h1 : -9223372036854775808 ≤ n) (h2 : n ≤ 9223372036854775807) : (Lit.int .i64 n).wf = true := by
  simp [Lit.wf, IntKind.min, IntKind.max, IntKind.signed, IntKind.bits]
  omega
set_option maxHeartbeats 8000000 in
set_option maxRecDepth 1000000 in
theorem puts_walk (A : Option Addr) (cap : Nat) (ops : List Opp) (w : World) (hr : OR w A ops) (hok : ∀ o ∈ ops, OpOk o) (hlen : ops.length < 2940000000000) (hP : PowAt w) :
    Calls Tryd.prog 3 #[.slice A ops.length cap] w fun e w' => e = .returned (.bool true) ∧ Below w.heap.size w w' := by
  have hT1 := Tn.alloc w (.cells #[.int .i64 1, .bool false, .int .i64 1, .int .i64 1, .int .i64 1, .int .i64 1] 26) (fun _ => False)
  have U1 : Hd (Calls Tryd.prog 7 #[.slice (some ⟨w.heap.size, 0, none⟩) 1 1, .int .i64 1, .int .i64 1] (w.alloc (.cells #[.int .i64 1, .bool false, .int .i64 1, .int .i64 1, .int .i64 1, .int .i64 1] 26)) fun e w' => e = .returned (.bool true) ∧ Below (w.alloc (.cells #[.int .i64 1, .bool false, .int .i64 1, .int .i64 1, .int .i64 1, .int .i64 1] 26)).heap.size (w.alloc (.cells #[.int .i64 1, .bool false, .int .i64 1, .int .i64 1, .int .i64 1, .int .i64 1] 26)) w') :=
    ⟨upto_calls (some ⟨w.heap.size, 0, none⟩) 1 [⟨1, false, ⟨1, 1, 1⟩, 1⟩] 1 1 _ (OR_lit w [⟨1, false, ⟨1, 1, 1⟩, 1⟩] _ rfl) (fun o ho => by
      simp only [List.mem_cons, List.not_mem_nil, or_false] at ho
      first
        | (subst ho; exact ⟨⟨lit_ok (by decide) (by decide), lit_ok (by decide) (by decide), lit_ok (by decide) (by decide)⟩, lit_ok (by decide) (by decide)⟩)
        | (rcases ho with rfl | rfl <;> exact ⟨⟨lit_ok (by decide) (by decide), lit_ok (by decide) (by decide), lit_ok (by decide) (by decide)⟩, lit_ok (by decide) (by decide)⟩)) (by simp) (PowAt_of hP (hT1.block 0 (PowAt_lt hP) (fun h => h)))⟩
  have HR1 := Hd.mk (hr.kept hT1)
  have HP1 := Hd.mk (PowAt_of hP (hT1.block 0 (PowAt_lt hP) (fun h => h)) : PowAt (w.alloc (.cells #[.int .i64 1, .bool false, .int .i64 1, .int .i64 1, .int .i64 1, .int .i64 1] 26)))
  have HT1 := Hd.mk hT1
  have HOK := Hd.mk hok
  clear hr hT1 hP hok
  go_enter Tryd.func3, Tryd.ntmps3
  go_upto_region 2 with (fail)
  obtain ⟨fb, hfb⟩ : ∃ fb, w.heap.size = fb := ⟨_, rfl⟩
  have HFB := Hd.mk hfb
  rw [hfb] at U1 ⊢
  generalize hW : w.alloc (.cells #[.int .i64 1, .bool false, .int .i64 1, .int .i64 1, .int .i64 1, .int .i64 1] 26) = W1 at U1 HR1 HP1 HT1 ⊢
  clear hW hfb
  have U2 : Hd (∀ W, Below W1.heap.size W1 W → Calls Tryd.prog 7 #[.slice A ops.length cap, .int .i64 1, .int .i64 1] W fun e w' => e = .returned (.bool true) ∧ Below W.heap.size W w') :=
    ⟨fun W hb => upto_calls A cap ops 1 1 W (HR1.out.kept (Tn.of_below hb _)) HOK.out hlen (pw_b hb HP1.out)⟩
  go_wp2_with (first | (go_at_call 7; with_reducible refine U1.out.mono ?_; rintro e W2 ⟨rfl, hb2⟩; have HB2 := Hd.mk hb2; clear hb2) | (go_at_call 7; with_reducible refine (U2.out _ HB2.out).mono ?_; rintro e W3 ⟨rfl, hb3⟩; have HB3 := Hd.mk hb3; clear hb3))
  go_ret
  exact ⟨rfl, ((HT1.out.then_ (Tn.of_below HB2.out (fun _ => False)) (fun _ h => h.elim)).then_ (Tn.of_below HB3.out (fun _ => False)) (fun _ h => h.elim)).below (Nat.le_refl _) (fun _ h => h.elim)⟩
set_option maxHeartbeats 8000000 in
set_option maxRecDepth 1000000 in
theorem moves_walk (A : Option Addr) (cap : Nat) (ops : List Opp) (w : World) (hr : OR w A ops) (hok : ∀ o ∈ ops, OpOk o) (hlen : ops.length < 2940000000000) (hP : PowAt w) :
    Calls Tryd.prog 4 #[.slice A ops.length cap] w fun e w' => e = .returned (.bool true) ∧ Below w.heap.size w w' := by
  have hT1 := Tn.alloc w (.cells #[.int .i64 4, .bool false, .int .i64 1, .int .i64 1, .int .i64 1, .int .i64 5] 26) (fun _ => False)
  have U1 : Hd (Calls Tryd.prog 7 #[.slice (some ⟨w.heap.size, 0, none⟩) 1 1, .int .i64 4, .int .i64 4] (w.alloc (.cells #[.int .i64 4, .bool false, .int .i64 1, .int .i64 1, .int .i64 1, .int .i64 5] 26)) fun e w' => e = .returned (.bool true) ∧ Below (w.alloc (.cells #[.int .i64 4, .bool false, .int .i64 1, .int .i64 1, .int .i64 1, .int .i64 5] 26)).heap.size (w.alloc (.cells #[.int .i64 4, .bool false, .int .i64 1, .int .i64 1, .int .i64 1, .int .i64 5] 26)) w') :=
    ⟨upto_calls (some ⟨w.heap.size, 0, none⟩) 1 [⟨4, false, ⟨1, 1, 1⟩, 5⟩] 4 4 _ (OR_lit w [⟨4, false, ⟨1, 1, 1⟩, 5⟩] _ rfl) (fun o ho => by
      simp only [List.mem_cons, List.not_mem_nil, or_false] at ho
      first
        | (subst ho; exact ⟨⟨lit_ok (by decide) (by decide), lit_ok (by decide) (by decide), lit_ok (by decide) (by decide)⟩, lit_ok (by decide) (by decide)⟩)
        | (rcases ho with rfl | rfl <;> exact ⟨⟨lit_ok (by decide) (by decide), lit_ok (by decide) (by decide), lit_ok (by decide) (by decide)⟩, lit_ok (by decide) (by decide)⟩)) (by simp) (PowAt_of hP (hT1.block 0 (PowAt_lt hP) (fun h => h)))⟩
  have HR1 := Hd.mk (hr.kept hT1)
  have HP1 := Hd.mk (PowAt_of hP (hT1.block 0 (PowAt_lt hP) (fun h => h)) : PowAt (w.alloc (.cells #[.int .i64 4, .bool false, .int .i64 1, .int .i64 1, .int .i64 1, .int .i64 5] 26)))
  have HT1 := Hd.mk hT1
  have HOK := Hd.mk hok
  clear hr hT1 hP hok
  go_enter Tryd.func4, Tryd.ntmps4
  go_upto_region 2 with (fail)
  obtain ⟨fb, hfb⟩ : ∃ fb, w.heap.size = fb := ⟨_, rfl⟩
  have HFB := Hd.mk hfb
  rw [hfb] at U1 ⊢
  generalize hW : w.alloc (.cells #[.int .i64 4, .bool false, .int .i64 1, .int .i64 1, .int .i64 1, .int .i64 5] 26) = W1 at U1 HR1 HP1 HT1 ⊢
  clear hW hfb
  have U2 : Hd (∀ W, Below W1.heap.size W1 W → Calls Tryd.prog 7 #[.slice A ops.length cap, .int .i64 4, .int .i64 4] W fun e w' => e = .returned (.bool true) ∧ Below W.heap.size W w') :=
    ⟨fun W hb => upto_calls A cap ops 4 4 W (HR1.out.kept (Tn.of_below hb _)) HOK.out hlen (pw_b hb HP1.out)⟩
  go_wp2_with (first | (go_at_call 7; with_reducible refine U1.out.mono ?_; rintro e W2 ⟨rfl, hb2⟩; have HB2 := Hd.mk hb2; clear hb2) | (go_at_call 7; with_reducible refine (U2.out _ HB2.out).mono ?_; rintro e W3 ⟨rfl, hb3⟩; have HB3 := Hd.mk hb3; clear hb3))
  go_ret
  exact ⟨rfl, ((HT1.out.then_ (Tn.of_below HB2.out (fun _ => False)) (fun _ h => h.elim)).then_ (Tn.of_below HB3.out (fun _ => False)) (fun _ h => h.elim)).below (Nat.le_refl _) (fun _ h => h.elim)⟩
set_option maxHeartbeats 8000000 in
set_option maxRecDepth 1000000 in
theorem pops_walk (A : Option Addr) (cap : Nat) (ops : List Opp) (w : World) (hr : OR w A ops) (hok : ∀ o ∈ ops, OpOk o) (hlen : ops.length < 2940000000000) (hP : PowAt w) :
    Calls Tryd.prog 5 #[.slice A ops.length cap] w fun e w' => e = .returned (.bool true) ∧ Below w.heap.size w w' := by
  have hT1 := Tn.alloc w (.cells #[.int .i64 1, .bool false, .int .i64 1, .int .i64 1, .int .i64 1, .int .i64 5, .int .i64 6, .bool false, .int .i64 0, .int .i64 0, .int .i64 0, .int .i64 1] 26) (fun _ => False)
  have U1 : Hd (Calls Tryd.prog 7 #[.slice (some ⟨w.heap.size, 0, none⟩) 2 2, .int .i64 6, .int .i64 6] (w.alloc (.cells #[.int .i64 1, .bool false, .int .i64 1, .int .i64 1, .int .i64 1, .int .i64 5, .int .i64 6, .bool false, .int .i64 0, .int .i64 0, .int .i64 0, .int .i64 1] 26)) fun e w' => e = .returned (.bool true) ∧ Below (w.alloc (.cells #[.int .i64 1, .bool false, .int .i64 1, .int .i64 1, .int .i64 1, .int .i64 5, .int .i64 6, .bool false, .int .i64 0, .int .i64 0, .int .i64 0, .int .i64 1] 26)).heap.size (w.alloc (.cells #[.int .i64 1, .bool false, .int .i64 1, .int .i64 1, .int .i64 1, .int .i64 5, .int .i64 6, .bool false, .int .i64 0, .int .i64 0, .int .i64 0, .int .i64 1] 26)) w') :=
    ⟨upto_calls (some ⟨w.heap.size, 0, none⟩) 2 [⟨1, false, ⟨1, 1, 1⟩, 5⟩, ⟨6, false, ⟨0, 0, 0⟩, 1⟩] 6 6 _ (OR_lit w [⟨1, false, ⟨1, 1, 1⟩, 5⟩, ⟨6, false, ⟨0, 0, 0⟩, 1⟩] _ rfl) (fun o ho => by
      simp only [List.mem_cons, List.not_mem_nil, or_false] at ho
      first
        | (subst ho; exact ⟨⟨lit_ok (by decide) (by decide), lit_ok (by decide) (by decide), lit_ok (by decide) (by decide)⟩, lit_ok (by decide) (by decide)⟩)
        | (rcases ho with rfl | rfl <;> exact ⟨⟨lit_ok (by decide) (by decide), lit_ok (by decide) (by decide), lit_ok (by decide) (by decide)⟩, lit_ok (by decide) (by decide)⟩)) (by simp) (PowAt_of hP (hT1.block 0 (PowAt_lt hP) (fun h => h)))⟩
  have HR1 := Hd.mk (hr.kept hT1)
  have HP1 := Hd.mk (PowAt_of hP (hT1.block 0 (PowAt_lt hP) (fun h => h)) : PowAt (w.alloc (.cells #[.int .i64 1, .bool false, .int .i64 1, .int .i64 1, .int .i64 1, .int .i64 5, .int .i64 6, .bool false, .int .i64 0, .int .i64 0, .int .i64 0, .int .i64 1] 26)))
  have HT1 := Hd.mk hT1
  have HOK := Hd.mk hok
  clear hr hT1 hP hok
  go_enter Tryd.func5, Tryd.ntmps5
  go_upto_region 2 with (fail)
  obtain ⟨fb, hfb⟩ : ∃ fb, w.heap.size = fb := ⟨_, rfl⟩
  have HFB := Hd.mk hfb
  rw [hfb] at U1 ⊢
  generalize hW : w.alloc (.cells #[.int .i64 1, .bool false, .int .i64 1, .int .i64 1, .int .i64 1, .int .i64 5, .int .i64 6, .bool false, .int .i64 0, .int .i64 0, .int .i64 0, .int .i64 1] 26) = W1 at U1 HR1 HP1 HT1 ⊢
  clear hW hfb
  have U2 : Hd (∀ W, Below W1.heap.size W1 W → Calls Tryd.prog 7 #[.slice A ops.length cap, .int .i64 6, .int .i64 6] W fun e w' => e = .returned (.bool true) ∧ Below W.heap.size W w') :=
    ⟨fun W hb => upto_calls A cap ops 6 6 W (HR1.out.kept (Tn.of_below hb _)) HOK.out hlen (pw_b hb HP1.out)⟩
  go_wp2_with (first | (go_at_call 7; with_reducible refine U1.out.mono ?_; rintro e W2 ⟨rfl, hb2⟩; have HB2 := Hd.mk hb2; clear hb2) | (go_at_call 7; with_reducible refine (U2.out _ HB2.out).mono ?_; rintro e W3 ⟨rfl, hb3⟩; have HB3 := Hd.mk hb3; clear hb3))
  go_ret
  exact ⟨rfl, ((HT1.out.then_ (Tn.of_below HB2.out (fun _ => False)) (fun _ h => h.elim)).then_ (Tn.of_below HB3.out (fun _ => False)) (fun _ h => h.elim)).below (Nat.le_refl _) (fun _ h => h.elim)⟩
end Go.Proofs.YtkbbngkfncbgkaaDoor.ULaws
