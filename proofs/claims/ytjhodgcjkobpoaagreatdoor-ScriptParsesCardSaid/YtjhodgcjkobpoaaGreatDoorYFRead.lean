/- script's fields: what each reads into an operation. Conditions: the operation stands in a block of its own; the plain functions answer. -/
import Derived.Test.YtjhodgcjkobpoaaGreatDoorYFWhole
import Derived.Test.YtjhodgcjkobpoaaGreatDoorYPAx6
namespace Go.Proofs.YtjhodgcjkobpoaaGreatDoor.FRead
open Go.RowKit Go.Proofs.YtjhodgcjkobpoaaGreatDoorW.PrintWords Go.Proofs.YtjhodgcjkobpoaaGreatDoorW.PrintLast Go.Proofs.YtjhodgcjkobpoaaGreatDoorW.PrintMore Go.Proofs.YtjhodgcjkobpoaaGreatDoor.PA Go.Proofs.YtjhodgcjkobpoaaGreatDoor.FTell Go.Proofs.YtjhodgcjkobpoaaGreatDoor.FFields Go.Proofs.YtjhodgcjkobpoaaGreatDoor.FWhole
set_option linter.unusedVariables false
set_option linter.unusedSimpArgs false
attribute [local go_sem] pl_store_func
/-- From w to w' one elder block alone may turn: g. -/
structure Tz (g : Nat) (w w' : World) : Prop where
  os : w'.os = w.os
  tape : w'.tape = w.tape
  output : w'.output = w.output
  size : w.heap.size ≤ w'.heap.size
  block : ∀ i, i < w.heap.size → i ≠ g → w'.heap[i]? = w.heap[i]?
theorem Tz.of {g : Nat} {w w' : World} (h : Below w.heap.size w w') : Tz g w w' := ⟨h.os, h.tape, h.output, h.size, fun i hi _ => h.block i hi⟩
theorem Tz.trans {g : Nat} {a b c : World} (h : Tz g a b) (k : Tz g b c) : Tz g a c :=
  ⟨k.os.trans h.os, k.tape.trans h.tape, k.output.trans h.output, Nat.le_trans h.size k.size, fun i hi hn => (k.block i (Nat.lt_of_lt_of_le hi h.size) hn).trans (h.block i hi hn)⟩
theorem Tz.set (g j : Nat) (w : World) (v : Value) : Tz g w (w.setCell ⟨g, j, none⟩ v) :=
  ⟨rfl, rfl, rfl, by simp, fun i _ hn => Below.heap_setCell w ⟨g, j, none⟩ v i hn⟩
theorem Tz.below {g B : Nat} {a w w' : World} (h : Tz g w w') (hb : Below B a w) (hB : B ≤ g) (hs : B ≤ w.heap.size) : Below B a w' :=
  ⟨h.os.trans hb.os, h.tape.trans hb.tape, h.output.trans hb.output, Nat.le_trans hb.size h.size, fun i hi => (h.block i (by omega) (by omega)).trans (hb.block i hi)⟩
theorem tl_inj {s t : ByteArray} (h : s.toList = t.toList) : s = t := by
  rw [ByteArray.toList_eq, ByteArray.toList_eq] at h
  exact ByteArray.ext (Array.toList_inj.1 h)
theorem other {W : World} {g j i : Nat} {v : Value} {o : Obj} (h : W.heap[i]? = some o) (hn : i ≠ g) : (W.setCell ⟨g, j, none⟩ v).heap[i]? = some o := (Below.heap_setCell W ⟨g, j, none⟩ v i hn).trans h
set_option maxHeartbeats 8000000 in
set_option maxRecDepth 100000 in
theorem rate_read (a0 a1 a2 a3 a4 a5 : Int) (a6 : ByteArray) (g : Nat) (s : ByteArray) (w : World) (hg : w.heap[g]? = some (.cells #[.int .i64 a0, .int .i64 a1, .int .i64 a2, .int .i64 a3, .int .i64 a4, .int .i64 a5, .string a6] 25 (0, 0))) :
    Calls Tryz.prog 57 #[.string s, .pointer (some ⟨g, 0, none⟩)] w fun e w' => ∃ gf, e = .returned (errOf gf (wv s)) ∧ w'.heap[gf]? = some (.cells #[.int .i64 182] 51 (0, 0)) ∧ w.heap.size ≤ gf ∧ w'.heap[g]? = some (.cells #[.int .i64 a0, .int .i64 a1, .int .i64 a2, .int .i64 ((wv s).getD 0), .int .i64 a4, .int .i64 a5, .string a6] 25 (0, 0)) ∧ Tz g w w' := by
  have hu := Tryz.underlying25
  obtain ⟨x, hx⟩ : ∃ x, x = (wv s).getD 0 := ⟨_, rfl⟩
  have HX := Aside0.mk hx
  go_enter Tryz.func57, Tryz.ntmps57
  go_wp2_with (first | (go_at_call 50; (with_reducible refine (whole_c s _).mono ?_); rintro e W1 ⟨gf, rfl, hgf, hle, hb⟩; have n0_ := Aside0.mk (hb.block g (blk_lt hg)|>.trans hg); have n1_ := Aside0.mk hb; have n2_ := Aside0.mk hgf; have n3_ := Aside0.mk hle; clear hb hgf hle; have hcz : W1.cell? ⟨g, 3, none⟩ = some (.int .i64 a3) := (blk_cell n0_.out 3).trans rfl; have hfz := blk_frozen n0_.out 3))
  go_ret
  exact ⟨gf, rfl, other n2_.out (by have := blk_lt hg; have := n3_.out; omega), n3_.out, blk_put n0_.out 3 _ rfl, (Tz.of n1_.out).trans (Tz.set g 3 _ _)⟩
set_option maxHeartbeats 8000000 in
set_option maxRecDepth 100000 in
theorem loan_read (a0 a1 a2 a3 a4 a5 : Int) (a6 : ByteArray) (g : Nat) (s : ByteArray) (b : Nat) (w : World) (hb0 : b < w.heap.size) (hbc : w.cell? ⟨b, 0, none⟩ = some (.func (.func 36) #[] #[])) (hg : w.heap[g]? = some (.cells #[.int .i64 a0, .int .i64 a1, .int .i64 a2, .int .i64 a3, .int .i64 a4, .int .i64 a5, .string a6] 25 (0, 0))) :
    Calls Tryz.prog 49 #[.string s, .pointer (some ⟨g, 0, none⟩), .pointer (some ⟨b, 0, none⟩)] w fun e w' => ∃ gf, e = .returned (errOf gf (wv s)) ∧ w'.heap[gf]? = some (.cells #[.int .i64 182] 51 (0, 0)) ∧ w.heap.size ≤ gf ∧ w'.heap[g]? = some (.cells #[.int .i64 a0, .int .i64 ((wv s).getD 0), .int .i64 a2, .int .i64 a3, .int .i64 a4, .int .i64 a5, .string a6] 25 (0, 0)) ∧ Tz g w w' := by
  have hu := Tryz.underlying25
  obtain ⟨x, hx⟩ : ∃ x, x = (wv s).getD 0 := ⟨_, rfl⟩
  have HX := Aside0.mk hx
  go_enter Tryz.func49, Tryz.ntmps49
  go_wp2_with (first | (go_at_call 50; (with_reducible refine (whole_c s _).mono ?_); rintro e W1 ⟨gf, rfl, hgf, hle, hb⟩; have n0_ := Aside0.mk (hb.block g (blk_lt hg)|>.trans hg); have n1_ := Aside0.mk hb; have n2_ := Aside0.mk hgf; have n3_ := Aside0.mk hle; clear hb hgf hle; have hcz : W1.cell? ⟨g, 1, none⟩ = some (.int .i64 a1) := (blk_cell n0_.out 1).trans rfl; have hfz := blk_frozen n0_.out 1; have hbc1 : W1.cell? ⟨b, 0, none⟩ = some (.func (.func 36) #[] #[]) := (n1_.out.cell (p := ⟨b, 0, none⟩) hb0).trans hbc) | (go_at_call 36; (with_reducible refine (loan_at g _).mono ?_); rintro e W2 ⟨rfl, hw2⟩; have hw3 := hw2.symm; subst hw3; (try clear hw2)))
  go_ret
  exact ⟨gf, rfl, other n2_.out (by have := blk_lt hg; have := n3_.out; omega), n3_.out, blk_put n0_.out 1 _ rfl, (Tz.of n1_.out).trans (Tz.set g 1 _ _)⟩
set_option maxHeartbeats 8000000 in
set_option maxRecDepth 100000 in
theorem count_read (a0 a1 a2 a3 a4 a5 : Int) (a6 : ByteArray) (g : Nat) (s : ByteArray) (b : Nat) (w : World) (hb0 : b < w.heap.size) (hbc : w.cell? ⟨b, 0, none⟩ = some (.func (.func 39) #[] #[])) (hg : w.heap[g]? = some (.cells #[.int .i64 a0, .int .i64 a1, .int .i64 a2, .int .i64 a3, .int .i64 a4, .int .i64 a5, .string a6] 25 (0, 0))) :
    Calls Tryz.prog 49 #[.string s, .pointer (some ⟨g, 0, none⟩), .pointer (some ⟨b, 0, none⟩)] w fun e w' => ∃ gf, e = .returned (errOf gf (wv s)) ∧ w'.heap[gf]? = some (.cells #[.int .i64 182] 51 (0, 0)) ∧ w.heap.size ≤ gf ∧ w'.heap[g]? = some (.cells #[.int .i64 a0, .int .i64 a1, .int .i64 a2, .int .i64 a3, .int .i64 ((wv s).getD 0), .int .i64 a5, .string a6] 25 (0, 0)) ∧ Tz g w w' := by
  have hu := Tryz.underlying25
  obtain ⟨x, hx⟩ : ∃ x, x = (wv s).getD 0 := ⟨_, rfl⟩
  have HX := Aside0.mk hx
  go_enter Tryz.func49, Tryz.ntmps49
  go_wp2_with (first | (go_at_call 50; (with_reducible refine (whole_c s _).mono ?_); rintro e W1 ⟨gf, rfl, hgf, hle, hb⟩; have n0_ := Aside0.mk (hb.block g (blk_lt hg)|>.trans hg); have n1_ := Aside0.mk hb; have n2_ := Aside0.mk hgf; have n3_ := Aside0.mk hle; clear hb hgf hle; have hcz : W1.cell? ⟨g, 4, none⟩ = some (.int .i64 a4) := (blk_cell n0_.out 4).trans rfl; have hfz := blk_frozen n0_.out 4; have hbc1 : W1.cell? ⟨b, 0, none⟩ = some (.func (.func 39) #[] #[]) := (n1_.out.cell (p := ⟨b, 0, none⟩) hb0).trans hbc) | (go_at_call 39; (with_reducible refine (count_at g _).mono ?_); rintro e W2 ⟨rfl, hw2⟩; have hw3 := hw2.symm; subst hw3; (try clear hw2)))
  go_ret
  exact ⟨gf, rfl, other n2_.out (by have := blk_lt hg; have := n3_.out; omega), n3_.out, blk_put n0_.out 4 _ rfl, (Tz.of n1_.out).trans (Tz.set g 4 _ _)⟩
set_option maxHeartbeats 8000000 in
set_option maxRecDepth 100000 in
theorem days_read (a0 a1 a2 a3 a4 a5 : Int) (a6 : ByteArray) (g : Nat) (s : ByteArray) (b : Nat) (w : World) (hb0 : b < w.heap.size) (hbc : w.cell? ⟨b, 0, none⟩ = some (.func (.func 41) #[] #[])) (hg : w.heap[g]? = some (.cells #[.int .i64 a0, .int .i64 a1, .int .i64 a2, .int .i64 a3, .int .i64 a4, .int .i64 a5, .string a6] 25 (0, 0))) :
    Calls Tryz.prog 49 #[.string s, .pointer (some ⟨g, 0, none⟩), .pointer (some ⟨b, 0, none⟩)] w fun e w' => ∃ gf, e = .returned (errOf gf (wv s)) ∧ w'.heap[gf]? = some (.cells #[.int .i64 182] 51 (0, 0)) ∧ w.heap.size ≤ gf ∧ w'.heap[g]? = some (.cells #[.int .i64 a0, .int .i64 a1, .int .i64 a2, .int .i64 a3, .int .i64 a4, .int .i64 ((wv s).getD 0), .string a6] 25 (0, 0)) ∧ Tz g w w' := by
  have hu := Tryz.underlying25
  obtain ⟨x, hx⟩ : ∃ x, x = (wv s).getD 0 := ⟨_, rfl⟩
  have HX := Aside0.mk hx
  go_enter Tryz.func49, Tryz.ntmps49
  go_wp2_with (first | (go_at_call 50; (with_reducible refine (whole_c s _).mono ?_); rintro e W1 ⟨gf, rfl, hgf, hle, hb⟩; have n0_ := Aside0.mk (hb.block g (blk_lt hg)|>.trans hg); have n1_ := Aside0.mk hb; have n2_ := Aside0.mk hgf; have n3_ := Aside0.mk hle; clear hb hgf hle; have hcz : W1.cell? ⟨g, 5, none⟩ = some (.int .i64 a5) := (blk_cell n0_.out 5).trans rfl; have hfz := blk_frozen n0_.out 5; have hbc1 : W1.cell? ⟨b, 0, none⟩ = some (.func (.func 41) #[] #[]) := (n1_.out.cell (p := ⟨b, 0, none⟩) hb0).trans hbc) | (go_at_call 41; (with_reducible refine (days_at g _).mono ?_); rintro e W2 ⟨rfl, hw2⟩; have hw3 := hw2.symm; subst hw3; (try clear hw2)))
  go_ret
  exact ⟨gf, rfl, other n2_.out (by have := blk_lt hg; have := n3_.out; omega), n3_.out, blk_put n0_.out 5 _ rfl, (Tz.of n1_.out).trans (Tz.set g 5 _ _)⟩
set_option maxHeartbeats 8000000 in
set_option maxRecDepth 100000 in
theorem amount_bad (a0 a1 a2 a3 a4 a5 : Int) (a6 : ByteArray) (g : Nat) (s : ByteArray) (k : Nat) (n : Int) (w : World) (hg : w.heap[g]? = some (.cells #[.int .i64 a0, .int .i64 a1, .int .i64 a2, .int .i64 a3, .int .i64 a4, .int .i64 a5, .string a6] 25 (0, 0))) (h : money_Parse.f k s = some (n, false)) :
    Calls Tryz.prog 53 #[.string s, .pointer (some ⟨g, 0, none⟩)] w fun e w' => ∃ gf, e = .returned (FAULT gf) ∧ w'.heap[gf]? = some (.cells #[.int .i64 182] 51 (0, 0)) ∧ w.heap.size ≤ gf ∧ w'.heap[g]? = some (.cells #[.int .i64 a0, .int .i64 a1, .int .i64 a2, .int .i64 a3, .int .i64 a4, .int .i64 a5, .string a6] 25 (0, 0)) ∧ Tz g w w' := by
  have hu := Tryz.underlying25
  go_enter Tryz.func53, Tryz.ntmps53
  go_wp2_with (first | (go_at_call 54; (with_reducible refine (money_Parse.calls k s n false _ h).mono ?_); rintro e W1 ⟨rfl, ⟨⟨nd, rfl⟩⟩⟩))
  go_ret
  exact ⟨w.heap.size, rfl, blk_new _ _, Nat.le_refl _, blk_alloc hg _, Tz.of (below_alloc (pw_below_drewN (Below.refl _ _) _) _)⟩
set_option maxHeartbeats 8000000 in
set_option maxRecDepth 100000 in
theorem amount_ok (a0 a1 a2 a3 a4 a5 : Int) (a6 : ByteArray) (g : Nat) (s : ByteArray) (k : Nat) (n : Int) (w : World) (hg : w.heap[g]? = some (.cells #[.int .i64 a0, .int .i64 a1, .int .i64 a2, .int .i64 a3, .int .i64 a4, .int .i64 a5, .string a6] 25 (0, 0))) (h : money_Parse.f k s = some (n, true)) :
    Calls Tryz.prog 53 #[.string s, .pointer (some ⟨g, 0, none⟩)] w fun e w' => e = .returned .nilIface ∧ w'.heap[g]? = some (.cells #[.int .i64 a0, .int .i64 a1, .int .i64 n, .int .i64 a3, .int .i64 a4, .int .i64 a5, .string a6] 25 (0, 0)) ∧ Tz g w w' := by
  have hu := Tryz.underlying25
  have hcz : ∀ q : Nat, (w.drewN q).cell? ⟨g, 2, none⟩ = some (.int .i64 a2) := fun q => (blk_cell (w := w.drewN q) hg 2).trans rfl
  have hfz : ∀ q : Nat, (w.drewN q).frozen? ⟨g, 2, none⟩ = false := fun q => blk_frozen (w := w.drewN q) hg 2
  go_enter Tryz.func53, Tryz.ntmps53
  go_wp2_with (first | (go_at_call 54; (with_reducible refine (money_Parse.calls k s n true _ h).mono ?_); rintro e W1 ⟨rfl, ⟨⟨nd, rfl⟩⟩⟩))
  go_ret
  exact ⟨rfl, blk_put (w := w.drewN nd) hg 2 _ rfl, (Tz.of (pw_below_drewN (Below.refl _ _) _)).trans (Tz.set g 2 _ _)⟩
set_option maxHeartbeats 8000000 in
set_option maxRecDepth 100000 in
theorem letters_bad (a0 a1 a2 a3 a4 a5 : Int) (a6 : ByteArray) (g : Nat) (s : ByteArray) (w : World) (hg : w.heap[g]? = some (.cells #[.int .i64 a0, .int .i64 a1, .int .i64 a2, .int .i64 a3, .int .i64 a4, .int .i64 a5, .string a6] 25 (0, 0))) (h : s.toList.isEmpty = true) :
    Calls Tryz.prog 61 #[.string s, .pointer (some ⟨g, 0, none⟩)] w fun e w' => ∃ gf, e = .returned (FAULT gf) ∧ w'.heap[gf]? = some (.cells #[.int .i64 182] 51 (0, 0)) ∧ w.heap.size ≤ gf ∧ w'.heap[g]? = some (.cells #[.int .i64 a0, .int .i64 a1, .int .i64 a2, .int .i64 a3, .int .i64 a4, .int .i64 a5, .string a6] 25 (0, 0)) ∧ Tz g w w' := by
  have hu := Tryz.underlying25
  go_enter Tryz.func61, Tryz.ntmps61
  go_wp2
  go_ret
  exact ⟨w.heap.size, rfl, blk_new _ _, Nat.le_refl _, blk_alloc hg _, Tz.of (below_alloc (Below.refl _ _) _)⟩
set_option maxHeartbeats 8000000 in
set_option maxRecDepth 100000 in
theorem letters_ok (a0 a1 a2 a3 a4 a5 : Int) (a6 : ByteArray) (g : Nat) (s : ByteArray) (w : World) (hg : w.heap[g]? = some (.cells #[.int .i64 a0, .int .i64 a1, .int .i64 a2, .int .i64 a3, .int .i64 a4, .int .i64 a5, .string a6] 25 (0, 0))) (h : s.toList.isEmpty = false) :
    Calls Tryz.prog 61 #[.string s, .pointer (some ⟨g, 0, none⟩)] w fun e w' => e = .returned .nilIface ∧ w'.heap[g]? = some (.cells #[.int .i64 a0, .int .i64 a1, .int .i64 a2, .int .i64 a3, .int .i64 a4, .int .i64 a5, .string s] 25 (0, 0)) ∧ Tz g w w' := by
  have hu := Tryz.underlying25
  have hcz : w.cell? ⟨g, 6, none⟩ = some (.string a6) := (blk_cell hg 6).trans rfl
  have hfz := blk_frozen hg 6
  go_enter Tryz.func61, Tryz.ntmps61
  go_wp2
  go_ret
  exact ⟨rfl, blk_put hg 6 _ rfl, Tz.set g 6 _ _⟩
theorem types_at0 (w : World) : (Instr.index 117 (.agg #[.string ⟨#[108, 101, 118, 101, 108]⟩, .string ⟨#[101, 113, 117, 97, 108]⟩, .string ⟨#[98, 97, 108, 108, 111, 111, 110]⟩]) (.int .i64 0)).run Tryz.prog w = .ok (.string ⟨#[108, 101, 118, 101, 108]⟩) w := by kernel_rfl
theorem types_at1 (w : World) : (Instr.index 117 (.agg #[.string ⟨#[108, 101, 118, 101, 108]⟩, .string ⟨#[101, 113, 117, 97, 108]⟩, .string ⟨#[98, 97, 108, 108, 111, 111, 110]⟩]) (.int .i64 1)).run Tryz.prog w = .ok (.string ⟨#[101, 113, 117, 97, 108]⟩) w := by kernel_rfl
theorem types_at2 (w : World) : (Instr.index 117 (.agg #[.string ⟨#[108, 101, 118, 101, 108]⟩, .string ⟨#[101, 113, 117, 97, 108]⟩, .string ⟨#[98, 97, 108, 108, 111, 111, 110]⟩]) (.int .i64 2)).run Tryz.prog w = .ok (.string ⟨#[98, 97, 108, 108, 111, 111, 110]⟩) w := by kernel_rfl
set_option maxHeartbeats 8000000 in
set_option maxRecDepth 100000 in
theorem plan_ok0 (a0 a1 a2 a3 a4 a5 : Int) (a6 : ByteArray) (g : Nat) (w : World) (hg : w.heap[g]? = some (.cells #[.int .i64 a0, .int .i64 a1, .int .i64 a2, .int .i64 a3, .int .i64 a4, .int .i64 a5, .string a6] 25 (0, 0))) (hrP : PowAt w) :
    Calls Tryz.prog 59 #[.string ⟨#[108, 101, 118, 101, 108]⟩, .pointer (some ⟨g, 0, none⟩)] w fun e w' => e = .returned .nilIface ∧ w'.heap[g]? = some (.cells #[.int .i64 a0, .int .i64 a1, .int .i64 a2, .int .i64 a3, .int .i64 a4, .int .i64 0, .string a6] 25 (0, 0)) ∧ Tz g w w' := by
  have hu := Tryz.underlying25
  have t0 := PowAt_type hrP 0 _ rfl
  have t1 := PowAt_type hrP 1 _ rfl
  have t2 := PowAt_type hrP 2 _ rfl
  have hcz : w.cell? ⟨g, 5, none⟩ = some (.int .i64 a5) := (blk_cell hg 5).trans rfl
  have hfz := blk_frozen hg 5
  have x0 := types_at0
  have x1 := types_at1
  have x2 := types_at2
  go_enter Tryz.func59, Tryz.ntmps59
  go_wp2
  refine wp_loop_rounds 1 ?_
  rw [rounds_succ]
  go_wp2
  go_ret
  exact ⟨rfl, blk_put hg 5 _ rfl, Tz.set g 5 _ _⟩
set_option maxHeartbeats 8000000 in
set_option maxRecDepth 100000 in
theorem plan_ok1 (a0 a1 a2 a3 a4 a5 : Int) (a6 : ByteArray) (g : Nat) (w : World) (hg : w.heap[g]? = some (.cells #[.int .i64 a0, .int .i64 a1, .int .i64 a2, .int .i64 a3, .int .i64 a4, .int .i64 a5, .string a6] 25 (0, 0))) (hrP : PowAt w) :
    Calls Tryz.prog 59 #[.string ⟨#[101, 113, 117, 97, 108]⟩, .pointer (some ⟨g, 0, none⟩)] w fun e w' => e = .returned .nilIface ∧ w'.heap[g]? = some (.cells #[.int .i64 a0, .int .i64 a1, .int .i64 a2, .int .i64 a3, .int .i64 a4, .int .i64 1, .string a6] 25 (0, 0)) ∧ Tz g w w' := by
  have hu := Tryz.underlying25
  have t0 := PowAt_type hrP 0 _ rfl
  have t1 := PowAt_type hrP 1 _ rfl
  have t2 := PowAt_type hrP 2 _ rfl
  have hcz : w.cell? ⟨g, 5, none⟩ = some (.int .i64 a5) := (blk_cell hg 5).trans rfl
  have hfz := blk_frozen hg 5
  have x0 := types_at0
  have x1 := types_at1
  have x2 := types_at2
  go_enter Tryz.func59, Tryz.ntmps59
  go_wp2
  refine wp_loop_rounds 2 ?_
  rw [rounds_succ]
  go_wp2
  rw [rounds_succ]
  go_wp2
  go_ret
  exact ⟨rfl, blk_put hg 5 _ rfl, Tz.set g 5 _ _⟩
set_option maxHeartbeats 8000000 in
set_option maxRecDepth 100000 in
theorem plan_ok2 (a0 a1 a2 a3 a4 a5 : Int) (a6 : ByteArray) (g : Nat) (w : World) (hg : w.heap[g]? = some (.cells #[.int .i64 a0, .int .i64 a1, .int .i64 a2, .int .i64 a3, .int .i64 a4, .int .i64 a5, .string a6] 25 (0, 0))) (hrP : PowAt w) :
    Calls Tryz.prog 59 #[.string ⟨#[98, 97, 108, 108, 111, 111, 110]⟩, .pointer (some ⟨g, 0, none⟩)] w fun e w' => e = .returned .nilIface ∧ w'.heap[g]? = some (.cells #[.int .i64 a0, .int .i64 a1, .int .i64 a2, .int .i64 a3, .int .i64 a4, .int .i64 2, .string a6] 25 (0, 0)) ∧ Tz g w w' := by
  have hu := Tryz.underlying25
  have t0 := PowAt_type hrP 0 _ rfl
  have t1 := PowAt_type hrP 1 _ rfl
  have t2 := PowAt_type hrP 2 _ rfl
  have hcz : w.cell? ⟨g, 5, none⟩ = some (.int .i64 a5) := (blk_cell hg 5).trans rfl
  have hfz := blk_frozen hg 5
  have x0 := types_at0
  have x1 := types_at1
  have x2 := types_at2
  go_enter Tryz.func59, Tryz.ntmps59
  go_wp2
  refine wp_loop_rounds 3 ?_
  rw [rounds_succ]
  go_wp2
  rw [rounds_succ]
  go_wp2
  rw [rounds_succ]
  go_wp2
  go_ret
  exact ⟨rfl, blk_put hg 5 _ rfl, Tz.set g 5 _ _⟩
set_option maxHeartbeats 8000000 in
set_option maxRecDepth 100000 in
theorem plan_bad (a0 a1 a2 a3 a4 a5 : Int) (a6 : ByteArray) (g : Nat) (s : ByteArray) (w : World) (hg : w.heap[g]? = some (.cells #[.int .i64 a0, .int .i64 a1, .int .i64 a2, .int .i64 a3, .int .i64 a4, .int .i64 a5, .string a6] 25 (0, 0))) (hrP : PowAt w) (h0 : s ≠ ⟨#[108, 101, 118, 101, 108]⟩) (h1 : s ≠ ⟨#[101, 113, 117, 97, 108]⟩) (h2 : s ≠ ⟨#[98, 97, 108, 108, 111, 111, 110]⟩) :
    Calls Tryz.prog 59 #[.string s, .pointer (some ⟨g, 0, none⟩)] w fun e w' => ∃ gf, e = .returned (FAULT gf) ∧ w'.heap[gf]? = some (.cells #[.int .i64 182] 51 (0, 0)) ∧ w.heap.size ≤ gf ∧ w'.heap[g]? = some (.cells #[.int .i64 a0, .int .i64 a1, .int .i64 a2, .int .i64 a3, .int .i64 a4, .int .i64 a5, .string a6] 25 (0, 0)) ∧ Tz g w w' := by
  have hu := Tryz.underlying25
  have t0 := PowAt_type hrP 0 _ rfl
  have t1 := PowAt_type hrP 1 _ rfl
  have t2 := PowAt_type hrP 2 _ rfl
  have hcz : w.cell? ⟨g, 5, none⟩ = some (.int .i64 a5) := (blk_cell hg 5).trans rfl
  have hfz := blk_frozen hg 5
  have x0 := types_at0
  have x1 := types_at1
  have x2 := types_at2
  have e0 : (([108, 101, 118, 101, 108] : List UInt8) == s.toList) = false := beq_eq_false_iff_ne.2 (fun h => h0 (tl_inj ((show (⟨#[108, 101, 118, 101, 108]⟩ : ByteArray).toList = [108, 101, 118, 101, 108] by decide +kernel).trans h)).symm)
  have e1 : (([101, 113, 117, 97, 108] : List UInt8) == s.toList) = false := beq_eq_false_iff_ne.2 (fun h => h1 (tl_inj ((show (⟨#[101, 113, 117, 97, 108]⟩ : ByteArray).toList = [101, 113, 117, 97, 108] by decide +kernel).trans h)).symm)
  have e2 : (([98, 97, 108, 108, 111, 111, 110] : List UInt8) == s.toList) = false := beq_eq_false_iff_ne.2 (fun h => h2 (tl_inj ((show (⟨#[98, 97, 108, 108, 111, 111, 110]⟩ : ByteArray).toList = [98, 97, 108, 108, 111, 111, 110] by decide +kernel).trans h)).symm)
  clear h0 h1 h2
  go_enter Tryz.func59, Tryz.ntmps59
  go_wp2
  refine wp_loop_rounds 4 ?_
  rw [rounds_succ]
  go_wp2
  rw [rounds_succ]
  go_wp2
  rw [rounds_succ]
  go_wp2
  rw [rounds_succ]
  go_wp2
  go_ret
  exact ⟨w.heap.size, rfl, blk_new _ _, Nat.le_refl _, blk_alloc hg _, Tz.of (below_alloc (Below.refl _ _) _)⟩
end Go.Proofs.YtjhodgcjkobpoaaGreatDoor.FRead
