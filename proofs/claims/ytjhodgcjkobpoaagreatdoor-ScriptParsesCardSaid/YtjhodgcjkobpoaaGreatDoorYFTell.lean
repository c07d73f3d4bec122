/- script's fields: what each tells. Conditions: the tables stand as laid; the plain functions answer. -/
import Derived.Test.YtjhodgcjkobpoaaGreatDoorYPAx3
import Derived.Test.YtjhodgcjkobpoaaGreatDoorYPAx4
import Derived.Test.YtjhodgcjkobpoaaGreatDoorShelf
import Derived.Shelf.GgClosure.StringsIndexFuncTop
namespace Go.Proofs.YtjhodgcjkobpoaaGreatDoor.FTell
open Go.RowKit Go.Proofs.YtjhodgcjkobpoaaGreatDoorW.PrintWords Go.Proofs.YtjhodgcjkobpoaaGreatDoorW.PrintLast Go.Proofs.YtjhodgcjkobpoaaGreatDoorW.PrintMore Go.Proofs.YtjhodgcjkobpoaaGreatDoor.PA
set_option linter.unusedVariables false
set_option linter.unusedSimpArgs false
/-- A variable's own block, and what lay ahead of it. -/
theorem past {w W : World} {o : Obj} (h : Below (w.alloc o).heap.size (w.alloc o) W) : Below w.heap.size w W :=
  (below_alloc (Below.refl _ _) o).trans (h.mono (by simp))
/-- A space or a line's end. -/
def gapB (r : Nat) : Bool := r == 32 || r == 10
theorem gap_pays (w : World) : PredAt Tryz.prog 64 #[] encR gapB w := fun W r _ => by
  unfold FnGives
  by_cases h1 : r = 32
  · subst h1
    go_enter Tryz.func64, Tryz.ntmps64
    go_wp2
    go_ret
    exact ⟨rfl, 0, rfl⟩
  · have e1 : ((r : Int) == 32) = false := beq_eq_false_iff_ne.2 (by omega)
    have e3 : gapB r = (r == 10) := by unfold gapB; rw [beq_eq_false_iff_ne.2 h1]; rfl
    have e4 : ((r : Int) == 10) = (r == 10) := by
      by_cases h : r = 10
      · subst h; rfl
      · rw [beq_eq_false_iff_ne.2 h, beq_eq_false_iff_ne.2 (by omega)]
    rw [e3, ← e4]
    clear e3 e4
    go_enter Tryz.func64, Tryz.ntmps64
    go_wp2
    go_ret
    exact ⟨rfl, 0, rfl⟩
/-- Has a text a space or a line's end? -/
def hasGap (s : ByteArray) : Bool := decide (0 ≤ Lib.idxFunc gapB true s)
theorem contains_c (s : ByteArray) (w : World) : Calls Tryz.prog 63 #[.string s, .func (.func 64) #[] #[]] w fun e w' => e = .returned (.bool (hasGap s)) ∧ Below w.heap.size w w' :=
  Tryz.strings_ContainsFunc 64 #[] (enters_of Tryz.func64 (by kernel_rfl) rfl) gapB s w (gap_pays w)
set_option maxHeartbeats 4000000 in
set_option maxRecDepth 100000 in
theorem rate_tell (a0 a1 a2 a3 a4 a5 : Int) (a6 : ByteArray) (r1 : ByteArray) (r2 : Bool) (w : World) (hrP : PowAt w) (h : script_digits.f a3 = some (r1, r2)) :
    Calls Tryz.prog 58 #[.agg #[.int .i64 a0, .int .i64 a1, .int .i64 a2, .int .i64 a3, .int .i64 a4, .int .i64 a5, .string a6]] w fun e w' => e = .returned (.tuple #[.string r1, .bool r2]) ∧ Below w.heap.size w w' := by
  have hu := Tryz.underlying25
  go_enter Tryz.func58, Tryz.ntmps58
  go_wp2_with (first | (go_at_call 52; (with_reducible refine (script_digits.calls a3 r1 r2 _ (PowAt_alloc hrP _) h).mono ?_); rintro e W1 ⟨rfl, hb⟩))
  go_ret2
  exact ⟨rfl, past hb⟩
set_option maxHeartbeats 4000000 in
set_option maxRecDepth 100000 in
theorem amount_tell (a0 a1 a2 a3 a4 a5 : Int) (a6 : ByteArray) (r1 : ByteArray) (w : World) (hrP : PowAt w) (h : money_Format.f a2 = some r1) :
    Calls Tryz.prog 55 #[.agg #[.int .i64 a0, .int .i64 a1, .int .i64 a2, .int .i64 a3, .int .i64 a4, .int .i64 a5, .string a6]] w fun e w' => e = .returned (.tuple #[.string r1, .bool true]) ∧ Below w.heap.size w w' := by
  have hu := Tryz.underlying25
  go_enter Tryz.func55, Tryz.ntmps55
  go_wp2_with (first | (go_at_call 56; (with_reducible refine (money_Format.calls a2 r1 _ (PowAt_alloc hrP _) h).mono ?_); rintro e W1 ⟨rfl, hb⟩))
  go_ret2
  exact ⟨rfl, past hb⟩
/-- The word of a kind of plan. -/
def typeAt (n : Int) : ByteArray × Bool := if n = 0 then (⟨#[108, 101, 118, 101, 108]⟩, true) else if n = 1 then (⟨#[101, 113, 117, 97, 108]⟩, true) else if n = 2 then (⟨#[98, 97, 108, 108, 111, 111, 110]⟩, true) else (⟨#[]⟩, false)
set_option maxHeartbeats 4000000 in
set_option maxRecDepth 100000 in
theorem plan_tell (a0 a1 a2 a3 a4 a5 : Int) (a6 : ByteArray) (w : World) (hrP : PowAt w) :
    Calls Tryz.prog 60 #[.agg #[.int .i64 a0, .int .i64 a1, .int .i64 a2, .int .i64 a3, .int .i64 a4, .int .i64 a5, .string a6]] w fun e w' => e = .returned (.tuple #[.string (typeAt a5).1, .bool (typeAt a5).2]) ∧ Below w.heap.size w w' := by
  have hu := Tryz.underlying25
  have hP := PowAt_alloc hrP (.cells #[.int .i64 a0, .int .i64 a1, .int .i64 a2, .int .i64 a3, .int .i64 a4, .int .i64 a5, .string a6] 25 (0, 0))
  have t0 := PowAt_type hP 0 _ rfl
  have t1 := PowAt_type hP 1 _ rfl
  have t2 := PowAt_type hP 2 _ rfl
  clear hP
  by_cases c0 : a5 < 0
  · have e : typeAt a5 = (⟨#[]⟩, false) := by unfold typeAt; rw [if_neg (by omega), if_neg (by omega), if_neg (by omega)]
    rw [e]
    have c0b : decide (a5 < 0) = true := decide_eq_true c0
    clear c0 e t0 t1 t2
    go_enter Tryz.func60, Tryz.ntmps60
    go_wp2
    go_ret2
    exact ⟨rfl, below_alloc (Below.refl _ _) _⟩
  have c0b : decide (a5 < 0) = false := decide_eq_false c0
  by_cases c1 : 3 ≤ a5
  · have e : typeAt a5 = (⟨#[]⟩, false) := by unfold typeAt; rw [if_neg (by omega), if_neg (by omega), if_neg (by omega)]
    rw [e]
    have c1b : decide (a5 ≥ 3) = true := decide_eq_true c1
    have c1c : decide (3 ≤ a5) = true := decide_eq_true c1
    clear c0 c1 e t0 t1 t2
    go_enter Tryz.func60, Tryz.ntmps60
    go_wp2
    go_ret2
    exact ⟨rfl, below_alloc (Below.refl _ _) _⟩
  have hc : a5 = 0 ∨ a5 = 1 ∨ a5 = 2 := by omega
  clear c0 c1 c0b
  rcases hc with rfl | rfl | rfl
  · show Calls _ _ _ _ fun e w' => e = .returned (.tuple #[.string (typeAt 0).1, .bool (typeAt 0).2]) ∧ _
    rw [show typeAt 0 = (⟨#[108, 101, 118, 101, 108]⟩, true) from rfl]
    go_enter Tryz.func60, Tryz.ntmps60
    go_wp2
    go_ret2
    exact ⟨rfl, below_alloc (Below.refl _ _) _⟩
  · show Calls _ _ _ _ fun e w' => e = .returned (.tuple #[.string (typeAt 1).1, .bool (typeAt 1).2]) ∧ _
    rw [show typeAt 1 = (⟨#[101, 113, 117, 97, 108]⟩, true) from rfl]
    go_enter Tryz.func60, Tryz.ntmps60
    go_wp2
    go_ret2
    exact ⟨rfl, below_alloc (Below.refl _ _) _⟩
  · show Calls _ _ _ _ fun e w' => e = .returned (.tuple #[.string (typeAt 2).1, .bool (typeAt 2).2]) ∧ _
    rw [show typeAt 2 = (⟨#[98, 97, 108, 108, 111, 111, 110]⟩, true) from rfl]
    go_enter Tryz.func60, Tryz.ntmps60
    go_wp2
    go_ret2
    exact ⟨rfl, below_alloc (Below.refl _ _) _⟩
set_option maxHeartbeats 4000000 in
set_option maxRecDepth 100000 in
theorem loan_at (g : Nat) (w : World) :
    Calls Tryz.prog 36 #[.pointer (some ⟨g, 0, none⟩)] w fun e w' => e = .returned (.pointer (some ⟨g, 1, none⟩)) ∧ w' = w := by
  have hu := Tryz.underlying25
  go_enter Tryz.func36, Tryz.ntmps36
  go_wp2
  go_ret
  exact ⟨rfl, rfl⟩
set_option maxHeartbeats 4000000 in
set_option maxRecDepth 100000 in
theorem loan_tell (a0 a1 a2 a3 a4 a5 : Int) (a6 : ByteArray) (b : Nat) (r1 : ByteArray) (r2 : Bool) (w : World) (hrP : PowAt w) (hb0 : b < w.heap.size) (hb : w.cell? ⟨b, 0, none⟩ = some (.func (.func 36) #[] #[])) (h : script_digits.f a1 = some (r1, r2)) :
    Calls Tryz.prog 51 #[.agg #[.int .i64 a0, .int .i64 a1, .int .i64 a2, .int .i64 a3, .int .i64 a4, .int .i64 a5, .string a6], .pointer (some ⟨b, 0, none⟩)] w fun e w' => e = .returned (.tuple #[.string r1, .bool r2]) ∧ Below w.heap.size w w' := by
  have hu := Tryz.underlying25
  have hb' : (w.alloc (.cells #[.int .i64 a0, .int .i64 a1, .int .i64 a2, .int .i64 a3, .int .i64 a4, .int .i64 a5, .string a6] 25 (0, 0))).cell? ⟨b, 0, none⟩ = some (.func (.func 36) #[] #[]) := ((below_alloc (Below.refl w.heap.size w) _).cell (p := ⟨b, 0, none⟩) hb0).trans hb
  go_enter Tryz.func51, Tryz.ntmps51
  go_wp2_with (first | (go_at_call 36; (with_reducible refine (loan_at w.heap.size _).mono ?_); rintro e W1 ⟨rfl, rfl⟩) | (go_at_call 52; (with_reducible refine (script_digits.calls a1 r1 r2 _ (PowAt_alloc hrP _) h).mono ?_); rintro e W1 ⟨rfl, hb⟩))
  go_ret2
  exact ⟨rfl, past hb⟩
set_option maxHeartbeats 4000000 in
set_option maxRecDepth 100000 in
theorem count_at (g : Nat) (w : World) :
    Calls Tryz.prog 39 #[.pointer (some ⟨g, 0, none⟩)] w fun e w' => e = .returned (.pointer (some ⟨g, 4, none⟩)) ∧ w' = w := by
  have hu := Tryz.underlying25
  go_enter Tryz.func39, Tryz.ntmps39
  go_wp2
  go_ret
  exact ⟨rfl, rfl⟩
set_option maxHeartbeats 4000000 in
set_option maxRecDepth 100000 in
theorem count_tell (a0 a1 a2 a3 a4 a5 : Int) (a6 : ByteArray) (b : Nat) (r1 : ByteArray) (r2 : Bool) (w : World) (hrP : PowAt w) (hb0 : b < w.heap.size) (hb : w.cell? ⟨b, 0, none⟩ = some (.func (.func 39) #[] #[])) (h : script_digits.f a4 = some (r1, r2)) :
    Calls Tryz.prog 51 #[.agg #[.int .i64 a0, .int .i64 a1, .int .i64 a2, .int .i64 a3, .int .i64 a4, .int .i64 a5, .string a6], .pointer (some ⟨b, 0, none⟩)] w fun e w' => e = .returned (.tuple #[.string r1, .bool r2]) ∧ Below w.heap.size w w' := by
  have hu := Tryz.underlying25
  have hb' : (w.alloc (.cells #[.int .i64 a0, .int .i64 a1, .int .i64 a2, .int .i64 a3, .int .i64 a4, .int .i64 a5, .string a6] 25 (0, 0))).cell? ⟨b, 0, none⟩ = some (.func (.func 39) #[] #[]) := ((below_alloc (Below.refl w.heap.size w) _).cell (p := ⟨b, 0, none⟩) hb0).trans hb
  go_enter Tryz.func51, Tryz.ntmps51
  go_wp2_with (first | (go_at_call 39; (with_reducible refine (count_at w.heap.size _).mono ?_); rintro e W1 ⟨rfl, rfl⟩) | (go_at_call 52; (with_reducible refine (script_digits.calls a4 r1 r2 _ (PowAt_alloc hrP _) h).mono ?_); rintro e W1 ⟨rfl, hb⟩))
  go_ret2
  exact ⟨rfl, past hb⟩
set_option maxHeartbeats 4000000 in
set_option maxRecDepth 100000 in
theorem days_at (g : Nat) (w : World) :
    Calls Tryz.prog 41 #[.pointer (some ⟨g, 0, none⟩)] w fun e w' => e = .returned (.pointer (some ⟨g, 5, none⟩)) ∧ w' = w := by
  have hu := Tryz.underlying25
  go_enter Tryz.func41, Tryz.ntmps41
  go_wp2
  go_ret
  exact ⟨rfl, rfl⟩
set_option maxHeartbeats 4000000 in
set_option maxRecDepth 100000 in
theorem days_tell (a0 a1 a2 a3 a4 a5 : Int) (a6 : ByteArray) (b : Nat) (r1 : ByteArray) (r2 : Bool) (w : World) (hrP : PowAt w) (hb0 : b < w.heap.size) (hb : w.cell? ⟨b, 0, none⟩ = some (.func (.func 41) #[] #[])) (h : script_digits.f a5 = some (r1, r2)) :
    Calls Tryz.prog 51 #[.agg #[.int .i64 a0, .int .i64 a1, .int .i64 a2, .int .i64 a3, .int .i64 a4, .int .i64 a5, .string a6], .pointer (some ⟨b, 0, none⟩)] w fun e w' => e = .returned (.tuple #[.string r1, .bool r2]) ∧ Below w.heap.size w w' := by
  have hu := Tryz.underlying25
  have hb' : (w.alloc (.cells #[.int .i64 a0, .int .i64 a1, .int .i64 a2, .int .i64 a3, .int .i64 a4, .int .i64 a5, .string a6] 25 (0, 0))).cell? ⟨b, 0, none⟩ = some (.func (.func 41) #[] #[]) := ((below_alloc (Below.refl w.heap.size w) _).cell (p := ⟨b, 0, none⟩) hb0).trans hb
  go_enter Tryz.func51, Tryz.ntmps51
  go_wp2_with (first | (go_at_call 41; (with_reducible refine (days_at w.heap.size _).mono ?_); rintro e W1 ⟨rfl, rfl⟩) | (go_at_call 52; (with_reducible refine (script_digits.calls a5 r1 r2 _ (PowAt_alloc hrP _) h).mono ?_); rintro e W1 ⟨rfl, hb⟩))
  go_ret2
  exact ⟨rfl, past hb⟩
/-- What the field of fates tells. -/
def fatesAt (s : ByteArray) : ByteArray × Bool := (s, if s.toList = [] then false else !hasGap s)
set_option maxHeartbeats 4000000 in
set_option maxRecDepth 100000 in
theorem letters_tell (a0 a1 a2 a3 a4 a5 : Int) (a6 : ByteArray) (w : World) :
    Calls Tryz.prog 62 #[.agg #[.int .i64 a0, .int .i64 a1, .int .i64 a2, .int .i64 a3, .int .i64 a4, .int .i64 a5, .string a6]] w fun e w' => e = .returned (.tuple #[.string (fatesAt a6).1, .bool (fatesAt a6).2]) ∧ Below w.heap.size w w' := by
  have hu := Tryz.underlying25
  have HB := Aside0.mk (Below.refl w.heap.size w)
  by_cases he : a6.toList = []
  · have e : fatesAt a6 = (a6, false) := by unfold fatesAt; rw [if_pos he]
    rw [e]
    have e0 : a6.toList.isEmpty = true := List.isEmpty_iff.2 he
    clear e he
    go_enter Tryz.func62, Tryz.ntmps62
    go_wp2_with (first | ((with_reducible refine gate_dst (N := 1) rfl ?_); refine box_event ?hg (N := 1) ?hd (cs := #[.int .i64 a0, .int .i64 a1, .int .i64 a2, .int .i64 a3, .int .i64 a4, .int .i64 a5, .string a6]) (t := 25) ?hr ?_; (case hd => rfl); (case hg => rfl); (case hr => first | (go_simp; done) | (go_simp; rfl)); intro gb hg w3 hbox hb; have n0_ := Aside0.mk (below_step (by repeat (first | (with_reducible first | exact HB.out | apply below_alloc | apply pw_below_drewN | apply below_drew1) | exact HB.out)) hb); have n1_ := Aside0.mk (hbox); clear HB; have HB := n0_; have BK := n1_; clear n0_ n1_; clear hb hbox hg; have hcz_6 : w3.cell? ⟨gb, 6, none⟩ = some (.string a6) := (blk_cell BK.out 6).trans rfl))
    refine start_ (n := 13) (S := fun w' => w'.cell? ⟨gb, 6, none⟩ = some (.string a6)) (ds := []) #[false, false, false, false, false, false, false, false, false, false, false, false, false] (by kernel_rfl) rfl rfl ((blk_cell BK.out 6).trans rfl) (fun hHeld => ?_)
    refine pure_ (i := 0) (N := some 4) (v := ?_) (a' := ?_) #[true, false, false, false, false, false, false, false, false, false, false, false, false] rfl rfl (by kernel_rfl) (fun _ _ _ h => h) (Or.inl ⟨by rfl, ?_⟩) ?_ ?_
    rotate_left
    · intro w'
      go_simp
      with_reducible rfl
    rotate_left
    · simp only [Act.put, List.setIfInBounds_toArray, List.set_cons_zero, List.set_cons_succ, i64_w, i32_w]
      rfl
    refine pure_ (i := 2) (N := some 6) (v := ?_) (a' := ?_) #[true, false, true, false, false, false, false, false, false, false, false, false, false] rfl rfl (by kernel_rfl) (fun _ _ _ h => h) (Or.inl ⟨by rfl, ?_⟩) ?_ ?_
    rotate_left
    · intro w'
      go_simp
      with_reducible rfl
    rotate_left
    · simp only [Act.put, List.setIfInBounds_toArray, List.set_cons_zero, List.set_cons_succ, i64_w, i32_w]
      rfl
    refine take_ (i := 1) (N := some 5) (v := ?_) (a' := ?_) #[true, true, true, false, false, false, false, false, false, false, false, false, false] rfl rfl (by kernel_rfl) (fun _ _ _ h => h) (Or.inl ⟨by rfl, ?_⟩) hHeld ?_ ?_
    rotate_left
    · intro w' s0
      go_simp
      with_reducible rfl
    rotate_left
    · simp only [Act.put, List.setIfInBounds_toArray, List.set_cons_zero, List.set_cons_succ, i64_w, i32_w]
      rfl
    refine take_ (i := 3) (N := some 7) (v := ?_) (a' := ?_) #[true, true, true, true, false, false, false, false, false, false, false, false, false] rfl rfl (by kernel_rfl) (fun _ _ _ h => h) (Or.inl ⟨by rfl, ?_⟩) hHeld ?_ ?_
    rotate_left
    · intro w' s0
      go_simp
      with_reducible rfl
    rotate_left
    · simp only [Act.put, List.setIfInBounds_toArray, List.set_cons_zero, List.set_cons_succ, i64_w, i32_w]
      rfl
    refine pure_ (i := 4) (N := some 8) (v := ?_) (a' := ?_) #[true, true, true, true, true, false, false, false, false, false, false, false, false] rfl rfl (by kernel_rfl) (fun _ _ _ h => h) (Or.inl ⟨by rfl, ?_⟩) ?_ ?_
    rotate_left
    · intro w'
      go_simp
      with_reducible rfl
    rotate_left
    · simp only [Act.put, List.setIfInBounds_toArray, List.set_cons_zero, List.set_cons_succ, i64_w, i32_w]
      rfl
    refine pure_ (i := 5) (N := some 9) (v := ?_) (a' := ?_) #[true, true, true, true, true, true, false, false, false, false, false, false, false] rfl rfl (by kernel_rfl) (fun _ _ _ h => h) (Or.inl ⟨by rfl, ?_⟩) ?_ ?_
    rotate_left
    · intro w'
      go_simp
      with_reducible rfl
    rotate_left
    · simp only [Act.put, List.setIfInBounds_toArray, List.set_cons_zero, List.set_cons_succ, i64_w, i32_w]
      rfl
    refine pure_ (i := 6) (N := some 10) (v := undef) (a' := ?_) #[true, true, true, true, true, true, true, false, false, false, false, false, false] rfl rfl (by kernel_rfl) (fun _ _ _ h => h) (Or.inr ⟨by rfl, rfl⟩) ?_ ?_
    rotate_left
    · simp only [Act.put, List.setIfInBounds_toArray, List.set_cons_zero, List.set_cons_succ, i64_w, i32_w]
      rfl
    refine pure_ (i := 7) (N := some 11) (v := undef) (a' := ?_) #[true, true, true, true, true, true, true, true, false, false, false, false, false] rfl rfl (by kernel_rfl) (fun _ _ _ h => h) (Or.inr ⟨by rfl, rfl⟩) ?_ ?_
    rotate_left
    · simp only [Act.put, List.setIfInBounds_toArray, List.set_cons_zero, List.set_cons_succ, i64_w, i32_w]
      rfl
    refine pure_ (i := 8) (N := some 12) (v := undef) (a' := ?_) #[true, true, true, true, true, true, true, true, true, false, false, false, false] rfl rfl (by kernel_rfl) (fun _ _ _ h => h) (Or.inr ⟨by rfl, rfl⟩) ?_ ?_
    rotate_left
    · simp only [Act.put, List.setIfInBounds_toArray, List.set_cons_zero, List.set_cons_succ, i64_w, i32_w]
      rfl
    refine pure_ (i := 9) (N := some 13) (v := undef) (a' := ?_) #[true, true, true, true, true, true, true, true, true, true, false, false, false] rfl rfl (by kernel_rfl) (fun _ _ _ h => h) (Or.inr ⟨by rfl, rfl⟩) ?_ ?_
    rotate_left
    · simp only [Act.put, List.setIfInBounds_toArray, List.set_cons_zero, List.set_cons_succ, i64_w, i32_w]
      rfl
    refine pure_ (i := 10) (N := some 14) (v := ?_) (a' := ?_) #[true, true, true, true, true, true, true, true, true, true, true, false, false] rfl rfl (by kernel_rfl) (fun _ _ _ h => h) (Or.inl ⟨by rfl, ?_⟩) ?_ ?_
    rotate_left
    · intro w'
      go_simp
      with_reducible rfl
    rotate_left
    · simp only [Act.put, List.setIfInBounds_toArray, List.set_cons_zero, List.set_cons_succ, i64_w, i32_w]
      rfl
    refine pure_ (i := 11) (N := some 2) (v := ?_) (a' := ?_) #[true, true, true, true, true, true, true, true, true, true, true, true, false] rfl rfl (by kernel_rfl) (fun _ _ _ h => h) (Or.inl ⟨by rfl, ?_⟩) ?_ ?_
    rotate_left
    · intro w'
      go_simp
      with_reducible rfl
    rotate_left
    · simp only [Act.put, List.setIfInBounds_toArray, List.set_cons_zero, List.set_cons_succ, i64_w, i32_w]
      rfl
    refine pure_ (i := 12) (N := some 3) (v := ?_) (a' := ?_) #[true, true, true, true, true, true, true, true, true, true, true, true, true] rfl rfl (by kernel_rfl) (fun _ _ _ h => h) (Or.inl ⟨by rfl, ?_⟩) ?_ ?_
    rotate_left
    · intro w'
      go_simp
      with_reducible rfl
    rotate_left
    · simp only [Act.put, List.setIfInBounds_toArray, List.set_cons_zero, List.set_cons_succ, i64_w, i32_w]
      rfl
    refine done_ (by kernel_rfl) ?_
    go_wp2
    go_ret2
    exact ⟨rfl, (by repeat (first | (with_reducible first | exact HB.out | apply below_alloc | apply pw_below_drewN | apply below_drew1) | exact HB.out))⟩
  · have e : fatesAt a6 = (a6, !hasGap a6) := by unfold fatesAt; rw [if_neg he]
    rw [e]
    have e0 : a6.toList.isEmpty = false := Bool.eq_false_iff.2 (fun h => he (List.isEmpty_iff.1 h))
    clear e he
    go_enter Tryz.func62, Tryz.ntmps62
    go_wp2_with (first | ((with_reducible refine gate_dst (N := 1) rfl ?_); refine box_event ?hg (N := 1) ?hd (cs := #[.int .i64 a0, .int .i64 a1, .int .i64 a2, .int .i64 a3, .int .i64 a4, .int .i64 a5, .string a6]) (t := 25) ?hr ?_; (case hd => rfl); (case hg => rfl); (case hr => first | (go_simp; done) | (go_simp; rfl)); intro gb hg w3 hbox hb; have n0_ := Aside0.mk (below_step (by repeat (first | (with_reducible first | exact HB.out | apply below_alloc | apply pw_below_drewN | apply below_drew1) | exact HB.out)) hb); have n1_ := Aside0.mk (hbox); clear HB; have HB := n0_; have BK := n1_; clear n0_ n1_; clear hb hbox hg; have hcz_6 : w3.cell? ⟨gb, 6, none⟩ = some (.string a6) := (blk_cell BK.out 6).trans rfl))
    refine start_ (n := 13) (S := fun w' => w'.cell? ⟨gb, 6, none⟩ = some (.string a6)) (ds := []) #[false, false, false, false, false, false, false, false, false, false, false, false, false] (by kernel_rfl) rfl rfl ((blk_cell BK.out 6).trans rfl) (fun hHeld => ?_)
    refine pure_ (i := 0) (N := some 4) (v := ?_) (a' := ?_) #[true, false, false, false, false, false, false, false, false, false, false, false, false] rfl rfl (by kernel_rfl) (fun _ _ _ h => h) (Or.inl ⟨by rfl, ?_⟩) ?_ ?_
    rotate_left
    · intro w'
      go_simp
      with_reducible rfl
    rotate_left
    · simp only [Act.put, List.setIfInBounds_toArray, List.set_cons_zero, List.set_cons_succ, i64_w, i32_w]
      rfl
    refine pure_ (i := 2) (N := some 6) (v := ?_) (a' := ?_) #[true, false, true, false, false, false, false, false, false, false, false, false, false] rfl rfl (by kernel_rfl) (fun _ _ _ h => h) (Or.inl ⟨by rfl, ?_⟩) ?_ ?_
    rotate_left
    · intro w'
      go_simp
      with_reducible rfl
    rotate_left
    · simp only [Act.put, List.setIfInBounds_toArray, List.set_cons_zero, List.set_cons_succ, i64_w, i32_w]
      rfl
    refine take_ (i := 1) (N := some 5) (v := ?_) (a' := ?_) #[true, true, true, false, false, false, false, false, false, false, false, false, false] rfl rfl (by kernel_rfl) (fun _ _ _ h => h) (Or.inl ⟨by rfl, ?_⟩) hHeld ?_ ?_
    rotate_left
    · intro w' s0
      go_simp
      with_reducible rfl
    rotate_left
    · simp only [Act.put, List.setIfInBounds_toArray, List.set_cons_zero, List.set_cons_succ, i64_w, i32_w]
      rfl
    refine take_ (i := 3) (N := some 7) (v := ?_) (a' := ?_) #[true, true, true, true, false, false, false, false, false, false, false, false, false] rfl rfl (by kernel_rfl) (fun _ _ _ h => h) (Or.inl ⟨by rfl, ?_⟩) hHeld ?_ ?_
    rotate_left
    · intro w' s0
      go_simp
      with_reducible rfl
    rotate_left
    · simp only [Act.put, List.setIfInBounds_toArray, List.set_cons_zero, List.set_cons_succ, i64_w, i32_w]
      rfl
    refine pure_ (i := 4) (N := some 8) (v := ?_) (a' := ?_) #[true, true, true, true, true, false, false, false, false, false, false, false, false] rfl rfl (by kernel_rfl) (fun _ _ _ h => h) (Or.inl ⟨by rfl, ?_⟩) ?_ ?_
    rotate_left
    · intro w'
      go_simp
      with_reducible rfl
    rotate_left
    · simp only [Act.put, List.setIfInBounds_toArray, List.set_cons_zero, List.set_cons_succ, i64_w, i32_w]
      rfl
    refine pure_ (i := 5) (N := some 9) (v := ?_) (a' := ?_) #[true, true, true, true, true, true, false, false, false, false, false, false, false] rfl rfl (by kernel_rfl) (fun _ _ _ h => h) (Or.inl ⟨by rfl, ?_⟩) ?_ ?_
    rotate_left
    · intro w'
      go_simp
      with_reducible rfl
    rotate_left
    · simp only [Act.put, List.setIfInBounds_toArray, List.set_cons_zero, List.set_cons_succ, i64_w, i32_w]
      rfl
    refine pure_ (i := 6) (N := some 10) (v := ?_) (a' := ?_) #[true, true, true, true, true, true, true, false, false, false, false, false, false] rfl rfl (by kernel_rfl) (fun _ _ _ h => h) (Or.inl ⟨by rfl, ?_⟩) ?_ ?_
    rotate_left
    · intro w'
      go_simp
      with_reducible rfl
    rotate_left
    · simp only [Act.put, List.setIfInBounds_toArray, List.set_cons_zero, List.set_cons_succ, i64_w, i32_w]
      rfl
    refine take_ (i := 7) (N := some 11) (v := ?_) (a' := ?_) #[true, true, true, true, true, true, true, true, false, false, false, false, false] rfl rfl (by kernel_rfl) (fun _ _ _ h => h) (Or.inl ⟨by rfl, ?_⟩) hHeld ?_ ?_
    rotate_left
    · intro w' s0
      go_simp
      with_reducible rfl
    rotate_left
    · simp only [Act.put, List.setIfInBounds_toArray, List.set_cons_zero, List.set_cons_succ, i64_w, i32_w]
      rfl
    refine one_ (i := 8) (N := some 12) #[true, true, true, true, true, true, true, true, true, false, false, false, false] rfl rfl (by kernel_rfl) (by decide) (fun K hK => ?_)
    refine goes_ Tryz.func63 (by kernel_rfl) rfl #[.string a6, .func (.func 64) #[] #[]] (by rfl) rfl rfl (by simp only [List.map_toArray, List.map_cons, List.map_nil]; rfl) ?_
    with_reducible refine (contains_c a6 _).mono ?_
    rintro e w5 ⟨rfl, hb⟩
    refine ⟨_, rfl, ?_⟩
    have n0_ := Aside0.mk (blk_below (by (with_reducible repeat (first | refine blk_drewN ?_ _ | refine blk_drew ?_ | refine blk_alloc ?_ _)); exact BK.out) hb)
    have n1_ := Aside0.mk (below_step (by repeat (first | (with_reducible first | exact HB.out | apply below_alloc | apply pw_below_drewN | apply below_drew1) | exact HB.out)) hb)
    clear BK HB hb
    have BK := n0_
    have HB := n1_
    clear n0_ n1_
    refine hK.out _ _ ((blk_cell BK.out 6).trans rfl) (fun hHeld => ?_)
    clear hK K
    refine norm_ (a' := ?_) ?_ ?_
    rotate_left
    · show Act.put _ (some 12) _ = _
      simp only [Act.put, List.setIfInBounds_toArray, List.set_cons_zero, List.set_cons_succ, i64_w, i32_w]
      rfl
    refine pure_ (i := 9) (N := some 13) (v := ?_) (a' := ?_) #[true, true, true, true, true, true, true, true, true, true, false, false, false] rfl rfl (by kernel_rfl) (fun _ _ _ h => h) (Or.inl ⟨by rfl, ?_⟩) ?_ ?_
    rotate_left
    · intro w'
      go_simp
      with_reducible rfl
    rotate_left
    · simp only [Act.put, List.setIfInBounds_toArray, List.set_cons_zero, List.set_cons_succ, i64_w, i32_w]
      rfl
    refine pure_ (i := 10) (N := some 14) (v := ?_) (a' := ?_) #[true, true, true, true, true, true, true, true, true, true, true, false, false] rfl rfl (by kernel_rfl) (fun _ _ _ h => h) (Or.inl ⟨by rfl, ?_⟩) ?_ ?_
    rotate_left
    · intro w'
      go_simp
      with_reducible rfl
    rotate_left
    · simp only [Act.put, List.setIfInBounds_toArray, List.set_cons_zero, List.set_cons_succ, i64_w, i32_w]
      rfl
    refine pure_ (i := 11) (N := some 2) (v := ?_) (a' := ?_) #[true, true, true, true, true, true, true, true, true, true, true, true, false] rfl rfl (by kernel_rfl) (fun _ _ _ h => h) (Or.inl ⟨by rfl, ?_⟩) ?_ ?_
    rotate_left
    · intro w'
      go_simp
      with_reducible rfl
    rotate_left
    · simp only [Act.put, List.setIfInBounds_toArray, List.set_cons_zero, List.set_cons_succ, i64_w, i32_w]
      rfl
    refine pure_ (i := 12) (N := some 3) (v := ?_) (a' := ?_) #[true, true, true, true, true, true, true, true, true, true, true, true, true] rfl rfl (by kernel_rfl) (fun _ _ _ h => h) (Or.inl ⟨by rfl, ?_⟩) ?_ ?_
    rotate_left
    · intro w'
      go_simp
      with_reducible rfl
    rotate_left
    · simp only [Act.put, List.setIfInBounds_toArray, List.set_cons_zero, List.set_cons_succ, i64_w, i32_w]
      rfl
    refine done_ (by kernel_rfl) ?_
    go_wp2
    go_ret2
    exact ⟨rfl, (by repeat (first | (with_reducible first | exact HB.out | apply below_alloc | apply pw_below_drewN | apply below_drew1) | exact HB.out))⟩
end Go.Proofs.YtjhodgcjkobpoaaGreatDoor.FTell
