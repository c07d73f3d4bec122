/- script's fields: what number, amount, rate, plan, letters and fields hand out. -/
import Derived.Test.YtjhodgcjkobpoaaGreatDoorYFTell
namespace Go.Proofs.YtjhodgcjkobpoaaGreatDoor.FFields
open Go.RowKit Go.Proofs.YtjhodgcjkobpoaaGreatDoorW.PrintWords Go.Proofs.YtjhodgcjkobpoaaGreatDoorW.PrintLast Go.Proofs.YtjhodgcjkobpoaaGreatDoorW.PrintMore Go.Proofs.YtjhodgcjkobpoaaGreatDoor.PA Go.Proofs.YtjhodgcjkobpoaaGreatDoor.FTell
set_option linter.unusedVariables false
set_option linter.unusedSimpArgs false
/-- A fact put by. -/
structure Hd (p : Prop) : Prop where
  mk ::
  out : p
theorem pl_store_func (P : Program) (w : World) (a : Addr) (m : Mode) (f : Fn) (bs cs : Array Value) : (store a (.func f bs cs) m).run P w = stored P w a (.func f bs cs) m := run_store P w a _ m rfl
attribute [local go_sem] pl_store_func
set_option maxHeartbeats 4000000 in
set_option maxRecDepth 100000 in
theorem number_c (g : Nat) (w : World) :
    Calls Tryz.prog 35 #[.func (.func g) #[] #[]] w fun e w' => ∃ b, e = .returned (.agg #[.func (.func 49) #[] #[.pointer (some ⟨b, 0, none⟩)], .func (.func 51) #[] #[.pointer (some ⟨b, 0, none⟩)]]) ∧ b < w'.heap.size ∧ w'.cell? ⟨b, 0, none⟩ = some (.func (.func g) #[] #[]) ∧ Below w.heap.size w w' := by
  have hmf : ∀ (fn : Fn) (first cap : Array Value) (w : World), (Instr.makeFunc fn first cap).run Tryz.prog w = .ok (.func fn first cap) w := fun _ _ _ _ => rfl
  have hu := Tryz.underlying68
  go_enter Tryz.func35, Tryz.ntmps35
  go_wp2
  refine bodyPost_ret (v := .agg #[.func (.func 49) #[] #[.pointer (some ⟨w.heap.size, 0, none⟩)], .func (.func 51) #[] #[.pointer (some ⟨w.heap.size, 0, none⟩)]]) ?_ rfl ⟨_, rfl, ?_, ?_, below_alloc (below_alloc (Below.refl _ _) _) _⟩
  · simp [results, Tryz.results35, go_sem, hu]
  · simp; omega
  · simp [go_sem]
set_option maxHeartbeats 4000000 in
set_option maxRecDepth 100000 in
theorem amount_c (w : World) :
    Calls Tryz.prog 37 #[] w fun e w' => e = .returned (.agg #[.func (.func 53) #[] #[], .func (.func 55) #[] #[]]) ∧ Below w.heap.size w w' := by
  have hu := Tryz.underlying68
  go_enter Tryz.func37, Tryz.ntmps37
  go_wp2
  refine bodyPost_ret (v := .agg #[.func (.func 53) #[] #[], .func (.func 55) #[] #[]]) ?_ rfl ⟨rfl, below_alloc (Below.refl _ _) _⟩
  simp [results, Tryz.results37, go_sem, hu]
set_option maxHeartbeats 4000000 in
set_option maxRecDepth 100000 in
theorem rate_c (w : World) :
    Calls Tryz.prog 38 #[] w fun e w' => e = .returned (.agg #[.func (.func 57) #[] #[], .func (.func 58) #[] #[]]) ∧ Below w.heap.size w w' := by
  have hu := Tryz.underlying68
  go_enter Tryz.func38, Tryz.ntmps38
  go_wp2
  refine bodyPost_ret (v := .agg #[.func (.func 57) #[] #[], .func (.func 58) #[] #[]]) ?_ rfl ⟨rfl, below_alloc (Below.refl _ _) _⟩
  simp [results, Tryz.results38, go_sem, hu]
set_option maxHeartbeats 4000000 in
set_option maxRecDepth 100000 in
theorem plan_c (w : World) :
    Calls Tryz.prog 40 #[] w fun e w' => e = .returned (.agg #[.func (.func 59) #[] #[], .func (.func 60) #[] #[]]) ∧ Below w.heap.size w w' := by
  have hu := Tryz.underlying68
  go_enter Tryz.func40, Tryz.ntmps40
  go_wp2
  refine bodyPost_ret (v := .agg #[.func (.func 59) #[] #[], .func (.func 60) #[] #[]]) ?_ rfl ⟨rfl, below_alloc (Below.refl _ _) _⟩
  simp [results, Tryz.results40, go_sem, hu]
set_option maxHeartbeats 4000000 in
set_option maxRecDepth 100000 in
theorem letters_c (w : World) :
    Calls Tryz.prog 42 #[] w fun e w' => e = .returned (.agg #[.func (.func 61) #[] #[], .func (.func 62) #[] #[]]) ∧ Below w.heap.size w w' := by
  have hu := Tryz.underlying68
  go_enter Tryz.func42, Tryz.ntmps42
  go_wp2
  refine bodyPost_ret (v := .agg #[.func (.func 61) #[] #[], .func (.func 62) #[] #[]]) ?_ rfl ⟨rfl, below_alloc (Below.refl _ _) _⟩
  simp [results, Tryz.results42, go_sem, hu]
/-- The two functions of a field that bears this letter. -/
def Fld (w : World) (l : Nat) (f1 f2 : Value) : Prop :=
  (l = 76 ∧ ∃ b, b < w.heap.size ∧ w.cell? ⟨b, 0, none⟩ = some (.func (.func 36) #[] #[]) ∧ f1 = .func (.func 49) #[] #[.pointer (some ⟨b, 0, none⟩)] ∧ f2 = .func (.func 51) #[] #[.pointer (some ⟨b, 0, none⟩)]) ∨ (l = 67 ∧ ∃ b, b < w.heap.size ∧ w.cell? ⟨b, 0, none⟩ = some (.func (.func 39) #[] #[]) ∧ f1 = .func (.func 49) #[] #[.pointer (some ⟨b, 0, none⟩)] ∧ f2 = .func (.func 51) #[] #[.pointer (some ⟨b, 0, none⟩)]) ∨ (l = 68 ∧ ∃ b, b < w.heap.size ∧ w.cell? ⟨b, 0, none⟩ = some (.func (.func 41) #[] #[]) ∧ f1 = .func (.func 49) #[] #[.pointer (some ⟨b, 0, none⟩)] ∧ f2 = .func (.func 51) #[] #[.pointer (some ⟨b, 0, none⟩)]) ∨
  (l = 65 ∧ f1 = .func (.func 53) #[] #[] ∧ f2 = .func (.func 55) #[] #[]) ∨ (l = 82 ∧ f1 = .func (.func 57) #[] #[] ∧ f2 = .func (.func 58) #[] #[]) ∨ (l = 84 ∧ f1 = .func (.func 59) #[] #[] ∧ f2 = .func (.func 60) #[] #[]) ∨ (l = 70 ∧ f1 = .func (.func 61) #[] #[] ∧ f2 = .func (.func 62) #[] #[])
theorem Fld.below {w W : World} {l : Nat} {f1 f2 : Value} (h : Fld w l f1 f2) (hb : Below w.heap.size w W) : Fld W l f1 f2 := by
  have key : ∀ {g : Nat}, (∃ b, b < w.heap.size ∧ w.cell? ⟨b, 0, none⟩ = some (.func (.func g) #[] #[]) ∧ f1 = .func (.func 49) #[] #[.pointer (some ⟨b, 0, none⟩)] ∧ f2 = .func (.func 51) #[] #[.pointer (some ⟨b, 0, none⟩)]) →
      (∃ b, b < W.heap.size ∧ W.cell? ⟨b, 0, none⟩ = some (.func (.func g) #[] #[]) ∧ f1 = .func (.func 49) #[] #[.pointer (some ⟨b, 0, none⟩)] ∧ f2 = .func (.func 51) #[] #[.pointer (some ⟨b, 0, none⟩)]) := by
    rintro g ⟨b, h1, h2, h3, h4⟩
    exact ⟨b, Nat.lt_of_lt_of_le h1 hb.size, (hb.cell (p := ⟨b, 0, none⟩) h1).trans h2, h3, h4⟩
  unfold Fld at h ⊢
  rcases h with ⟨e, h⟩ | ⟨e, h⟩ | ⟨e, h⟩ | h
  · exact .inl ⟨e, key h⟩
  · exact .inr (.inl ⟨e, key h⟩)
  · exact .inr (.inr (.inl ⟨e, key h⟩))
  · exact .inr (.inr (.inr h))
/-- Fields in hand, by their letters. -/
def FS (w W : World) (vs : List (Value × Value)) (ls : List Nat) : Prop := Below w.heap.size w W ∧ vs.length = ls.length ∧ ∀ (i l : Nat), ls[i]? = some l → ∃ p, vs[i]? = some p ∧ Fld W l p.1 p.2
theorem FS.nil (w : World) : FS w w [] [] := ⟨Below.refl _ _, rfl, fun i l h => by simp at h⟩
theorem FS.snoc {w W W' : World} {vs : List (Value × Value)} {ls : List Nat} (h : FS w W vs ls) (hb : Below W.heap.size W W') {l : Nat} {p : Value × Value} (hp : Fld W' l p.1 p.2) : FS w W' (vs ++ [p]) (ls ++ [l]) := by
  refine ⟨h.1.trans (hb.mono h.1.size), by simp [h.2.1], fun i l' hi => ?_⟩
  have hl := h.2.1
  rcases Nat.lt_or_ge i ls.length with c | c
  · rw [List.getElem?_append_left c] at hi
    obtain ⟨q, e1, e2⟩ := h.2.2 i l' hi
    exact ⟨q, by rw [List.getElem?_append_left (by omega)]; exact e1, e2.below hb⟩
  · rw [List.getElem?_append_right c] at hi
    have hi' := hi
    rw [List.getElem?_singleton] at hi'
    split at hi'
    · rename_i e
      obtain rfl := Option.some.inj hi'
      exact ⟨p, by rw [List.getElem?_append_right (by omega)]; rw [show i - vs.length = 0 by omega]; rfl, hp⟩
    · cases hi'
def flat (vs : List (Value × Value)) : List Value := vs.flatMap fun p => [p.1, p.2]
theorem flat_at : ∀ (vs : List (Value × Value)) (i : Nat) (p : Value × Value), vs[i]? = some p → (flat vs)[2 * i]? = some p.1 ∧ (flat vs)[2 * i + 1]? = some p.2
  | [], i, p, h => by simp at h
  | q :: vs, 0, p, h => by
    obtain rfl := Option.some.inj h
    exact ⟨rfl, rfl⟩
  | q :: vs, i + 1, p, h => by
    obtain ⟨h1, h2⟩ := flat_at vs i p h
    exact ⟨h1, h2⟩
/-- A list of fields in memory. -/
def FL (W : World) (v : Value) (ls : List Nat) : Prop :=
  (ls = [] ∧ v = .slice none 0 0) ∨ ∃ g, v = .slice (some ⟨g, 0, none⟩) ls.length ls.length ∧ ∀ (i l : Nat), ls[i]? = some l → ∃ f1 f2, W.cell? ⟨g, i * 2, none⟩ = some f1 ∧ W.cell? ⟨g, i * 2 + 1, none⟩ = some f2 ∧ g < W.heap.size ∧ Fld W l f1 f2
theorem FS.lay {w W : World} {vs : List (Value × Value)} {ls : List Nat} (h : FS w W vs ls) : FL (W.alloc (.cells (flat vs).toArray 68 (0, 0))) (.slice (some ⟨W.heap.size, 0, none⟩) ls.length ls.length) ls ∧ Below w.heap.size w (W.alloc (.cells (flat vs).toArray 68 (0, 0))) := by
  refine ⟨.inr ⟨W.heap.size, rfl, fun i l hi => ?_⟩, below_alloc h.1 _⟩
  obtain ⟨p, e1, e2⟩ := h.2.2 i l hi
  obtain ⟨e3, e4⟩ := flat_at vs i p e1
  have hb := blk_new W (.cells (flat vs).toArray 68 (0, 0))
  refine ⟨p.1, p.2, ?_, ?_, by simp, e2.below (below_alloc (Below.refl _ _) _)⟩
  · rw [blk_cell hb, Nat.mul_comm]; simpa using e3
  · rw [blk_cell hb, Nat.mul_comm]; simpa using e4
/-- The letters of a kind's fields. -/
def shapeL (k : Int) : List Nat := if k = 1 then [76, 65, 82, 67, 84] else if k = 2 then [76, 65] else if k = 4 then [76, 65] else if k = 5 then [76, 65] else if k = 3 then [76] else if k = 15 then [76] else if k = 16 then [76] else if k = 6 then [76, 65, 68] else if k = 7 then [76, 67, 82] else if k = 8 then [68] else if k = 9 then [68] else if k = 10 then [70] else if k = 12 then [67, 68] else []
set_option maxHeartbeats 4000000 in
set_option maxRecDepth 100000 in
theorem fields_1 (w : World) : Calls Tryz.prog 24 #[.int .i64 1] w fun e w' => ∃ v, e = .returned v ∧ FL w' v (shapeL 1) ∧ Below w.heap.size w w' := by
  have HF := Hd.mk (FS.nil w)
  go_enter Tryz.func24, Tryz.ntmps24
  go_wp2_with (first | (go_at_call 35; (with_reducible refine (number_c 36 _).mono ?_); rintro e W1 ⟨b, rfl, hl, hc, hb⟩; have n0_ := Hd.mk (HF.out.snoc hb (l := 76) (p := (_, _)) (.inl ⟨rfl, b, hl, hc, rfl, rfl⟩)); clear HF hl hc hb; have HF := n0_; clear n0_) | (go_at_call 35; (with_reducible refine (number_c 39 _).mono ?_); rintro e W1 ⟨b, rfl, hl, hc, hb⟩; have n0_ := Hd.mk (HF.out.snoc hb (l := 67) (p := (_, _)) (.inr (.inl ⟨rfl, b, hl, hc, rfl, rfl⟩))); clear HF hl hc hb; have HF := n0_; clear n0_) | (go_at_call 35; (with_reducible refine (number_c 41 _).mono ?_); rintro e W1 ⟨b, rfl, hl, hc, hb⟩; have n0_ := Hd.mk (HF.out.snoc hb (l := 68) (p := (_, _)) (.inr (.inr (.inl ⟨rfl, b, hl, hc, rfl, rfl⟩)))); clear HF hl hc hb; have HF := n0_; clear n0_) | (go_at_call 37; (with_reducible refine (amount_c _).mono ?_); rintro e W1 ⟨rfl, hb⟩; have n0_ := Hd.mk (HF.out.snoc hb (l := 65) (p := (_, _)) (.inr (.inr (.inr (.inl ⟨rfl, rfl, rfl⟩))))); clear HF hb; have HF := n0_; clear n0_) | (go_at_call 38; (with_reducible refine (rate_c _).mono ?_); rintro e W1 ⟨rfl, hb⟩; have n0_ := Hd.mk (HF.out.snoc hb (l := 82) (p := (_, _)) (.inr (.inr (.inr (.inr (.inl ⟨rfl, rfl, rfl⟩)))))); clear HF hb; have HF := n0_; clear n0_) | (go_at_call 40; (with_reducible refine (plan_c _).mono ?_); rintro e W1 ⟨rfl, hb⟩; have n0_ := Hd.mk (HF.out.snoc hb (l := 84) (p := (_, _)) (.inr (.inr (.inr (.inr (.inr (.inl ⟨rfl, rfl, rfl⟩))))))); clear HF hb; have HF := n0_; clear n0_) | (go_at_call 42; (with_reducible refine (letters_c _).mono ?_); rintro e W1 ⟨rfl, hb⟩; have n0_ := Hd.mk (HF.out.snoc hb (l := 70) (p := (_, _)) (.inr (.inr (.inr (.inr (.inr (.inr (⟨rfl, rfl, rfl⟩)))))))); clear HF hb; have HF := n0_; clear n0_))
  go_ret
  exact ⟨_, rfl, HF.out.lay⟩
set_option maxHeartbeats 4000000 in
set_option maxRecDepth 100000 in
theorem fields_2 (w : World) : Calls Tryz.prog 24 #[.int .i64 2] w fun e w' => ∃ v, e = .returned v ∧ FL w' v (shapeL 2) ∧ Below w.heap.size w w' := by
  have HF := Hd.mk (FS.nil w)
  go_enter Tryz.func24, Tryz.ntmps24
  go_wp2_with (first | (go_at_call 35; (with_reducible refine (number_c 36 _).mono ?_); rintro e W1 ⟨b, rfl, hl, hc, hb⟩; have n0_ := Hd.mk (HF.out.snoc hb (l := 76) (p := (_, _)) (.inl ⟨rfl, b, hl, hc, rfl, rfl⟩)); clear HF hl hc hb; have HF := n0_; clear n0_) | (go_at_call 35; (with_reducible refine (number_c 39 _).mono ?_); rintro e W1 ⟨b, rfl, hl, hc, hb⟩; have n0_ := Hd.mk (HF.out.snoc hb (l := 67) (p := (_, _)) (.inr (.inl ⟨rfl, b, hl, hc, rfl, rfl⟩))); clear HF hl hc hb; have HF := n0_; clear n0_) | (go_at_call 35; (with_reducible refine (number_c 41 _).mono ?_); rintro e W1 ⟨b, rfl, hl, hc, hb⟩; have n0_ := Hd.mk (HF.out.snoc hb (l := 68) (p := (_, _)) (.inr (.inr (.inl ⟨rfl, b, hl, hc, rfl, rfl⟩)))); clear HF hl hc hb; have HF := n0_; clear n0_) | (go_at_call 37; (with_reducible refine (amount_c _).mono ?_); rintro e W1 ⟨rfl, hb⟩; have n0_ := Hd.mk (HF.out.snoc hb (l := 65) (p := (_, _)) (.inr (.inr (.inr (.inl ⟨rfl, rfl, rfl⟩))))); clear HF hb; have HF := n0_; clear n0_) | (go_at_call 38; (with_reducible refine (rate_c _).mono ?_); rintro e W1 ⟨rfl, hb⟩; have n0_ := Hd.mk (HF.out.snoc hb (l := 82) (p := (_, _)) (.inr (.inr (.inr (.inr (.inl ⟨rfl, rfl, rfl⟩)))))); clear HF hb; have HF := n0_; clear n0_) | (go_at_call 40; (with_reducible refine (plan_c _).mono ?_); rintro e W1 ⟨rfl, hb⟩; have n0_ := Hd.mk (HF.out.snoc hb (l := 84) (p := (_, _)) (.inr (.inr (.inr (.inr (.inr (.inl ⟨rfl, rfl, rfl⟩))))))); clear HF hb; have HF := n0_; clear n0_) | (go_at_call 42; (with_reducible refine (letters_c _).mono ?_); rintro e W1 ⟨rfl, hb⟩; have n0_ := Hd.mk (HF.out.snoc hb (l := 70) (p := (_, _)) (.inr (.inr (.inr (.inr (.inr (.inr (⟨rfl, rfl, rfl⟩)))))))); clear HF hb; have HF := n0_; clear n0_))
  go_ret
  exact ⟨_, rfl, HF.out.lay⟩
set_option maxHeartbeats 4000000 in
set_option maxRecDepth 100000 in
theorem fields_4 (w : World) : Calls Tryz.prog 24 #[.int .i64 4] w fun e w' => ∃ v, e = .returned v ∧ FL w' v (shapeL 4) ∧ Below w.heap.size w w' := by
  have HF := Hd.mk (FS.nil w)
  go_enter Tryz.func24, Tryz.ntmps24
  go_wp2_with (first | (go_at_call 35; (with_reducible refine (number_c 36 _).mono ?_); rintro e W1 ⟨b, rfl, hl, hc, hb⟩; have n0_ := Hd.mk (HF.out.snoc hb (l := 76) (p := (_, _)) (.inl ⟨rfl, b, hl, hc, rfl, rfl⟩)); clear HF hl hc hb; have HF := n0_; clear n0_) | (go_at_call 35; (with_reducible refine (number_c 39 _).mono ?_); rintro e W1 ⟨b, rfl, hl, hc, hb⟩; have n0_ := Hd.mk (HF.out.snoc hb (l := 67) (p := (_, _)) (.inr (.inl ⟨rfl, b, hl, hc, rfl, rfl⟩))); clear HF hl hc hb; have HF := n0_; clear n0_) | (go_at_call 35; (with_reducible refine (number_c 41 _).mono ?_); rintro e W1 ⟨b, rfl, hl, hc, hb⟩; have n0_ := Hd.mk (HF.out.snoc hb (l := 68) (p := (_, _)) (.inr (.inr (.inl ⟨rfl, b, hl, hc, rfl, rfl⟩)))); clear HF hl hc hb; have HF := n0_; clear n0_) | (go_at_call 37; (with_reducible refine (amount_c _).mono ?_); rintro e W1 ⟨rfl, hb⟩; have n0_ := Hd.mk (HF.out.snoc hb (l := 65) (p := (_, _)) (.inr (.inr (.inr (.inl ⟨rfl, rfl, rfl⟩))))); clear HF hb; have HF := n0_; clear n0_) | (go_at_call 38; (with_reducible refine (rate_c _).mono ?_); rintro e W1 ⟨rfl, hb⟩; have n0_ := Hd.mk (HF.out.snoc hb (l := 82) (p := (_, _)) (.inr (.inr (.inr (.inr (.inl ⟨rfl, rfl, rfl⟩)))))); clear HF hb; have HF := n0_; clear n0_) | (go_at_call 40; (with_reducible refine (plan_c _).mono ?_); rintro e W1 ⟨rfl, hb⟩; have n0_ := Hd.mk (HF.out.snoc hb (l := 84) (p := (_, _)) (.inr (.inr (.inr (.inr (.inr (.inl ⟨rfl, rfl, rfl⟩))))))); clear HF hb; have HF := n0_; clear n0_) | (go_at_call 42; (with_reducible refine (letters_c _).mono ?_); rintro e W1 ⟨rfl, hb⟩; have n0_ := Hd.mk (HF.out.snoc hb (l := 70) (p := (_, _)) (.inr (.inr (.inr (.inr (.inr (.inr (⟨rfl, rfl, rfl⟩)))))))); clear HF hb; have HF := n0_; clear n0_))
  go_ret
  exact ⟨_, rfl, HF.out.lay⟩
set_option maxHeartbeats 4000000 in
set_option maxRecDepth 100000 in
theorem fields_5 (w : World) : Calls Tryz.prog 24 #[.int .i64 5] w fun e w' => ∃ v, e = .returned v ∧ FL w' v (shapeL 5) ∧ Below w.heap.size w w' := by
  have HF := Hd.mk (FS.nil w)
  go_enter Tryz.func24, Tryz.ntmps24
  go_wp2_with (first | (go_at_call 35; (with_reducible refine (number_c 36 _).mono ?_); rintro e W1 ⟨b, rfl, hl, hc, hb⟩; have n0_ := Hd.mk (HF.out.snoc hb (l := 76) (p := (_, _)) (.inl ⟨rfl, b, hl, hc, rfl, rfl⟩)); clear HF hl hc hb; have HF := n0_; clear n0_) | (go_at_call 35; (with_reducible refine (number_c 39 _).mono ?_); rintro e W1 ⟨b, rfl, hl, hc, hb⟩; have n0_ := Hd.mk (HF.out.snoc hb (l := 67) (p := (_, _)) (.inr (.inl ⟨rfl, b, hl, hc, rfl, rfl⟩))); clear HF hl hc hb; have HF := n0_; clear n0_) | (go_at_call 35; (with_reducible refine (number_c 41 _).mono ?_); rintro e W1 ⟨b, rfl, hl, hc, hb⟩; have n0_ := Hd.mk (HF.out.snoc hb (l := 68) (p := (_, _)) (.inr (.inr (.inl ⟨rfl, b, hl, hc, rfl, rfl⟩)))); clear HF hl hc hb; have HF := n0_; clear n0_) | (go_at_call 37; (with_reducible refine (amount_c _).mono ?_); rintro e W1 ⟨rfl, hb⟩; have n0_ := Hd.mk (HF.out.snoc hb (l := 65) (p := (_, _)) (.inr (.inr (.inr (.inl ⟨rfl, rfl, rfl⟩))))); clear HF hb; have HF := n0_; clear n0_) | (go_at_call 38; (with_reducible refine (rate_c _).mono ?_); rintro e W1 ⟨rfl, hb⟩; have n0_ := Hd.mk (HF.out.snoc hb (l := 82) (p := (_, _)) (.inr (.inr (.inr (.inr (.inl ⟨rfl, rfl, rfl⟩)))))); clear HF hb; have HF := n0_; clear n0_) | (go_at_call 40; (with_reducible refine (plan_c _).mono ?_); rintro e W1 ⟨rfl, hb⟩; have n0_ := Hd.mk (HF.out.snoc hb (l := 84) (p := (_, _)) (.inr (.inr (.inr (.inr (.inr (.inl ⟨rfl, rfl, rfl⟩))))))); clear HF hb; have HF := n0_; clear n0_) | (go_at_call 42; (with_reducible refine (letters_c _).mono ?_); rintro e W1 ⟨rfl, hb⟩; have n0_ := Hd.mk (HF.out.snoc hb (l := 70) (p := (_, _)) (.inr (.inr (.inr (.inr (.inr (.inr (⟨rfl, rfl, rfl⟩)))))))); clear HF hb; have HF := n0_; clear n0_))
  go_ret
  exact ⟨_, rfl, HF.out.lay⟩
set_option maxHeartbeats 4000000 in
set_option maxRecDepth 100000 in
theorem fields_3 (w : World) : Calls Tryz.prog 24 #[.int .i64 3] w fun e w' => ∃ v, e = .returned v ∧ FL w' v (shapeL 3) ∧ Below w.heap.size w w' := by
  have HF := Hd.mk (FS.nil w)
  go_enter Tryz.func24, Tryz.ntmps24
  go_wp2_with (first | (go_at_call 35; (with_reducible refine (number_c 36 _).mono ?_); rintro e W1 ⟨b, rfl, hl, hc, hb⟩; have n0_ := Hd.mk (HF.out.snoc hb (l := 76) (p := (_, _)) (.inl ⟨rfl, b, hl, hc, rfl, rfl⟩)); clear HF hl hc hb; have HF := n0_; clear n0_) | (go_at_call 35; (with_reducible refine (number_c 39 _).mono ?_); rintro e W1 ⟨b, rfl, hl, hc, hb⟩; have n0_ := Hd.mk (HF.out.snoc hb (l := 67) (p := (_, _)) (.inr (.inl ⟨rfl, b, hl, hc, rfl, rfl⟩))); clear HF hl hc hb; have HF := n0_; clear n0_) | (go_at_call 35; (with_reducible refine (number_c 41 _).mono ?_); rintro e W1 ⟨b, rfl, hl, hc, hb⟩; have n0_ := Hd.mk (HF.out.snoc hb (l := 68) (p := (_, _)) (.inr (.inr (.inl ⟨rfl, b, hl, hc, rfl, rfl⟩)))); clear HF hl hc hb; have HF := n0_; clear n0_) | (go_at_call 37; (with_reducible refine (amount_c _).mono ?_); rintro e W1 ⟨rfl, hb⟩; have n0_ := Hd.mk (HF.out.snoc hb (l := 65) (p := (_, _)) (.inr (.inr (.inr (.inl ⟨rfl, rfl, rfl⟩))))); clear HF hb; have HF := n0_; clear n0_) | (go_at_call 38; (with_reducible refine (rate_c _).mono ?_); rintro e W1 ⟨rfl, hb⟩; have n0_ := Hd.mk (HF.out.snoc hb (l := 82) (p := (_, _)) (.inr (.inr (.inr (.inr (.inl ⟨rfl, rfl, rfl⟩)))))); clear HF hb; have HF := n0_; clear n0_) | (go_at_call 40; (with_reducible refine (plan_c _).mono ?_); rintro e W1 ⟨rfl, hb⟩; have n0_ := Hd.mk (HF.out.snoc hb (l := 84) (p := (_, _)) (.inr (.inr (.inr (.inr (.inr (.inl ⟨rfl, rfl, rfl⟩))))))); clear HF hb; have HF := n0_; clear n0_) | (go_at_call 42; (with_reducible refine (letters_c _).mono ?_); rintro e W1 ⟨rfl, hb⟩; have n0_ := Hd.mk (HF.out.snoc hb (l := 70) (p := (_, _)) (.inr (.inr (.inr (.inr (.inr (.inr (⟨rfl, rfl, rfl⟩)))))))); clear HF hb; have HF := n0_; clear n0_))
  go_ret
  exact ⟨_, rfl, HF.out.lay⟩
set_option maxHeartbeats 4000000 in
set_option maxRecDepth 100000 in
theorem fields_15 (w : World) : Calls Tryz.prog 24 #[.int .i64 15] w fun e w' => ∃ v, e = .returned v ∧ FL w' v (shapeL 15) ∧ Below w.heap.size w w' := by
  have HF := Hd.mk (FS.nil w)
  go_enter Tryz.func24, Tryz.ntmps24
  go_wp2_with (first | (go_at_call 35; (with_reducible refine (number_c 36 _).mono ?_); rintro e W1 ⟨b, rfl, hl, hc, hb⟩; have n0_ := Hd.mk (HF.out.snoc hb (l := 76) (p := (_, _)) (.inl ⟨rfl, b, hl, hc, rfl, rfl⟩)); clear HF hl hc hb; have HF := n0_; clear n0_) | (go_at_call 35; (with_reducible refine (number_c 39 _).mono ?_); rintro e W1 ⟨b, rfl, hl, hc, hb⟩; have n0_ := Hd.mk (HF.out.snoc hb (l := 67) (p := (_, _)) (.inr (.inl ⟨rfl, b, hl, hc, rfl, rfl⟩))); clear HF hl hc hb; have HF := n0_; clear n0_) | (go_at_call 35; (with_reducible refine (number_c 41 _).mono ?_); rintro e W1 ⟨b, rfl, hl, hc, hb⟩; have n0_ := Hd.mk (HF.out.snoc hb (l := 68) (p := (_, _)) (.inr (.inr (.inl ⟨rfl, b, hl, hc, rfl, rfl⟩)))); clear HF hl hc hb; have HF := n0_; clear n0_) | (go_at_call 37; (with_reducible refine (amount_c _).mono ?_); rintro e W1 ⟨rfl, hb⟩; have n0_ := Hd.mk (HF.out.snoc hb (l := 65) (p := (_, _)) (.inr (.inr (.inr (.inl ⟨rfl, rfl, rfl⟩))))); clear HF hb; have HF := n0_; clear n0_) | (go_at_call 38; (with_reducible refine (rate_c _).mono ?_); rintro e W1 ⟨rfl, hb⟩; have n0_ := Hd.mk (HF.out.snoc hb (l := 82) (p := (_, _)) (.inr (.inr (.inr (.inr (.inl ⟨rfl, rfl, rfl⟩)))))); clear HF hb; have HF := n0_; clear n0_) | (go_at_call 40; (with_reducible refine (plan_c _).mono ?_); rintro e W1 ⟨rfl, hb⟩; have n0_ := Hd.mk (HF.out.snoc hb (l := 84) (p := (_, _)) (.inr (.inr (.inr (.inr (.inr (.inl ⟨rfl, rfl, rfl⟩))))))); clear HF hb; have HF := n0_; clear n0_) | (go_at_call 42; (with_reducible refine (letters_c _).mono ?_); rintro e W1 ⟨rfl, hb⟩; have n0_ := Hd.mk (HF.out.snoc hb (l := 70) (p := (_, _)) (.inr (.inr (.inr (.inr (.inr (.inr (⟨rfl, rfl, rfl⟩)))))))); clear HF hb; have HF := n0_; clear n0_))
  go_ret
  exact ⟨_, rfl, HF.out.lay⟩
set_option maxHeartbeats 4000000 in
set_option maxRecDepth 100000 in
theorem fields_16 (w : World) : Calls Tryz.prog 24 #[.int .i64 16] w fun e w' => ∃ v, e = .returned v ∧ FL w' v (shapeL 16) ∧ Below w.heap.size w w' := by
  have HF := Hd.mk (FS.nil w)
  go_enter Tryz.func24, Tryz.ntmps24
  go_wp2_with (first | (go_at_call 35; (with_reducible refine (number_c 36 _).mono ?_); rintro e W1 ⟨b, rfl, hl, hc, hb⟩; have n0_ := Hd.mk (HF.out.snoc hb (l := 76) (p := (_, _)) (.inl ⟨rfl, b, hl, hc, rfl, rfl⟩)); clear HF hl hc hb; have HF := n0_; clear n0_) | (go_at_call 35; (with_reducible refine (number_c 39 _).mono ?_); rintro e W1 ⟨b, rfl, hl, hc, hb⟩; have n0_ := Hd.mk (HF.out.snoc hb (l := 67) (p := (_, _)) (.inr (.inl ⟨rfl, b, hl, hc, rfl, rfl⟩))); clear HF hl hc hb; have HF := n0_; clear n0_) | (go_at_call 35; (with_reducible refine (number_c 41 _).mono ?_); rintro e W1 ⟨b, rfl, hl, hc, hb⟩; have n0_ := Hd.mk (HF.out.snoc hb (l := 68) (p := (_, _)) (.inr (.inr (.inl ⟨rfl, b, hl, hc, rfl, rfl⟩)))); clear HF hl hc hb; have HF := n0_; clear n0_) | (go_at_call 37; (with_reducible refine (amount_c _).mono ?_); rintro e W1 ⟨rfl, hb⟩; have n0_ := Hd.mk (HF.out.snoc hb (l := 65) (p := (_, _)) (.inr (.inr (.inr (.inl ⟨rfl, rfl, rfl⟩))))); clear HF hb; have HF := n0_; clear n0_) | (go_at_call 38; (with_reducible refine (rate_c _).mono ?_); rintro e W1 ⟨rfl, hb⟩; have n0_ := Hd.mk (HF.out.snoc hb (l := 82) (p := (_, _)) (.inr (.inr (.inr (.inr (.inl ⟨rfl, rfl, rfl⟩)))))); clear HF hb; have HF := n0_; clear n0_) | (go_at_call 40; (with_reducible refine (plan_c _).mono ?_); rintro e W1 ⟨rfl, hb⟩; have n0_ := Hd.mk (HF.out.snoc hb (l := 84) (p := (_, _)) (.inr (.inr (.inr (.inr (.inr (.inl ⟨rfl, rfl, rfl⟩))))))); clear HF hb; have HF := n0_; clear n0_) | (go_at_call 42; (with_reducible refine (letters_c _).mono ?_); rintro e W1 ⟨rfl, hb⟩; have n0_ := Hd.mk (HF.out.snoc hb (l := 70) (p := (_, _)) (.inr (.inr (.inr (.inr (.inr (.inr (⟨rfl, rfl, rfl⟩)))))))); clear HF hb; have HF := n0_; clear n0_))
  go_ret
  exact ⟨_, rfl, HF.out.lay⟩
set_option maxHeartbeats 4000000 in
set_option maxRecDepth 100000 in
theorem fields_6 (w : World) : Calls Tryz.prog 24 #[.int .i64 6] w fun e w' => ∃ v, e = .returned v ∧ FL w' v (shapeL 6) ∧ Below w.heap.size w w' := by
  have HF := Hd.mk (FS.nil w)
  go_enter Tryz.func24, Tryz.ntmps24
  go_wp2_with (first | (go_at_call 35; (with_reducible refine (number_c 36 _).mono ?_); rintro e W1 ⟨b, rfl, hl, hc, hb⟩; have n0_ := Hd.mk (HF.out.snoc hb (l := 76) (p := (_, _)) (.inl ⟨rfl, b, hl, hc, rfl, rfl⟩)); clear HF hl hc hb; have HF := n0_; clear n0_) | (go_at_call 35; (with_reducible refine (number_c 39 _).mono ?_); rintro e W1 ⟨b, rfl, hl, hc, hb⟩; have n0_ := Hd.mk (HF.out.snoc hb (l := 67) (p := (_, _)) (.inr (.inl ⟨rfl, b, hl, hc, rfl, rfl⟩))); clear HF hl hc hb; have HF := n0_; clear n0_) | (go_at_call 35; (with_reducible refine (number_c 41 _).mono ?_); rintro e W1 ⟨b, rfl, hl, hc, hb⟩; have n0_ := Hd.mk (HF.out.snoc hb (l := 68) (p := (_, _)) (.inr (.inr (.inl ⟨rfl, b, hl, hc, rfl, rfl⟩)))); clear HF hl hc hb; have HF := n0_; clear n0_) | (go_at_call 37; (with_reducible refine (amount_c _).mono ?_); rintro e W1 ⟨rfl, hb⟩; have n0_ := Hd.mk (HF.out.snoc hb (l := 65) (p := (_, _)) (.inr (.inr (.inr (.inl ⟨rfl, rfl, rfl⟩))))); clear HF hb; have HF := n0_; clear n0_) | (go_at_call 38; (with_reducible refine (rate_c _).mono ?_); rintro e W1 ⟨rfl, hb⟩; have n0_ := Hd.mk (HF.out.snoc hb (l := 82) (p := (_, _)) (.inr (.inr (.inr (.inr (.inl ⟨rfl, rfl, rfl⟩)))))); clear HF hb; have HF := n0_; clear n0_) | (go_at_call 40; (with_reducible refine (plan_c _).mono ?_); rintro e W1 ⟨rfl, hb⟩; have n0_ := Hd.mk (HF.out.snoc hb (l := 84) (p := (_, _)) (.inr (.inr (.inr (.inr (.inr (.inl ⟨rfl, rfl, rfl⟩))))))); clear HF hb; have HF := n0_; clear n0_) | (go_at_call 42; (with_reducible refine (letters_c _).mono ?_); rintro e W1 ⟨rfl, hb⟩; have n0_ := Hd.mk (HF.out.snoc hb (l := 70) (p := (_, _)) (.inr (.inr (.inr (.inr (.inr (.inr (⟨rfl, rfl, rfl⟩)))))))); clear HF hb; have HF := n0_; clear n0_))
  go_ret
  exact ⟨_, rfl, HF.out.lay⟩
set_option maxHeartbeats 4000000 in
set_option maxRecDepth 100000 in
theorem fields_7 (w : World) : Calls Tryz.prog 24 #[.int .i64 7] w fun e w' => ∃ v, e = .returned v ∧ FL w' v (shapeL 7) ∧ Below w.heap.size w w' := by
  have HF := Hd.mk (FS.nil w)
  go_enter Tryz.func24, Tryz.ntmps24
  go_wp2_with (first | (go_at_call 35; (with_reducible refine (number_c 36 _).mono ?_); rintro e W1 ⟨b, rfl, hl, hc, hb⟩; have n0_ := Hd.mk (HF.out.snoc hb (l := 76) (p := (_, _)) (.inl ⟨rfl, b, hl, hc, rfl, rfl⟩)); clear HF hl hc hb; have HF := n0_; clear n0_) | (go_at_call 35; (with_reducible refine (number_c 39 _).mono ?_); rintro e W1 ⟨b, rfl, hl, hc, hb⟩; have n0_ := Hd.mk (HF.out.snoc hb (l := 67) (p := (_, _)) (.inr (.inl ⟨rfl, b, hl, hc, rfl, rfl⟩))); clear HF hl hc hb; have HF := n0_; clear n0_) | (go_at_call 35; (with_reducible refine (number_c 41 _).mono ?_); rintro e W1 ⟨b, rfl, hl, hc, hb⟩; have n0_ := Hd.mk (HF.out.snoc hb (l := 68) (p := (_, _)) (.inr (.inr (.inl ⟨rfl, b, hl, hc, rfl, rfl⟩)))); clear HF hl hc hb; have HF := n0_; clear n0_) | (go_at_call 37; (with_reducible refine (amount_c _).mono ?_); rintro e W1 ⟨rfl, hb⟩; have n0_ := Hd.mk (HF.out.snoc hb (l := 65) (p := (_, _)) (.inr (.inr (.inr (.inl ⟨rfl, rfl, rfl⟩))))); clear HF hb; have HF := n0_; clear n0_) | (go_at_call 38; (with_reducible refine (rate_c _).mono ?_); rintro e W1 ⟨rfl, hb⟩; have n0_ := Hd.mk (HF.out.snoc hb (l := 82) (p := (_, _)) (.inr (.inr (.inr (.inr (.inl ⟨rfl, rfl, rfl⟩)))))); clear HF hb; have HF := n0_; clear n0_) | (go_at_call 40; (with_reducible refine (plan_c _).mono ?_); rintro e W1 ⟨rfl, hb⟩; have n0_ := Hd.mk (HF.out.snoc hb (l := 84) (p := (_, _)) (.inr (.inr (.inr (.inr (.inr (.inl ⟨rfl, rfl, rfl⟩))))))); clear HF hb; have HF := n0_; clear n0_) | (go_at_call 42; (with_reducible refine (letters_c _).mono ?_); rintro e W1 ⟨rfl, hb⟩; have n0_ := Hd.mk (HF.out.snoc hb (l := 70) (p := (_, _)) (.inr (.inr (.inr (.inr (.inr (.inr (⟨rfl, rfl, rfl⟩)))))))); clear HF hb; have HF := n0_; clear n0_))
  go_ret
  exact ⟨_, rfl, HF.out.lay⟩
set_option maxHeartbeats 4000000 in
set_option maxRecDepth 100000 in
theorem fields_8 (w : World) : Calls Tryz.prog 24 #[.int .i64 8] w fun e w' => ∃ v, e = .returned v ∧ FL w' v (shapeL 8) ∧ Below w.heap.size w w' := by
  have HF := Hd.mk (FS.nil w)
  go_enter Tryz.func24, Tryz.ntmps24
  go_wp2_with (first | (go_at_call 35; (with_reducible refine (number_c 36 _).mono ?_); rintro e W1 ⟨b, rfl, hl, hc, hb⟩; have n0_ := Hd.mk (HF.out.snoc hb (l := 76) (p := (_, _)) (.inl ⟨rfl, b, hl, hc, rfl, rfl⟩)); clear HF hl hc hb; have HF := n0_; clear n0_) | (go_at_call 35; (with_reducible refine (number_c 39 _).mono ?_); rintro e W1 ⟨b, rfl, hl, hc, hb⟩; have n0_ := Hd.mk (HF.out.snoc hb (l := 67) (p := (_, _)) (.inr (.inl ⟨rfl, b, hl, hc, rfl, rfl⟩))); clear HF hl hc hb; have HF := n0_; clear n0_) | (go_at_call 35; (with_reducible refine (number_c 41 _).mono ?_); rintro e W1 ⟨b, rfl, hl, hc, hb⟩; have n0_ := Hd.mk (HF.out.snoc hb (l := 68) (p := (_, _)) (.inr (.inr (.inl ⟨rfl, b, hl, hc, rfl, rfl⟩)))); clear HF hl hc hb; have HF := n0_; clear n0_) | (go_at_call 37; (with_reducible refine (amount_c _).mono ?_); rintro e W1 ⟨rfl, hb⟩; have n0_ := Hd.mk (HF.out.snoc hb (l := 65) (p := (_, _)) (.inr (.inr (.inr (.inl ⟨rfl, rfl, rfl⟩))))); clear HF hb; have HF := n0_; clear n0_) | (go_at_call 38; (with_reducible refine (rate_c _).mono ?_); rintro e W1 ⟨rfl, hb⟩; have n0_ := Hd.mk (HF.out.snoc hb (l := 82) (p := (_, _)) (.inr (.inr (.inr (.inr (.inl ⟨rfl, rfl, rfl⟩)))))); clear HF hb; have HF := n0_; clear n0_) | (go_at_call 40; (with_reducible refine (plan_c _).mono ?_); rintro e W1 ⟨rfl, hb⟩; have n0_ := Hd.mk (HF.out.snoc hb (l := 84) (p := (_, _)) (.inr (.inr (.inr (.inr (.inr (.inl ⟨rfl, rfl, rfl⟩))))))); clear HF hb; have HF := n0_; clear n0_) | (go_at_call 42; (with_reducible refine (letters_c _).mono ?_); rintro e W1 ⟨rfl, hb⟩; have n0_ := Hd.mk (HF.out.snoc hb (l := 70) (p := (_, _)) (.inr (.inr (.inr (.inr (.inr (.inr (⟨rfl, rfl, rfl⟩)))))))); clear HF hb; have HF := n0_; clear n0_))
  go_ret
  exact ⟨_, rfl, HF.out.lay⟩
set_option maxHeartbeats 4000000 in
set_option maxRecDepth 100000 in
theorem fields_9 (w : World) : Calls Tryz.prog 24 #[.int .i64 9] w fun e w' => ∃ v, e = .returned v ∧ FL w' v (shapeL 9) ∧ Below w.heap.size w w' := by
  have HF := Hd.mk (FS.nil w)
  go_enter Tryz.func24, Tryz.ntmps24
  go_wp2_with (first | (go_at_call 35; (with_reducible refine (number_c 36 _).mono ?_); rintro e W1 ⟨b, rfl, hl, hc, hb⟩; have n0_ := Hd.mk (HF.out.snoc hb (l := 76) (p := (_, _)) (.inl ⟨rfl, b, hl, hc, rfl, rfl⟩)); clear HF hl hc hb; have HF := n0_; clear n0_) | (go_at_call 35; (with_reducible refine (number_c 39 _).mono ?_); rintro e W1 ⟨b, rfl, hl, hc, hb⟩; have n0_ := Hd.mk (HF.out.snoc hb (l := 67) (p := (_, _)) (.inr (.inl ⟨rfl, b, hl, hc, rfl, rfl⟩))); clear HF hl hc hb; have HF := n0_; clear n0_) | (go_at_call 35; (with_reducible refine (number_c 41 _).mono ?_); rintro e W1 ⟨b, rfl, hl, hc, hb⟩; have n0_ := Hd.mk (HF.out.snoc hb (l := 68) (p := (_, _)) (.inr (.inr (.inl ⟨rfl, b, hl, hc, rfl, rfl⟩)))); clear HF hl hc hb; have HF := n0_; clear n0_) | (go_at_call 37; (with_reducible refine (amount_c _).mono ?_); rintro e W1 ⟨rfl, hb⟩; have n0_ := Hd.mk (HF.out.snoc hb (l := 65) (p := (_, _)) (.inr (.inr (.inr (.inl ⟨rfl, rfl, rfl⟩))))); clear HF hb; have HF := n0_; clear n0_) | (go_at_call 38; (with_reducible refine (rate_c _).mono ?_); rintro e W1 ⟨rfl, hb⟩; have n0_ := Hd.mk (HF.out.snoc hb (l := 82) (p := (_, _)) (.inr (.inr (.inr (.inr (.inl ⟨rfl, rfl, rfl⟩)))))); clear HF hb; have HF := n0_; clear n0_) | (go_at_call 40; (with_reducible refine (plan_c _).mono ?_); rintro e W1 ⟨rfl, hb⟩; have n0_ := Hd.mk (HF.out.snoc hb (l := 84) (p := (_, _)) (.inr (.inr (.inr (.inr (.inr (.inl ⟨rfl, rfl, rfl⟩))))))); clear HF hb; have HF := n0_; clear n0_) | (go_at_call 42; (with_reducible refine (letters_c _).mono ?_); rintro e W1 ⟨rfl, hb⟩; have n0_ := Hd.mk (HF.out.snoc hb (l := 70) (p := (_, _)) (.inr (.inr (.inr (.inr (.inr (.inr (⟨rfl, rfl, rfl⟩)))))))); clear HF hb; have HF := n0_; clear n0_))
  go_ret
  exact ⟨_, rfl, HF.out.lay⟩
set_option maxHeartbeats 4000000 in
set_option maxRecDepth 100000 in
theorem fields_10 (w : World) : Calls Tryz.prog 24 #[.int .i64 10] w fun e w' => ∃ v, e = .returned v ∧ FL w' v (shapeL 10) ∧ Below w.heap.size w w' := by
  have HF := Hd.mk (FS.nil w)
  go_enter Tryz.func24, Tryz.ntmps24
  go_wp2_with (first | (go_at_call 35; (with_reducible refine (number_c 36 _).mono ?_); rintro e W1 ⟨b, rfl, hl, hc, hb⟩; have n0_ := Hd.mk (HF.out.snoc hb (l := 76) (p := (_, _)) (.inl ⟨rfl, b, hl, hc, rfl, rfl⟩)); clear HF hl hc hb; have HF := n0_; clear n0_) | (go_at_call 35; (with_reducible refine (number_c 39 _).mono ?_); rintro e W1 ⟨b, rfl, hl, hc, hb⟩; have n0_ := Hd.mk (HF.out.snoc hb (l := 67) (p := (_, _)) (.inr (.inl ⟨rfl, b, hl, hc, rfl, rfl⟩))); clear HF hl hc hb; have HF := n0_; clear n0_) | (go_at_call 35; (with_reducible refine (number_c 41 _).mono ?_); rintro e W1 ⟨b, rfl, hl, hc, hb⟩; have n0_ := Hd.mk (HF.out.snoc hb (l := 68) (p := (_, _)) (.inr (.inr (.inl ⟨rfl, b, hl, hc, rfl, rfl⟩)))); clear HF hl hc hb; have HF := n0_; clear n0_) | (go_at_call 37; (with_reducible refine (amount_c _).mono ?_); rintro e W1 ⟨rfl, hb⟩; have n0_ := Hd.mk (HF.out.snoc hb (l := 65) (p := (_, _)) (.inr (.inr (.inr (.inl ⟨rfl, rfl, rfl⟩))))); clear HF hb; have HF := n0_; clear n0_) | (go_at_call 38; (with_reducible refine (rate_c _).mono ?_); rintro e W1 ⟨rfl, hb⟩; have n0_ := Hd.mk (HF.out.snoc hb (l := 82) (p := (_, _)) (.inr (.inr (.inr (.inr (.inl ⟨rfl, rfl, rfl⟩)))))); clear HF hb; have HF := n0_; clear n0_) | (go_at_call 40; (with_reducible refine (plan_c _).mono ?_); rintro e W1 ⟨rfl, hb⟩; have n0_ := Hd.mk (HF.out.snoc hb (l := 84) (p := (_, _)) (.inr (.inr (.inr (.inr (.inr (.inl ⟨rfl, rfl, rfl⟩))))))); clear HF hb; have HF := n0_; clear n0_) | (go_at_call 42; (with_reducible refine (letters_c _).mono ?_); rintro e W1 ⟨rfl, hb⟩; have n0_ := Hd.mk (HF.out.snoc hb (l := 70) (p := (_, _)) (.inr (.inr (.inr (.inr (.inr (.inr (⟨rfl, rfl, rfl⟩)))))))); clear HF hb; have HF := n0_; clear n0_))
  go_ret
  exact ⟨_, rfl, HF.out.lay⟩
set_option maxHeartbeats 4000000 in
set_option maxRecDepth 100000 in
theorem fields_12 (w : World) : Calls Tryz.prog 24 #[.int .i64 12] w fun e w' => ∃ v, e = .returned v ∧ FL w' v (shapeL 12) ∧ Below w.heap.size w w' := by
  have HF := Hd.mk (FS.nil w)
  go_enter Tryz.func24, Tryz.ntmps24
  go_wp2_with (first | (go_at_call 35; (with_reducible refine (number_c 36 _).mono ?_); rintro e W1 ⟨b, rfl, hl, hc, hb⟩; have n0_ := Hd.mk (HF.out.snoc hb (l := 76) (p := (_, _)) (.inl ⟨rfl, b, hl, hc, rfl, rfl⟩)); clear HF hl hc hb; have HF := n0_; clear n0_) | (go_at_call 35; (with_reducible refine (number_c 39 _).mono ?_); rintro e W1 ⟨b, rfl, hl, hc, hb⟩; have n0_ := Hd.mk (HF.out.snoc hb (l := 67) (p := (_, _)) (.inr (.inl ⟨rfl, b, hl, hc, rfl, rfl⟩))); clear HF hl hc hb; have HF := n0_; clear n0_) | (go_at_call 35; (with_reducible refine (number_c 41 _).mono ?_); rintro e W1 ⟨b, rfl, hl, hc, hb⟩; have n0_ := Hd.mk (HF.out.snoc hb (l := 68) (p := (_, _)) (.inr (.inr (.inl ⟨rfl, b, hl, hc, rfl, rfl⟩)))); clear HF hl hc hb; have HF := n0_; clear n0_) | (go_at_call 37; (with_reducible refine (amount_c _).mono ?_); rintro e W1 ⟨rfl, hb⟩; have n0_ := Hd.mk (HF.out.snoc hb (l := 65) (p := (_, _)) (.inr (.inr (.inr (.inl ⟨rfl, rfl, rfl⟩))))); clear HF hb; have HF := n0_; clear n0_) | (go_at_call 38; (with_reducible refine (rate_c _).mono ?_); rintro e W1 ⟨rfl, hb⟩; have n0_ := Hd.mk (HF.out.snoc hb (l := 82) (p := (_, _)) (.inr (.inr (.inr (.inr (.inl ⟨rfl, rfl, rfl⟩)))))); clear HF hb; have HF := n0_; clear n0_) | (go_at_call 40; (with_reducible refine (plan_c _).mono ?_); rintro e W1 ⟨rfl, hb⟩; have n0_ := Hd.mk (HF.out.snoc hb (l := 84) (p := (_, _)) (.inr (.inr (.inr (.inr (.inr (.inl ⟨rfl, rfl, rfl⟩))))))); clear HF hb; have HF := n0_; clear n0_) | (go_at_call 42; (with_reducible refine (letters_c _).mono ?_); rintro e W1 ⟨rfl, hb⟩; have n0_ := Hd.mk (HF.out.snoc hb (l := 70) (p := (_, _)) (.inr (.inr (.inr (.inr (.inr (.inr (⟨rfl, rfl, rfl⟩)))))))); clear HF hb; have HF := n0_; clear n0_))
  go_ret
  exact ⟨_, rfl, HF.out.lay⟩
set_option maxHeartbeats 4000000 in
set_option maxRecDepth 100000 in
theorem fields_none (k : Int) (hk : k ≠ 1 ∧ k ≠ 2 ∧ k ≠ 4 ∧ k ≠ 5 ∧ k ≠ 3 ∧ k ≠ 15 ∧ k ≠ 16 ∧ k ≠ 6 ∧ k ≠ 7 ∧ k ≠ 8 ∧ k ≠ 9 ∧ k ≠ 10 ∧ k ≠ 12) (w : World) : Calls Tryz.prog 24 #[.int .i64 k] w fun e w' => ∃ v, e = .returned v ∧ FL w' v (shapeL k) ∧ Below w.heap.size w w' := by
  obtain ⟨h1, h2, h4, h5, h3, h15, h16, h6, h7, h8, h9, h10, h12⟩ := hk
  have hs : shapeL k = [] := by
    unfold shapeL
    rw [if_neg h1, if_neg h2, if_neg h4, if_neg h5, if_neg h3, if_neg h15, if_neg h16, if_neg h6, if_neg h7, if_neg h8, if_neg h9, if_neg h10, if_neg h12]
  rw [hs]
  have e1 : (k == 1) = false := beq_eq_false_iff_ne.2 h1
  have e2 : (k == 2) = false := beq_eq_false_iff_ne.2 h2
  have e4 : (k == 4) = false := beq_eq_false_iff_ne.2 h4
  have e5 : (k == 5) = false := beq_eq_false_iff_ne.2 h5
  have e3 : (k == 3) = false := beq_eq_false_iff_ne.2 h3
  have e15 : (k == 15) = false := beq_eq_false_iff_ne.2 h15
  have e16 : (k == 16) = false := beq_eq_false_iff_ne.2 h16
  have e6 : (k == 6) = false := beq_eq_false_iff_ne.2 h6
  have e7 : (k == 7) = false := beq_eq_false_iff_ne.2 h7
  have e8 : (k == 8) = false := beq_eq_false_iff_ne.2 h8
  have e9 : (k == 9) = false := beq_eq_false_iff_ne.2 h9
  have e10 : (k == 10) = false := beq_eq_false_iff_ne.2 h10
  have e12 : (k == 12) = false := beq_eq_false_iff_ne.2 h12
  clear hs h1 h2 h4 h5 h3 h15 h16 h6 h7 h8 h9 h10 h12
  go_enter Tryz.func24, Tryz.ntmps24
  go_wp2
  go_ret
  exact ⟨_, rfl, .inl ⟨rfl, rfl⟩, Below.refl _ _⟩
theorem fields_c (k : Int) (w : World) : Calls Tryz.prog 24 #[.int .i64 k] w fun e w' => ∃ v, e = .returned v ∧ FL w' v (shapeL k) ∧ Below w.heap.size w w' := by
  by_cases h1 : k = 1
  · subst h1; exact fields_1 w
  by_cases h2 : k = 2
  · subst h2; exact fields_2 w
  by_cases h4 : k = 4
  · subst h4; exact fields_4 w
  by_cases h5 : k = 5
  · subst h5; exact fields_5 w
  by_cases h3 : k = 3
  · subst h3; exact fields_3 w
  by_cases h15 : k = 15
  · subst h15; exact fields_15 w
  by_cases h16 : k = 16
  · subst h16; exact fields_16 w
  by_cases h6 : k = 6
  · subst h6; exact fields_6 w
  by_cases h7 : k = 7
  · subst h7; exact fields_7 w
  by_cases h8 : k = 8
  · subst h8; exact fields_8 w
  by_cases h9 : k = 9
  · subst h9; exact fields_9 w
  by_cases h10 : k = 10
  · subst h10; exact fields_10 w
  by_cases h12 : k = 12
  · subst h12; exact fields_12 w
  exact fields_none k ⟨h1, h2, h4, h5, h3, h15, h16, h6, h7, h8, h9, h10, h12⟩ w
end Go.Proofs.YtjhodgcjkobpoaaGreatDoor.FFields
