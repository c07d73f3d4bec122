/- arrearslaw11.unlike: each key once. No condition. Plain: what it answers, beside the items of a filled queue. -/
import Derived.Test.YtkbbngkfncbgkaaIQFill
import Derived.Test.YtkbbngkfncbgkaaPAx2
namespace Go.Proofs.Ytkbbngkfncbgkaa.IQUnl
open Go.RowKit Go.Proofs.Ytkbbngkfncbgkaa.IQHeap Go.Proofs.Ytkbbngkfncbgkaa.IQWords Go.Proofs.Ytkbbngkfncbgkaa.IQOrd Go.Proofs.Ytkbbngkfncbgkaa.IQFill Go.Proofs.Ytkbbngkfncbgkaa.PA Go.Proofs.YtkbbngkfncbgkaaW.PrintWords Go.Proofs.YtkbbngkfncbgkaaW.PrintLast Go.Proofs.YtkbbngkfncbgkaaW.PrintMore
set_option linter.unusedVariables false
set_option linter.unusedSimpArgs false
def tk (x : S26) : Ky := ⟨x.f0, x.f1, x.f2⟩
def ks_ (xs : List S26) : List Ky := xs.map tk
theorem ks_length (xs : List S26) : (ks_ xs).length = xs.length := by simp [ks_]
theorem ka_is (xs : List S26) (i : Nat) (h : i < xs.length) : ka (ks_ xs) i = tk (rd_T26 xs i) := by
  unfold ka ks_ rd_T26
  simp [List.getD_eq_getElem?_getD, h]
theorem kr_of {w : World} {A : Option Addr} {n : Nat} {xs : List S26} (h : Kd.C k26 w A n xs) (hn : n = xs.length) : KR w A (ks_ xs) := fun i hi => by
  rw [ks_length] at hi
  obtain ⟨ad, e, h0, h1, h2⟩ := at_T26 h i (by omega) (by omega)
  rw [ka_is xs i hi]
  exact ⟨ad, e, h0, h1, h2⟩
/-- The keys, each once, in the order in which they first stand. -/
def unl (ks : List Ky) : Nat → List Ky
  | 0 => []
  | n + 1 => if (fst ks n).any (fun x => decide (x.1 = ka ks n)) = true then unl ks n else unl ks n ++ [ka ks n]
theorem fst_any (ks : List Ky) (k : Ky) : ∀ n, ((fst ks n).any (fun x => decide (x.1 = k)) = true) ↔ ∃ j, j < n ∧ ka ks j = k
  | 0 => by simp [fst]
  | n + 1 => by
    have ih := fst_any ks k n
    unfold fst
    split
    · rename_i h
      rw [ih]
      constructor
      · rintro ⟨j, hj, e⟩
        exact ⟨j, by omega, e⟩
      · rintro ⟨j, hj, e⟩
        by_cases hjn : j = n
        · subst hjn
          obtain ⟨j2, hj2, e2⟩ := (fst_any ks (ka ks j) j).1 h
          exact ⟨j2, hj2, e2.trans e⟩
        · exact ⟨j, by omega, e⟩
    · rw [List.any_cons, Bool.or_eq_true, ih]
      constructor
      · rintro (h | ⟨j, hj, e⟩)
        · exact ⟨n, by omega, by simpa using h⟩
        · exact ⟨j, by omega, e⟩
      · rintro ⟨j, hj, e⟩
        by_cases hjn : j = n
        · subst hjn
          exact .inl (by simpa using e)
        · exact .inr ⟨j, by omega, e⟩
theorem unl_perm (ks : List Ky) : ∀ n, ((fst ks n).map (·.1)).Perm (unl ks n)
  | 0 => List.Perm.refl _
  | n + 1 => by
    have ih := unl_perm ks n
    unfold fst unl
    split
    · exact ih
    · rw [List.map_cons]
      exact (ih.cons _).trans (List.perm_append_singleton _ _).symm
theorem fst_nodup (ks : List Ky) : ∀ n, ((fst ks n).map (·.1)).Nodup
  | 0 => List.nodup_nil
  | n + 1 => by
    have ih := fst_nodup ks n
    unfold fst
    split
    · exact ih
    · rename_i h
      rw [List.map_cons, List.nodup_cons]
      refine ⟨fun hm => h ?_, ih⟩
      obtain ⟨x, hx, e⟩ := List.mem_map.1 hm
      exact List.any_eq_true.2 ⟨x, hx, by simpa using e⟩
theorem fst_val (ks : List Ky) : ∀ n x, x ∈ fst ks n → ∃ j : Nat, j < n ∧ x = (ka ks j, (j : Int)) ∧ ∀ i, i < j → ka ks i ≠ ka ks j
  | 0, x, hx => by cases hx
  | n + 1, x, hx => by
    unfold fst at hx
    split at hx
    · obtain ⟨j, hj, h⟩ := fst_val ks n x hx
      exact ⟨j, by omega, h⟩
    · rename_i h
      rcases List.mem_cons.1 hx with rfl | hx
      · exact ⟨n, by omega, rfl, fun i hi e => h ((fst_any ks _ n).2 ⟨i, hi, e⟩)⟩
      · obtain ⟨j, hj, h⟩ := fst_val ks n x hx
        exact ⟨j, by omega, h⟩
def sm (a b : S26) : Bool := decide (tk a = tk b)
theorem same_f (a b : S26) : arrearslaw11_same.f a.f0 a.f1 a.f2 b.f0 b.f1 b.f2 = some (sm a b) := by
  unfold arrearslaw11_same.f sm tk
  by_cases h0 : a.f0 = b.f0
  · by_cases h1 : a.f1 = b.f1
    · by_cases h2 : a.f2 = b.f2
      · simp [h0, h1, h2]
      · simp [h0, h1, h2]
    · simp [h0, h1]
  · simp [h0]
theorem w1 {x : Nat} (h : x < 9000000000000000000) : wrap64 ((x : Int) + 1) = ((x + 1 : Nat) : Int) := by
  unfold wrap64
  omega
def nosame (xs : List S26) (i j : Nat) : Bool := (List.range' j (i - j)).all (fun q => !sm (rd_T26 xs i) (rd_T26 xs q))
theorem l1_ev (xs : List S26) (acc : List S26) (i : Nat) (hi : i < xs.length) (hx : xs.length < 4000000000000) (ha : acc.length < 5864062014805) {r : List S26} : ∀ (d j : Nat) (b : Bool), d = i - j → j ≤ i →
    Ev (fun k => arrearslaw11_unlike.l0 k xs (if (b && nosame xs i j) = true then acc ++ [rd_T26 xs i] else acc) ((i + 1 : Nat) : Int)) r → Ev (fun k => arrearslaw11_unlike.l1 k xs acc (i : Int) b (j : Int)) r
  | 0, j, b, hd, hj, h => by
    have e : j = i := by omega
    subst e
    refine Ev.step (fun k => ?_) h
    have hn : nosame xs j j = true := by simp [nosame]
    rw [hn, Bool.and_true]
    simp only [arrearslaw11_unlike.l1]
    rw [if_neg (by omega)]
    cases b
    · rw [if_neg (by decide), if_neg (by decide), w1 (by omega)]
    · rw [if_pos rfl, if_pos rfl, if_pos (by omega), if_pos (by omega), if_pos ha, w1 (by omega)]
  | d + 1, j, b, hd, hj, h => by
    have hr : List.range' j (i - j) = j :: List.range' (j + 1) (i - (j + 1)) := by
      rw [show i - j = (i - (j + 1)) + 1 by omega, List.range'_succ]
    have hn : nosame xs i j = (!sm (rd_T26 xs i) (rd_T26 xs j) && nosame xs i (j + 1)) := by
      unfold nosame
      rw [hr, List.all_cons]
    rw [hn] at h
    cases b
    · have h1 := l1_ev xs acc i hi hx ha d (j + 1) false (by omega) (by omega) (by simpa using h)
      refine Ev.step (fun k => ?_) h1
      simp only [arrearslaw11_unlike.l1]
      rw [if_pos (by omega), if_neg (by decide), w1 (by omega)]
    · have h1 := l1_ev xs acc i hi hx ha d (j + 1) (!sm (rd_T26 xs i) (rd_T26 xs j)) (by omega) (by omega) (by simpa using h)
      refine Ev.step (fun k => ?_) h1
      simp only [arrearslaw11_unlike.l1]
      rw [if_pos (by omega), if_pos True.intro, if_pos (by omega), if_pos (by omega), if_pos (by omega), if_pos (by omega), same_f, Option.bind_some, w1 (by omega)]
def unlS (xs : List S26) : Nat → List S26
  | 0 => []
  | n + 1 => if nosame xs n 0 = true then unlS xs n ++ [rd_T26 xs n] else unlS xs n
theorem unlS_length (xs : List S26) : ∀ n, (unlS xs n).length ≤ n
  | 0 => Nat.le_refl _
  | n + 1 => by
    have := unlS_length xs n
    unfold unlS
    split
    · simp; omega
    · omega
theorem l0_ev (xs : List S26) (hx : xs.length < 4000000000000) : ∀ (d n : Nat), d = xs.length - n → n ≤ xs.length → Ev (fun k => arrearslaw11_unlike.l0 k xs (unlS xs n) (n : Int)) (unlS xs xs.length)
  | 0, n, hd, hn => by
    have e : n = xs.length := by omega
    subst e
    refine Ev.step (fun k => ?_) (Ev.now _)
    simp only [arrearslaw11_unlike.l0]
    rw [if_neg (by omega)]
  | d + 1, n, hd, hn => by
    have h1 := l0_ev xs hx d (n + 1) (by omega) (by omega)
    have hl := unlS_length xs n
    refine Ev.step (f := fun k => arrearslaw11_unlike.l1 k xs (unlS xs n) (n : Int) true 0) (fun k => ?_) ?_
    · simp only [arrearslaw11_unlike.l0]
      rw [if_pos (by omega)]
    · refine l1_ev xs (unlS xs n) n (by omega) hx (by omega) n 0 true (by omega) (by omega) ?_
      rw [Bool.true_and]
      exact h1
theorem unlike_f (xs : List S26) (hx : xs.length < 4000000000000) : ∃ k, arrearslaw11_unlike.f k xs = some (unlS xs xs.length) := by
  obtain ⟨k, h⟩ := (l0_ev xs hx xs.length 0 (by omega) (by omega)).rounds
  exact ⟨k, h⟩
theorem unlS_is (xs : List S26) : ∀ n, n ≤ xs.length → ks_ (unlS xs n) = unl (ks_ xs) n
  | 0, _ => rfl
  | n + 1, hn => by
    have ih := unlS_is xs n (by omega)
    have hk := ka_is xs n (by omega)
    have hc : nosame xs n 0 = true ↔ ¬ ((fst (ks_ xs) n).any (fun x => decide (x.1 = ka (ks_ xs) n)) = true) := by
      rw [fst_any]
      unfold nosame
      rw [List.all_eq_true]
      constructor
      · rintro h ⟨j, hj, e⟩
        have h2 := h j (by rw [List.mem_range'_1]; omega)
        rw [ka_is xs j (by omega), hk] at e
        unfold sm at h2
        rw [e] at h2
        simp at h2
      · intro h j hj
        rw [List.mem_range'_1] at hj
        unfold sm
        simp only [Bool.not_eq_true', decide_eq_false_iff_not]
        intro e
        exact h ⟨j, by omega, by rw [ka_is xs j (by omega), hk]; exact e.symm⟩
    unfold unlS unl
    by_cases h : nosame xs n 0 = true
    · rw [if_pos h, if_neg (hc.1 h), ← ih, hk]
      simp [ks_]
    · rw [if_neg h, if_pos (by
        by_cases h2 : (fst (ks_ xs) n).any (fun x => decide (x.1 = ka (ks_ xs) n)) = true
        · exact h2
        · exact absurd (hc.2 h2) h), ih]
end Go.Proofs.Ytkbbngkfncbgkaa.IQUnl
