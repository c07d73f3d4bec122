/- The text of an amount as a list of bytes, and reading a run of digits with a bound. Plain Lean, no program in sight. -/
import Derived.Test.YtjhodgcjkobpoaaGreatDoorYMDig
namespace Go.Proofs.YtjhodgcjkobpoaaGreatDoor.MPars
open Go.RowKit Go.Proofs.YtjhodgcjkobpoaaGreatDoorW.PrintWords Go.Proofs.YtjhodgcjkobpoaaGreatDoorW.PrintLast Go.Proofs.YtjhodgcjkobpoaaGreatDoorW.PrintMore Go.Proofs.YtjhodgcjkobpoaaGreatDoor.MB Go.Proofs.YtjhodgcjkobpoaaGreatDoor.MDig
set_option linter.unusedVariables false
set_option linter.unusedSectionVars false
set_option linter.unusedSimpArgs false

/-- The text of an amount of this size, without its sign; with it. -/
def ul (m : Nat) : List Int := dd (m / 100) ++ [46, 48 + (m : Int) % 100 / 10, 48 + (m : Int) % 100 % 10]
def fl (x : Int) : List Int := (if x < 0 then [45] else []) ++ ul x.natAbs
/-- One digit more, not beyond 2^63. -/
def stp (m c : Int) : Option Int := if Dgt c then (if m > (9223372036854775808 - (c - 48)) / 10 then none else some (10 * m + (c - 48))) else none
def run : List Int → Int → Option Int
  | [], m => some m
  | c :: l, m => (stp m c).bind fun m => run l m
theorem run_app (l : List Int) (c m : Int) : run (l ++ [c]) m = (run l m).bind fun m => stp m c := by
  induction l generalizing m with
  | nil =>
    show (stp m c).bind (fun m => some m) = stp m c
    cases stp m c <;> rfl
  | cons a l ih =>
    show (stp m a).bind (fun m => run (l ++ [c]) m) = ((stp m a).bind fun m => run l m).bind fun m => stp m c
    cases h : stp m a with
    | none => rfl
    | some q => exact ih q
theorem stp_some {m c q : Int} (hm : 0 ≤ m) (h : stp m c = some q) : Dgt c ∧ q = 10 * m + (c - 48) ∧ q ≤ 9223372036854775808 := by
  unfold stp at h
  by_cases hc : Dgt c
  · rw [if_pos hc] at h
    by_cases h1 : m > (9223372036854775808 - (c - 48)) / 10
    · rw [if_pos h1] at h; cases h
    · rw [if_neg h1] at h
      obtain rfl := Option.some.inj h
      refine ⟨hc, rfl, ?_⟩
      unfold Dgt at hc
      omega
  · rw [if_neg hc] at h; cases h
theorem stp_ok {m c : Int} (hm : 0 ≤ m) (hc : Dgt c) (h : 10 * m + (c - 48) ≤ 9223372036854775808) : stp m c = some (10 * m + (c - 48)) := by
  unfold stp
  rw [if_pos hc, if_neg (by unfold Dgt at hc; omega)]
/-- What is read is a run of digits and its number, not beyond 2^63. -/
theorem run_some {l : List Int} {q : Int} (h : run l 0 = some q) : (∀ c ∈ l, Dgt c) ∧ q = dval l ∧ q ≤ 9223372036854775808 := by
  revert q
  refine snoc_ind (P := fun l => ∀ {q : Int}, run l 0 = some q → (∀ c ∈ l, Dgt c) ∧ q = dval l ∧ q ≤ 9223372036854775808) ?_ ?_ l
  · intro q h
    obtain rfl := Option.some.inj h
    exact ⟨fun c hc => (by cases hc), rfl, (by decide)⟩
  · intro l c ih q h
    rw [run_app] at h
    obtain ⟨m, h1, h2⟩ := Option.bind_eq_some_iff.1 h
    obtain ⟨g1, g2, g3⟩ := ih h1
    have hn : 0 ≤ m := by rw [g2]; exact dval_nn g1
    obtain ⟨k1, k2, k3⟩ := stp_some hn h2
    refine ⟨fun x hx => ?_, by rw [dval_snoc, ← g2, k2], k3⟩
    rcases List.mem_append.1 hx with hx | hx
    · exact g1 x hx
    · simp only [List.mem_cons, List.not_mem_nil, or_false] at hx
      rw [hx]; exact k1
theorem run_ok {l : List Int} (h : ∀ c ∈ l, Dgt c) (hq : dval l ≤ 9223372036854775808) : run l 0 = some (dval l) := by
  revert h hq
  refine snoc_ind (P := fun l => (∀ c ∈ l, Dgt c) → dval l ≤ 9223372036854775808 → run l 0 = some (dval l)) (fun _ _ => rfl) ?_ l
  intro l c ih h hq
  rw [dval_snoc] at hq ⊢
  have hd : ∀ x ∈ l, Dgt x := fun x hx => h x (List.mem_append_left _ hx)
  have hn := dval_nn hd
  have hc := h c (by simp)
  have hc' := hc
  unfold Dgt at hc'
  rw [run_app, ih hd (by omega)]
  exact stp_ok hn hc hq
theorem ul_len (m : Nat) : (ul m).length = (dd (m / 100)).length + 3 := by
  unfold ul
  rw [List.length_append]
  rfl
/-- The digits of an amount's text, the point left out, mean the amount's size. -/
theorem ul_val (m : Nat) : dval (dd (m / 100) ++ [48 + (m : Int) % 100 / 10, 48 + (m : Int) % 100 % 10]) = m := by
  rw [show dd (m / 100) ++ [48 + (m : Int) % 100 / 10, 48 + (m : Int) % 100 % 10] = (dd (m / 100) ++ [48 + (m : Int) % 100 / 10]) ++ [48 + (m : Int) % 100 % 10] by simp, dval_snoc, dval_snoc, dval_dd]
  omega
theorem ul_dig (m : Nat) : ∀ c ∈ dd (m / 100) ++ [48 + (m : Int) % 100 / 10, 48 + (m : Int) % 100 % 10], Dgt c := by
  intro c hc
  rcases List.mem_append.1 hc with hc | hc
  · exact dd_digits _ c hc
  · simp only [List.mem_cons, List.not_mem_nil, or_false] at hc
    unfold Dgt
    omega
theorem ul_run {m : Nat} (h : m ≤ 9223372036854775808) : run (dd (m / 100) ++ [48 + (m : Int) % 100 / 10, 48 + (m : Int) % 100 % 10]) 0 = some (m : Int) := by
  rw [run_ok (ul_dig m) (by rw [ul_val]; omega), ul_val]
/-- And a text whose digits mean m is the text of m, if it has no needless zero ahead. -/
theorem ul_back {ds : List Int} {a b : Int} {m : Nat} (hne : ds ≠ []) (h0 : ds.headD 0 ≠ 48 ∨ ds.length = 1) (hd : ∀ c ∈ ds ++ [a, b], Dgt c) (hv : dval (ds ++ [a, b]) = m) : ul m = ds ++ [46, a, b] := by
  have ha := hd a (by simp)
  have hb := hd b (by simp)
  have hds : ∀ c ∈ ds, Dgt c := fun c hc => hd c (List.mem_append_left _ hc)
  have hn := dval_nn hds
  rw [show ds ++ [a, b] = (ds ++ [a]) ++ [b] by simp, dval_snoc, dval_snoc] at hv
  unfold Dgt at ha hb
  have e : m / 100 = (dval ds).toNat := by omega
  unfold ul
  rw [e, dd_dval hds hne h0]
  congr 1
  congr 1
  congr 1
  · omega
  · congr 1
    omega
end Go.Proofs.YtjhodgcjkobpoaaGreatDoor.MPars
