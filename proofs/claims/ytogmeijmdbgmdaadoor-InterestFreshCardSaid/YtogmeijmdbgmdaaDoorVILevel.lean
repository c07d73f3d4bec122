/- The level payment: the least that pays a principal off in so many months by the program's own Month. The search by halves finds it. Plain Lean over the printed functions. -/
import Derived.Test.YtogmeijmdbgmdaaDoorVIMonth
import Derived.Test.YtogmeijmdbgmdaaDoorVPFx3
import Derived.Test.YtogmeijmdbgmdaaDoorVPFx2
namespace Go.Proofs.YtogmeijmdbgmdaaDoor.ILevel
open Go.RowKit Go.Proofs.YtogmeijmdbgmdaaDoor.PF Go.Proofs.YtogmeijmdbgmdaaDoorW.PrintWords Go.Proofs.YtogmeijmdbgmdaaDoorW.PrintLast Go.Proofs.YtogmeijmdbgmdaaDoorW.PrintMore Go.Proofs.YtogmeijmdbgmdaaDoor.MB Go.Proofs.YtogmeijmdbgmdaaDoor.MMulD Go.Proofs.YtogmeijmdbgmdaaDoor.IMonth
set_option linter.unusedVariables false
set_option linter.unusedSectionVars false
set_option linter.unusedSimpArgs false

/-- Does a payment bring a balance to 0 in so many months? -/
def pay (P r : Int) : Nat → Int → Bool
  | 0, _ => false
  | n + 1, b => if P ≤ month b r then false else if b ≤ P - month b r then true else pay P r n (b - (P - month b r))
theorem rnd_mono (n m : Int) (h : n ≤ m) : rnd n 120000 ≤ rnd m 120000 := by
  unfold rnd
  repeat' split
  all_goals omega
theorem month_mono (a b r : Int) (hr : 0 ≤ r) (h : a ≤ b) : month a r ≤ month b r := rnd_mono _ _ (Int.mul_le_mul_of_nonneg_right h hr)
section
variable (r : Int) (hr : 0 ≤ r) (hr1 : r ≤ 100000)
include hr hr1
theorem pay_mono : ∀ (n : Nat) (P Q a b : Int), P ≤ Q → b ≤ a → pay P r n a = true → pay Q r n b = true
  | 0, _, _, _, _, _, _, h => by cases h
  | n + 1, P, Q, a, b, hP, hb, h => by
    have mm := month_mono b a r hr hb
    unfold pay at h ⊢
    split at h
    · cases h
    · rename_i c1
      rw [if_neg (by omega)]
      split at h
      · rw [if_pos (by omega)]
      · by_cases c : b ≤ Q - month b r
        · rw [if_pos c]
        · rw [if_neg c]
          exact pay_mono n P Q _ _ hP (by omega) h
theorem pay_more : ∀ (n : Nat) (P a : Int), pay P r n a = true → pay P r (n + 1) a = true
  | 0, _, _, h => by cases h
  | n + 1, P, a, h => by
    unfold pay at h ⊢
    split at h
    · cases h
    · rename_i c1
      rw [if_neg c1]
      split at h
      · rename_i c2
        rw [if_pos c2]
      · rename_i c2
        rw [if_neg c2]
        exact pay_more n P _ h
theorem pay_zero (n : Nat) (a : Int) (ha : 0 ≤ a) : pay 0 r n a = false := by
  cases n with
  | zero => rfl
  | succ n =>
    unfold pay
    rw [if_pos (month_bd a r ha hr hr1).1]
theorem pays_loop (P n : Int) (hP : I64 P) (hn : n ≤ 9223372036854775807) : ∀ (d : Nat) (i b : Int), 0 ≤ i → i + (d : Int) = n → 0 ≤ b → b ≤ 9223372036854775807 → Ev (fun k => interest_pays.l0 k P b r n i) (pay P r d b) := by
  unfold I64 at hP
  intro d
  induction d with
  | zero =>
    intro i b hi0 hi hb0 hb
    refine Ev_one (fun k => ?_)
    simp only [interest_pays.l0]
    rw [if_neg (by omega)]
    rfl
  | succ d ih =>
    intro i b hi0 hi hb0 hb
    have mb := month_bd b r hb0 hr hr1
    obtain ⟨K, h⟩ := Ev_out (month_ev b r (by unfold I64; omega) (by unfold I64; omega))
    have em : monthOk b r = (month b r, true) := by unfold monthOk; rw [if_pos ⟨hb0, hr, hr1⟩]
    rw [em] at h
    unfold pay
    by_cases c1 : P ≤ month b r
    · rw [if_pos c1]
      refine ⟨K + 1, fun k hk => ?_⟩
      obtain ⟨k, rfl⟩ : ∃ m, k = m + 1 := ⟨k - 1, by omega⟩
      simp only [interest_pays.l0]
      rw [if_pos (by omega), h k (by omega), Option.bind_some, if_pos c1]
    · rw [if_neg c1]
      by_cases c2 : b ≤ P - month b r
      · rw [if_pos c2]
        refine ⟨K + 1, fun k hk => ?_⟩
        obtain ⟨k, rfl⟩ : ∃ m, k = m + 1 := ⟨k - 1, by omega⟩
        simp only [interest_pays.l0]
        rw [if_pos (by omega), h k (by omega), Option.bind_some, if_neg c1, w64 (by omega) (by omega), if_pos c2]
      · rw [if_neg c2]
        obtain ⟨K2, h2⟩ := Ev_out (ih (i + 1) (b - (P - month b r)) (by omega) (by omega) (by omega) (by omega))
        refine ⟨K + K2 + 1, fun k hk => ?_⟩
        obtain ⟨k, rfl⟩ : ∃ m, k = m + 1 := ⟨k - 1, by omega⟩
        simp only [interest_pays.l0]
        rw [if_pos (by omega), h k (by omega), Option.bind_some, if_neg c1, w64 (x := P - month b r) (by omega) (by omega), if_neg c2, w64 (x := b - _) (by omega) (by omega), w64 (x := i + 1) (by omega) (by omega)]
        exact h2 k (by omega)
theorem pays_ev (P b : Int) (n : Nat) (hP : I64 P) (hn : n ≤ 120) (hb0 : 0 ≤ b) (hb : b ≤ 9223372036854775807) : Ev (fun k => interest_pays.f k P b r (n : Int)) (pay P r n b) :=
  pays_loop r hr hr1 P n hP (by omega) n 0 b (by omega) (by omega) hb0 hb
end
/-- The least payment that pays off. -/
def Least (r : Int) (n : Nat) (b q : Int) : Prop := 1 ≤ q ∧ q ≤ 9223372036854775807 ∧ pay q r n b = true ∧ ∀ P, 1 ≤ P → P < q → pay P r n b = false
theorem Least.one {r : Int} {n : Nat} {b p q : Int} (h1 : Least r n b p) (h2 : Least r n b q) : p = q := by
  obtain ⟨a1, a2, a3, a4⟩ := h1
  obtain ⟨b1, b2, b3, b4⟩ := h2
  rcases Int.lt_trichotomy p q with z | z | z
  · rw [b4 p a1 z] at a3
    cases a3
  · exact z
  · rw [a4 q b1 z] at b3
    cases b3
section
variable (b r : Int) (n : Nat) (hr : 0 ≤ r) (hr1 : r ≤ 100000) (hb0 : 0 ≤ b) (hb : b ≤ 9223372036854775807) (hn : n ≤ 120)
include hr hr1 hb0 hb hn
theorem least_loop : ∀ (m : Nat) (low high : Int), 1 ≤ low → low ≤ high → high ≤ 9223372036854775807 → (high - low).toNat ≤ m → pay high r n b = true → (∀ P, 1 ≤ P → P < low → pay P r n b = false) →
    ∃ q, Ev (fun k => interest_Level.least k b r (n : Int) low high) q ∧ Least r n b q := by
  intro m
  induction m with
  | zero =>
    intro low high h1 h2 h3 h4 h5 h6
    obtain rfl : low = high := by omega
    refine ⟨low, Ev_one (fun k => ?_), h1, h3, h5, h6⟩
    simp only [interest_Level.least]
    rw [if_neg (by omega)]
  | succ m ih =>
    intro low high h1 h2 h3 h4 h5 h6
    by_cases c : low < high
    · obtain ⟨mid, hm⟩ : ∃ mid, mid = low + (high - low) / 2 := ⟨_, rfl⟩
      have em : wrap64 (low + wrap64 (Int.tdiv (wrap64 (high - low)) 2)) = mid := by
        rw [w64 (x := high - low) (by omega) (by omega), Int.tdiv_eq_ediv_of_nonneg (by omega), w64 (x := (high - low) / 2) (by omega) (by omega), w64 (by omega) (by omega), hm]
      obtain ⟨K, h⟩ := Ev_out (pays_ev r hr hr1 mid b n (by unfold I64; omega) hn hb0 hb)
      by_cases g : pay mid r n b = true
      · obtain ⟨q, hq, hl⟩ := ih low mid h1 (by omega) (by omega) (by omega) g h6
        obtain ⟨K2, h2'⟩ := Ev_out hq
        refine ⟨q, ⟨K + K2 + 1, fun k hk => ?_⟩, hl⟩
        obtain ⟨k, rfl⟩ : ∃ m, k = m + 1 := ⟨k - 1, by omega⟩
        simp only [interest_Level.least]
        rw [if_pos c, em, h k (by omega), Option.bind_some, if_pos g]
        exact h2' k (by omega)
      · have g' : pay mid r n b = false := by simpa using g
        obtain ⟨q, hq, hl⟩ := ih (mid + 1) high (by omega) (by omega) h3 (by omega) h5 (fun P p1 p2 => by
          rcases Bool.eq_false_or_eq_true (pay P r n b) with z | z
          · exact absurd (pay_mono r hr hr1 n P mid b b (by omega) (Int.le_refl _) z) g
          · exact z)
        obtain ⟨K2, h2'⟩ := Ev_out hq
        refine ⟨q, ⟨K + K2 + 1, fun k hk => ?_⟩, hl⟩
        obtain ⟨k, rfl⟩ : ∃ m, k = m + 1 := ⟨k - 1, by omega⟩
        simp only [interest_Level.least]
        rw [if_pos c, em, h k (by omega), Option.bind_some, if_neg g, w64 (x := mid + 1) (by omega) (by omega)]
        exact h2' k (by omega)
    · obtain rfl : low = high := by omega
      refine ⟨low, Ev_one (fun k => ?_), h1, h3, h5, h6⟩
      simp only [interest_Level.least]
      rw [if_neg c]
theorem level_yes (h1 : 1 ≤ b) (h2 : 1 ≤ n) (hG : pay 9223372036854775807 r n b = true) : ∃ q, Ev (fun k => interest_Level.f k b r (n : Int)) (q, true) ∧ Least r n b q := by
  obtain ⟨q, hq, hl⟩ := least_loop b r n hr hr1 hb0 hb hn 9223372036854775806 1 9223372036854775807 (by omega) (by omega) (by omega) (by omega) hG (fun P p1 p2 => by omega)
  obtain ⟨K, h⟩ := Ev_out (pays_ev r hr hr1 9223372036854775807 b n (by unfold I64; omega) hn hb0 hb)
  obtain ⟨K2, h2'⟩ := Ev_out hq
  refine ⟨q, ⟨K + K2, fun k hk => ?_⟩, hl⟩
  simp only [interest_Level.f]
  rw [if_neg (by omega), isRate_eq, decide_eq_true ⟨hr, hr1⟩, Option.bind_some, if_pos rfl, if_neg (by omega), if_neg (by omega), h k (by omega), hG, Option.bind_some, if_pos rfl, h2' k (by omega)]
  rfl
theorem level_no (h1 : 1 ≤ b) (h2 : 1 ≤ n) (hG : pay 9223372036854775807 r n b = false) : Ev (fun k => interest_Level.f k b r (n : Int)) (0, false) := by
  obtain ⟨K, h⟩ := Ev_out (pays_ev r hr hr1 9223372036854775807 b n (by unfold I64; omega) hn hb0 hb)
  refine ⟨K, fun k hk => ?_⟩
  simp only [interest_Level.f]
  rw [if_neg (by omega), isRate_eq, decide_eq_true ⟨hr, hr1⟩, Option.bind_some, if_pos rfl, if_neg (by omega), if_neg (by omega), h k (by omega), hG, Option.bind_some, if_neg Bool.false_ne_true]
end
theorem level_bad (b r c : Int) (h : ¬ (1 ≤ b ∧ (0 ≤ r ∧ r ≤ 100000) ∧ 1 ≤ c ∧ c ≤ 120)) : Ev (fun k => interest_Level.f k b r c) (0, false) := by
  refine Ev_eq (fun k => ?_)
  simp only [interest_Level.f]
  by_cases c1 : b < 1
  · rw [if_pos c1]
  · rw [if_neg c1, isRate_eq]
    by_cases c2 : 0 ≤ r ∧ r ≤ 100000
    · rw [decide_eq_true c2, Option.bind_some, if_pos rfl]
      by_cases c3 : c < 1
      · rw [if_pos c3]
      · rw [if_neg c3, if_pos (by omega)]
    · rw [decide_eq_false c2, Option.bind_some, if_neg Bool.false_ne_true]
theorem great_pays (b r : Int) (n : Nat) (hr : 0 ≤ r) (hr1 : r ≤ 100000) (hb0 : 1 ≤ b) (hb : b ≤ 10000000000001) (hn : 1 ≤ n) : pay 9223372036854775807 r n b = true := by
  obtain ⟨m, rfl⟩ : ∃ m, n = m + 1 := ⟨n - 1, by omega⟩
  have mb := month_bd b r (by omega) hr hr1
  unfold pay
  rw [if_neg (by omega), if_pos (by omega)]

end Go.Proofs.YtogmeijmdbgmdaaDoor.ILevel
