-- Laid by wip/myprint.py, a driver over the kit's print, for this claim: a lemma's text, not read by a person.
import Derived.Test.YtogmeijmdbgmdaaDoorVPFx0
import Derived.Test.YtogmeijmdbgmdaaDoorVPFx1
import Derived.Test.YtogmeijmdbgmdaaDoorVPFx2
namespace Go.Proofs.YtogmeijmdbgmdaaDoor.PF
open Go.RowKit Go.Proofs.YtogmeijmdbgmdaaDoorW.PrintWords Go.Proofs.YtogmeijmdbgmdaaDoorW.PrintLast Go.Proofs.YtogmeijmdbgmdaaDoorW.PrintMore
attribute [local go_sem] max2_int min2_int max_two min_two max_three min_three max_four min_four   -- for this text's walks alone
set_option linter.unusedVariables false
set_option linter.unusedSimpArgs false

/-! ### interest_Level: function 12 -/
-- ALONE
def interest_Level.least : Nat → Int → Int → Int → Int → Int → Option Int
  | 0, _, _, _, _, _ => none
  | k + 1, p, r, c, low, high => if low < high then ((interest_pays.f k (wrap64 (low + (wrap64 (Int.tdiv (wrap64 (high - low)) 2)))) p r c).bind fun b => (if b = true then (interest_Level.least k p r c low (wrap64 (low + (wrap64 (Int.tdiv (wrap64 (high - low)) 2))))) else (interest_Level.least k p r c (wrap64 ((wrap64 (low + (wrap64 (Int.tdiv (wrap64 (high - low)) 2)))) + 1)) high))) else (some low)
def interest_Level.f (k : Nat) (a0 : Int) (a1 : Int) (a2 : Int) : Option (Int × Bool) := if a0 < 1 then (some (0, false)) else ((interest_isRate.f a1).bind fun t => (if t = true then (if a2 < 1 then (some (0, false)) else (if a2 > 120 then (some (0, false)) else ((interest_pays.f k 9223372036854775807 a0 a1 a2).bind fun b => (if b = true then ((interest_Level.least k a0 a1 a2 1 9223372036854775807).bind fun q => (some (q, true))) else (some (0, false)))))) else (some (0, false))))
theorem interest_Level.mono_l : ∀ k y0 y1 y2 y3 y4, LeO (interest_Level.least k y0 y1 y2 y3 y4) (interest_Level.least (k + 1) y0 y1 y2 y3 y4)
  | 0, _, _, _, _, _ => fun r h => by simp [interest_Level.least] at h
  | k + 1, y0, y1, y2, y3, y4 => by
    have ih := interest_Level.mono_l k
    unfold interest_Level.least
    refine LeO.ite ?_ (LeO.refl _)
    refine LeO.bind (interest_pays.mono _ _ _ _ _) (fun b => ?_)
    exact LeO.ite (ih _ _ _ _ _) (ih _ _ _ _ _)
theorem interest_Level.mono : ∀ a0 a1 a2 k, LeO (interest_Level.f k a0 a1 a2) (interest_Level.f (k + 1) a0 a1 a2) := by
  intro a0 a1 a2 k
  unfold interest_Level.f
  refine LeO.ite (LeO.refl _) (LeO.bind (LeO.refl _) (fun _ => LeO.ite (LeO.ite (LeO.refl _) (LeO.ite (LeO.refl _) (LeO.bind (interest_pays.mono _ _ _ _ _) (fun _ => LeO.ite (LeO.bind (interest_Level.mono_l _ _ _ _ _ _) (fun _ => LeO.refl _)) (LeO.refl _))))) (LeO.refl _)))
theorem interest_Level.fn (k : Nat) (pay a0 a1 a2 : Int) (b : Bool) (w : World) (p0 p1 p2 : Addr) (h0 : w.cell? p0 = some (.int .i64 a0)) (h1 : w.cell? p1 = some (.int .i64 a1)) (h2 : w.cell? p2 = some (.int .i64 a2)) (h : interest_pays.f k pay a0 a1 a2 = some b) :
    Calls Tryd.prog 30 #[.int .i64 pay, .pointer (some p0), .pointer (some p1), .pointer (some p2)] w fun e w' => e = .returned (.bool b) ∧ Drawn0 w w' := by
  have H := Aside0.mk h
  clear h
  go_enter Tryd.func30, Tryd.ntmps30
  go_wp2_with (go_at_call 31; refine (interest_pays.calls k pay a0 a1 a2 b _ H.out).mono ?_; rintro e w' ⟨rfl, ⟨nd, rfl⟩⟩)
  go_ret
  exact ⟨rfl, by repeat (first | exact Drawn0.refl _ | apply Drawn0.step)⟩
theorem interest_Level.search (k : Nat) (a0 a1 a2 low high q : Int) (w : World) (p0 p1 p2 : Addr) (h0 : w.cell? p0 = some (.int .i64 a0)) (h1 : w.cell? p1 = some (.int .i64 a1)) (h2 : w.cell? p2 = some (.int .i64 a2)) (h : interest_Level.least k a0 a1 a2 low high = some q) :
    Calls Tryd.prog 32 #[.int .i64 low, .int .i64 high, .func (.func 30) #[] #[.pointer (some p0), .pointer (some p1), .pointer (some p2)]] w fun e w' => e = .returned (.int .i64 q) ∧ Drawn0 w w' := by
  have H' := Aside0.mk h
  clear h
  go_enter Tryd.func32, Tryd.ntmps32
  go_wp2
  go_loopg [0, 1] k (fun kq v0 v1 w' => ∃ (x0 : Int) (x1 : Int), v0 = .int .i64 x0 ∧ v1 = .int .i64 x1 ∧ Aside0 (interest_Level.least kq a0 a1 a2 x0 x1 = some q) ∧ Aside0 (kq ≤ k) ∧ Drawn0 w w')
  case atStart => exact ⟨low, high, rfl, rfl, H', ⟨Nat.le_refl _⟩, Drawn0.refl _⟩
  case round =>
    clear H'
    obtain ⟨x0, x1, rfl, rfl, HA, HK1, ⟨m1, rfl⟩⟩ := hrel
    cases gk with
    | zero => exact absurd HA.out (by simp [interest_Level.least])
    | succ k1 =>
      have H := HA.out
      clear HA
      simp only [interest_Level.least] at H
      by_cases c2 : x0 < x1
      · rw [if_pos c2] at H
        have c2b0 : decide (x0 < x1) = true := decide_eq_true c2
        clear c2
        replace H := Option.bind_eq_some_iff.mp H
        obtain ⟨b, A0, H⟩ := H
        have A4 := Aside0.mk A0
        clear A0
        cases b with
        | true =>
          rw [if_pos rfl] at H
          have H' := Aside0.mk H
          clear H
          go_wp2_with (go_at_call 30; refine (interest_Level.fn k1 _ a0 a1 a2 true _ p0 p1 p2 (by go_simp) (by go_simp) (by go_simp) A4.out).mono ?_; rintro e w' ⟨rfl, ⟨nd, rfl⟩⟩)
          go_roundg k1
          case measure => have := HK1.out; omega
          case rel => exact ⟨_, _, rfl, rfl, H', ⟨by have := HK1.out; omega⟩, by repeat (first | exact Drawn0.refl _ | apply Drawn0.step)⟩
        | false =>
          rw [if_neg Bool.false_ne_true] at H
          have H' := Aside0.mk H
          clear H
          go_wp2_with (go_at_call 30; refine (interest_Level.fn k1 _ a0 a1 a2 false _ p0 p1 p2 (by go_simp) (by go_simp) (by go_simp) A4.out).mono ?_; rintro e w' ⟨rfl, ⟨nd, rfl⟩⟩)
          go_roundg k1
          case measure => have := HK1.out; omega
          case rel => exact ⟨_, _, rfl, rfl, H', ⟨by have := HK1.out; omega⟩, by repeat (first | exact Drawn0.refl _ | apply Drawn0.step)⟩
      · rw [if_neg c2] at H
        have c2b0 : decide (x0 < x1) = false := decide_eq_false c2
        clear c2
        obtain rfl := Option.some.inj H
        go_wp2
        go_ret
        exact ⟨rfl, by repeat (first | exact Drawn0.refl _ | apply Drawn0.step)⟩
theorem interest_Level.calls (k : Nat) (a0 : Int) (a1 : Int) (a2 : Int) (r1 : Int) (r2 : Bool) (w : World) (h : interest_Level.f k a0 a1 a2 = some (r1, r2)) :
    Calls Tryd.prog 12 #[.int .i64 a0, .int .i64 a1, .int .i64 a2] w fun e w' => e = .returned (.tuple #[.int .i64 r1, .bool r2]) ∧ Below w.heap.size w w' := by
  have H : _ = some (r1, r2) := h
  clear h
  unfold interest_Level.f at H
  by_cases c1 : a0 < 1
  · rw [if_pos c1] at H
    have c1b : decide (a0 < 1) = true := decide_eq_true c1
    clear c1
    simp only [Option.some.injEq, Prod.mk.injEq] at H
    obtain ⟨rfl, rfl⟩ := H
    go_enter Tryd.func12, Tryd.ntmps12
    go_wp2
    go_ret2
    exact ⟨rfl, by repeat (first | exact Below.refl _ _ | apply below_alloc | apply pw_below_drewN)⟩
  · rw [if_neg c1] at H
    have c1b : decide (a0 < 1) = false := decide_eq_false c1
    clear c1
    replace H := Option.bind_eq_some_iff.mp H
    obtain ⟨t, A0, H⟩ := H
    have A1 := Aside0.mk A0
    clear A0
    cases t with
    | false =>
      rw [if_neg Bool.false_ne_true] at H
      simp only [Option.some.injEq, Prod.mk.injEq] at H
      obtain ⟨rfl, rfl⟩ := H
      go_enter Tryd.func12, Tryd.ntmps12
      go_wp2_with (go_at_call 29; refine (interest_isRate.calls a1 false _ A1.out).mono ?_; rintro e w' ⟨rfl, ⟨nd, rfl⟩⟩)
      go_ret2
      exact ⟨rfl, by repeat (first | exact Below.refl _ _ | apply below_alloc | apply pw_below_drewN)⟩
    | true =>
      rw [if_pos rfl] at H
      by_cases c2 : a2 < 1
      · rw [if_pos c2] at H
        have c2b : decide (a2 < 1) = true := decide_eq_true c2
        clear c2
        simp only [Option.some.injEq, Prod.mk.injEq] at H
        obtain ⟨rfl, rfl⟩ := H
        go_enter Tryd.func12, Tryd.ntmps12
        go_wp2_with (go_at_call 29; refine (interest_isRate.calls a1 true _ A1.out).mono ?_; rintro e w' ⟨rfl, ⟨nd, rfl⟩⟩)
        go_ret2
        exact ⟨rfl, by repeat (first | exact Below.refl _ _ | apply below_alloc | apply pw_below_drewN)⟩
      · rw [if_neg c2] at H
        have c2b : decide (a2 < 1) = false := decide_eq_false c2
        clear c2
        by_cases c3 : a2 > 120
        · rw [if_pos c3] at H
          have c3b : decide (120 < a2) = true := decide_eq_true c3
          clear c3
          simp only [Option.some.injEq, Prod.mk.injEq] at H
          obtain ⟨rfl, rfl⟩ := H
          go_enter Tryd.func12, Tryd.ntmps12
          go_wp2_with (go_at_call 29; refine (interest_isRate.calls a1 true _ A1.out).mono ?_; rintro e w' ⟨rfl, ⟨nd, rfl⟩⟩)
          go_ret2
          exact ⟨rfl, by repeat (first | exact Below.refl _ _ | apply below_alloc | apply pw_below_drewN)⟩
        · rw [if_neg c3] at H
          have c3b : decide (120 < a2) = false := decide_eq_false c3
          clear c3
          replace H := Option.bind_eq_some_iff.mp H
          obtain ⟨b, B0, H⟩ := H
          have B1 := Aside0.mk B0
          clear B0
          cases b with
          | false =>
            rw [if_neg Bool.false_ne_true] at H
            simp only [Option.some.injEq, Prod.mk.injEq] at H
            obtain ⟨rfl, rfl⟩ := H
            go_enter Tryd.func12, Tryd.ntmps12
            go_wp2_with (first | (go_at_call 29; refine (interest_isRate.calls a1 true _ A1.out).mono ?_; rintro e w' ⟨rfl, ⟨nd, rfl⟩⟩) | (go_at_call 30; refine (interest_Level.fn k _ a0 a1 a2 false _ _ _ _ (by go_simp) (by go_simp) (by go_simp) B1.out).mono ?_; rintro e w' ⟨rfl, ⟨nd, rfl⟩⟩))
            go_ret2
            exact ⟨rfl, by repeat (first | exact Below.refl _ _ | apply below_alloc | apply pw_below_drewN)⟩
          | true =>
            rw [if_pos rfl] at H
            replace H := Option.bind_eq_some_iff.mp H
            obtain ⟨q, Q0, H⟩ := H
            have Q1 := Aside0.mk Q0
            clear Q0
            simp only [Option.some.injEq, Prod.mk.injEq] at H
            obtain ⟨rfl, rfl⟩ := H
            go_enter Tryd.func12, Tryd.ntmps12
            go_wp2_with (first | (go_at_call 29; refine (interest_isRate.calls a1 true _ A1.out).mono ?_; rintro e w' ⟨rfl, ⟨nd, rfl⟩⟩) | (go_at_call 30; refine (interest_Level.fn k _ a0 a1 a2 true _ _ _ _ (by go_simp) (by go_simp) (by go_simp) B1.out).mono ?_; rintro e w' ⟨rfl, ⟨nd, rfl⟩⟩) | (go_at_call 32; refine (interest_Level.search k a0 a1 a2 1 9223372036854775807 q _ _ _ _ (by go_simp) (by go_simp) (by go_simp) Q1.out).mono ?_; rintro e w' ⟨rfl, ⟨nd, rfl⟩⟩))
            go_ret2
            exact ⟨rfl, by repeat (first | exact Below.refl _ _ | apply below_alloc | apply pw_below_drewN)⟩

end Go.Proofs.YtogmeijmdbgmdaaDoor.PF
