-- Laid by wip/myprint.py, a driver over the kit's print, for this claim: a lemma's text, not read by a person.
import Derived.Test.YtjhodgcjkobpoaaDoorXPAx0
import Derived.Test.YtjhodgcjkobpoaaDoorXPAx3
namespace Go.Proofs.YtjhodgcjkobpoaaDoor.PA
open Go.RowKit Go.Proofs.YtjhodgcjkobpoaaDoorW.PrintWords Go.Proofs.YtjhodgcjkobpoaaDoorW.PrintLast Go.Proofs.YtjhodgcjkobpoaaDoorW.PrintMore
attribute [local go_sem] max2_int min2_int max_two min_two max_three min_three max_four min_four   -- for this text's walks alone
set_option linter.unusedVariables false
set_option linter.unusedSimpArgs false

/-! ### script_digits: function 46 -/
def script_digits.f (a0 : Int) : Option (ByteArray × Bool) := (strconv_FormatInt.f a0 10).bind fun t101 => (if a0 > (-1000000000000000000) then (some (t101, decide (a0 < 1000000000000000000))) else (some (t101, false)))
set_option maxHeartbeats 8000000 in
set_option maxRecDepth 100000 in
theorem script_digits.calls (a0 : Int) (r1 : ByteArray) (r2 : Bool) (w : World) (hrP : PowAt w) (h : script_digits.f a0 = some (r1, r2)) :
    Calls Tryd.prog 46 #[.int .i64 a0] w fun e w' => e = .returned (.tuple #[.string r1, .bool r2]) ∧ Below w.heap.size w w' := by
  have HRP := Aside0.mk hrP
  clear hrP
  have HB := Aside0.mk (Below.refl w.heap.size w)
  have H : ((strconv_FormatInt.f a0 10).bind fun t101 => (if a0 > (-1000000000000000000) then (some (t101, decide (a0 < 1000000000000000000))) else (some (t101, false)))) = some (r1, r2) := h
  clear h
  replace H := Option.bind_eq_some_iff.mp H
  obtain ⟨t101, A20, H⟩ := H
  replace H : (if a0 > (-1000000000000000000) then (some (t101, decide (a0 < 1000000000000000000))) else (some (t101, false))) = some (r1, r2) := H
  have A2 := Aside0.mk A20
  clear A20
  by_cases c3 : a0 > (-1000000000000000000)
  · rw [if_pos c3] at H
    have c3b0 : decide ((-1000000000000000000) < a0) = true := decide_eq_true c3
    clear c3
    simp only [Option.some.injEq, Prod.mk.injEq] at H
    obtain ⟨rfl, rfl⟩ := H
    go_enter Tryd.func46, Tryd.ntmps46
    go_wp2_with (first | ((with_reducible refine gate_callee (f := 68) rfl ?_); refine goesL_ (some 5) rfl rfl Tryd.func68 (by kernel_rfl) rfl #[.int .i64 a0, .int .i64 10] rfl (by (try simp only [List.map_toArray, List.map_cons, List.map_nil]); first | done | rfl | (simp only [List.length_drop, List.length_take]; rfl)) ?_; (with_reducible refine (strconv_FormatInt.calls a0 10 t101 _ ?side1 A2.out).mono ?_); (case side1 => repeat (first | exact HRP.out | (with_reducible refine PowAt_alloc ?_ _) | (with_reducible refine PowAt_drewN ?_ _) | (with_reducible refine PowAt_drew ?_))); rintro e w4 ⟨rfl, hb⟩; refine ⟨_, rfl, ?_⟩; have n0_ := Aside0.mk (below_step (by repeat (first | (with_reducible first | exact HB.out | apply below_alloc | apply pw_below_drewN | apply below_drew1) | exact HB.out)) hb); clear HB; have HB := n0_; clear n0_; (try clear hb); (try clear hb2); (try clear hk); (try clear hi)))
    go_ret2
    exact ⟨by first | rfl | (simp [errW_none, errW_some] <;> rfl) | (simp [*, errW_none, errW_some] <;> rfl), by repeat (first | (with_reducible first | exact HB.out | apply below_alloc | apply pw_below_drewN | apply below_drew1) | exact HB.out)⟩
  · rw [if_neg c3] at H
    have c3b0 : decide ((-1000000000000000000) < a0) = false := decide_eq_false c3
    clear c3
    simp only [Option.some.injEq, Prod.mk.injEq] at H
    obtain ⟨rfl, rfl⟩ := H
    go_enter Tryd.func46, Tryd.ntmps46
    go_wp2_with (first | ((with_reducible refine gate_callee (f := 68) rfl ?_); refine goesL_ (some 5) rfl rfl Tryd.func68 (by kernel_rfl) rfl #[.int .i64 a0, .int .i64 10] rfl (by (try simp only [List.map_toArray, List.map_cons, List.map_nil]); first | done | rfl | (simp only [List.length_drop, List.length_take]; rfl)) ?_; (with_reducible refine (strconv_FormatInt.calls a0 10 t101 _ ?side1 A2.out).mono ?_); (case side1 => repeat (first | exact HRP.out | (with_reducible refine PowAt_alloc ?_ _) | (with_reducible refine PowAt_drewN ?_ _) | (with_reducible refine PowAt_drew ?_))); rintro e w5 ⟨rfl, hb⟩; refine ⟨_, rfl, ?_⟩; have n0_ := Aside0.mk (below_step (by repeat (first | (with_reducible first | exact HB.out | apply below_alloc | apply pw_below_drewN | apply below_drew1) | exact HB.out)) hb); clear HB; have HB := n0_; clear n0_; (try clear hb); (try clear hb2); (try clear hk); (try clear hi)))
    go_ret2
    exact ⟨by first | rfl | (simp [errW_none, errW_some] <;> rfl) | (simp [*, errW_none, errW_some] <;> rfl), by repeat (first | (with_reducible first | exact HB.out | apply below_alloc | apply pw_below_drewN | apply below_drew1) | exact HB.out)⟩

end Go.Proofs.YtjhodgcjkobpoaaDoor.PA
