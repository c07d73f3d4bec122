-- Laid by wip/myprint.py, a driver over the kit's print, for this claim: a lemma's text, not read by a person.
import Derived.Test.YtifkobejdldkbaaDoorPEx0
import Derived.Test.YtifkobejdldkbaaDoorPEx5
import Derived.Test.YtifkobejdldkbaaDoorPEx8
import Derived.Test.YtifkobejdldkbaaDoorPEx9
namespace Go.Proofs.YtifkobejdldkbaaDoor.PE
open Go.RowKit Go.Proofs.YtifkobejdldkbaaDoorW.PrintWords Go.Proofs.YtifkobejdldkbaaDoorW.PrintLast Go.Proofs.YtifkobejdldkbaaDoorW.PrintMore
attribute [local go_sem] max2_int min2_int max_two min_two max_three min_three max_four min_four   -- for this text's walks alone
set_option linter.unusedVariables false
set_option linter.unusedSimpArgs false

/-! ### arrearslaw2_CalendarAdjusts: function 11 -/
mutual
def arrearslaw2_CalendarAdjusts.j0 : Nat → Int → List Int → Int → List Int → Bool → Option (Bool)
  | 0, _, _, _, _, _ => none
  | k + 1, x0, x1, x2, x7, x59 => if x59 = true then (some false) else (arrearslaw2_CalendarAdjusts.l0 k x0 x1 x2 x7 ([] : List Int) 0)
def arrearslaw2_CalendarAdjusts.l0 : Nat → Int → List Int → Int → List Int → List Int → Int → Option (Bool)
  | 0, _, _, _, _, _, _ => none
  | k + 1, x0, x1, x2, x7, x12, x13 => if x13 < (x1.length : Int) then (if 0 ≤ x13 then (if x13 < (x7.length : Int) then ((some (x7.set (x13 : Int).toNat (wrap64 ((Go.bits .and .i64 x0 16777215) + x13)) : List Int)).bind fun y291 => (if x12.length < 17592186044416 then (arrearslaw2_CalendarAdjusts.l0 k x0 x1 x2 y291 (x12 ++ [rd y291 x13]) (wrap64 (x13 + 1))) else (none))) else (none)) else (none)) else (if 0 ≤ (x1.length : Int) then (if (x1.length : Int) ≤ (x7.length : Int) then ((calendar_Business.f k x0 (x7.take ((x1.length : Int) : Int).toNat)).bind fun t300 => ((arrearsref2_Business.f k x0 x12).bind fun t301 => (if (t300 != t301) = true then (some false) else ((calendar_Adjust.f k x0 (x7.take ((x1.length : Int) : Int).toNat) x2).bind fun bt306 => ((arrearsref2_Adjust.f k x0 x12 x2).bind fun bt308 => (if bt306.1 = bt308.1 then (if (bt306.2 == bt308.2) = true then ((arrearslaw2_still.f k x7 x12).bind fun t310 => (some t310)) else (some false)) else (some false))))))) else (none)) else (none))
end
def arrearslaw2_CalendarAdjusts.f (k : Nat) (a0 : Int) (l1 : List Int) (a2 : Int) : Option (Bool) := if (l1.length : Int) > 4096 then (some true) else ((arrearslaw2_marked.f k l1).bind fun t273 => (if 0 ≤ (l1.length : Int) then (if (l1.length : Int) ≤ (t273.length : Int) then ((calendar_Business.f k a0 (t273.take ((l1.length : Int) : Int).toNat)).bind fun t280 => ((arrearsref2_Business.f k a0 l1).bind fun t281 => (if (t280 != t281) = true then (some false) else ((calendar_Adjust.f k a0 (t273.take ((l1.length : Int) : Int).toNat) a2).bind fun bt286 => ((arrearsref2_Adjust.f k a0 l1 a2).bind fun bt288 => (if bt286.1 = bt288.1 then (if (bt286.2 != bt288.2) = true then (arrearslaw2_CalendarAdjusts.j0 k a0 l1 a2 t273 true) else ((arrearslaw2_still.f k t273 l1).bind fun t290 => (arrearslaw2_CalendarAdjusts.j0 k a0 l1 a2 t273 (!t290)))) else (arrearslaw2_CalendarAdjusts.j0 k a0 l1 a2 t273 true))))))) else (none)) else (none)))
theorem arrearslaw2_CalendarAdjusts.mono_l : ∀ k, (∀ y0 y1 y2 y3 y4, LeO (arrearslaw2_CalendarAdjusts.j0 k y0 y1 y2 y3 y4) (arrearslaw2_CalendarAdjusts.j0 (k + 1) y0 y1 y2 y3 y4)) ∧ (∀ y0 y1 y2 y3 y4 y5, LeO (arrearslaw2_CalendarAdjusts.l0 k y0 y1 y2 y3 y4 y5) (arrearslaw2_CalendarAdjusts.l0 (k + 1) y0 y1 y2 y3 y4 y5))
  | 0 => ⟨fun _ _ _ _ _ r h => by simp [arrearslaw2_CalendarAdjusts.j0] at h, fun _ _ _ _ _ _ r h => by simp [arrearslaw2_CalendarAdjusts.l0] at h⟩
  | k + 1 => by
    obtain ⟨ih0, ih1⟩ := arrearslaw2_CalendarAdjusts.mono_l k
    refine ⟨?_, ?_⟩
    · intro y0 y1 y2 y3 y4
      unfold arrearslaw2_CalendarAdjusts.j0
      repeat' first
      | (with_reducible exact ih0 _ _ _ _ _)
      | (with_reducible exact ih1 _ _ _ _ _ _)
      | (with_reducible exact arrearslaw2_marked.mono _ _)
      | (with_reducible exact arrearslaw2_still.mono _ _ _)
      | (with_reducible exact arrearsref2_Adjust.mono _ _ _ _)
      | (with_reducible exact arrearsref2_Business.mono _ _ _)
      | (with_reducible exact calendar_Adjust.mono _ _ _ _)
      | (with_reducible exact calendar_Business.mono _ _ _)
      | (with_reducible exact LeO.refl _)
      | (with_reducible exact LeO.none _)
      | (with_reducible refine LeO.ite ?_ ?_)
      | (with_reducible refine LeO.bind ?_ (fun _ => ?_))
      | exact ih0 _ _ _ _ _
      | exact ih1 _ _ _ _ _ _
      | exact arrearslaw2_marked.mono _ _
      | exact arrearslaw2_still.mono _ _ _
      | exact arrearsref2_Adjust.mono _ _ _ _
      | exact arrearsref2_Business.mono _ _ _
      | exact calendar_Adjust.mono _ _ _ _
      | exact calendar_Business.mono _ _ _
      | exact LeO.none _
      | refine LeO.ite ?_ ?_
      | refine LeO.bind ?_ (fun _ => ?_)
    · intro y0 y1 y2 y3 y4 y5
      unfold arrearslaw2_CalendarAdjusts.l0
      repeat' first
      | (with_reducible exact ih0 _ _ _ _ _)
      | (with_reducible exact ih1 _ _ _ _ _ _)
      | (with_reducible exact arrearslaw2_marked.mono _ _)
      | (with_reducible exact arrearslaw2_still.mono _ _ _)
      | (with_reducible exact arrearsref2_Adjust.mono _ _ _ _)
      | (with_reducible exact arrearsref2_Business.mono _ _ _)
      | (with_reducible exact calendar_Adjust.mono _ _ _ _)
      | (with_reducible exact calendar_Business.mono _ _ _)
      | (with_reducible exact LeO.refl _)
      | (with_reducible exact LeO.none _)
      | (with_reducible refine LeO.ite ?_ ?_)
      | (with_reducible refine LeO.bind ?_ (fun _ => ?_))
      | exact ih0 _ _ _ _ _
      | exact ih1 _ _ _ _ _ _
      | exact arrearslaw2_marked.mono _ _
      | exact arrearslaw2_still.mono _ _ _
      | exact arrearsref2_Adjust.mono _ _ _ _
      | exact arrearsref2_Business.mono _ _ _
      | exact calendar_Adjust.mono _ _ _ _
      | exact calendar_Business.mono _ _ _
      | exact LeO.none _
      | refine LeO.ite ?_ ?_
      | refine LeO.bind ?_ (fun _ => ?_)
theorem arrearslaw2_CalendarAdjusts.mono : ∀ a0 a1 a2 k, LeO (arrearslaw2_CalendarAdjusts.f k a0 a1 a2) (arrearslaw2_CalendarAdjusts.f (k + 1) a0 a1 a2) := by
  intro a0 a1 a2 k
  obtain ⟨ih0, ih1⟩ := arrearslaw2_CalendarAdjusts.mono_l k
  unfold arrearslaw2_CalendarAdjusts.f
  repeat' first
      | (with_reducible exact ih0 _ _ _ _ _)
      | (with_reducible exact ih1 _ _ _ _ _ _)
      | (with_reducible exact arrearslaw2_marked.mono _ _)
      | (with_reducible exact arrearslaw2_still.mono _ _ _)
      | (with_reducible exact arrearsref2_Adjust.mono _ _ _ _)
      | (with_reducible exact arrearsref2_Business.mono _ _ _)
      | (with_reducible exact calendar_Adjust.mono _ _ _ _)
      | (with_reducible exact calendar_Business.mono _ _ _)
      | (with_reducible exact LeO.refl _)
      | (with_reducible exact LeO.none _)
      | (with_reducible refine LeO.ite ?_ ?_)
      | (with_reducible refine LeO.bind ?_ (fun _ => ?_))
      | exact ih0 _ _ _ _ _
      | exact ih1 _ _ _ _ _ _
      | exact arrearslaw2_marked.mono _ _
      | exact arrearslaw2_still.mono _ _ _
      | exact arrearsref2_Adjust.mono _ _ _ _
      | exact arrearsref2_Business.mono _ _ _
      | exact calendar_Adjust.mono _ _ _ _
      | exact calendar_Business.mono _ _ _
      | exact LeO.none _
      | refine LeO.ite ?_ ?_
      | refine LeO.bind ?_ (fun _ => ?_)
set_option maxHeartbeats 8000000 in
set_option maxRecDepth 100000 in
theorem arrearslaw2_CalendarAdjusts.calls (k : Nat) (a0 : Int) (A1 : Option Addr) (c1 : Nat) (l1 : List Int) (a2 : Int) (r : Bool) (w : World) (hr1 : Kd.C (Kd.int .i64) w A1 l1.length l1) (hc1 : l1.length ≤ c1) (hrT : AheadAt w) (h : arrearslaw2_CalendarAdjusts.f k a0 l1 a2 = some r) :
    Calls Tryd.prog 11 #[.int .i64 a0, .slice A1 l1.length c1, .int .i64 a2] w fun e w' => e = .returned (.bool r) ∧ Below w.heap.size w w' := by
  have HRT := Aside0.mk hrT
  clear hrT
  have HR1 := Aside0.mk hr1
  have HC1 := Aside0.mk hc1
  clear hr1 hc1
  have HB := Aside0.mk (Below.refl w.heap.size w)
  have H : (if (l1.length : Int) > 4096 then (some true) else ((arrearslaw2_marked.f k l1).bind fun t273 => (if 0 ≤ (l1.length : Int) then (if (l1.length : Int) ≤ (t273.length : Int) then ((calendar_Business.f k a0 (t273.take ((l1.length : Int) : Int).toNat)).bind fun t280 => ((arrearsref2_Business.f k a0 l1).bind fun t281 => (if (t280 != t281) = true then (some false) else ((calendar_Adjust.f k a0 (t273.take ((l1.length : Int) : Int).toNat) a2).bind fun bt286 => ((arrearsref2_Adjust.f k a0 l1 a2).bind fun bt288 => (if bt286.1 = bt288.1 then (if (bt286.2 != bt288.2) = true then (arrearslaw2_CalendarAdjusts.j0 k a0 l1 a2 t273 true) else ((arrearslaw2_still.f k t273 l1).bind fun t290 => (arrearslaw2_CalendarAdjusts.j0 k a0 l1 a2 t273 (!t290)))) else (arrearslaw2_CalendarAdjusts.j0 k a0 l1 a2 t273 true))))))) else (none)) else (none)))) = some r := h
  clear h
  by_cases c4 : (l1.length : Int) > 4096
  · rw [if_pos c4] at H
    have c4b0 : decide (4096 < (l1.length : Int)) = true := decide_eq_true c4
    have c4b1 : decide (4096 < l1.length) = true := decide_eq_true (by omega)
    clear c4
    obtain rfl := Option.some.inj H
    go_enter Tryd.func11, Tryd.ntmps11
    go_wp2
    go_ret
    exact ⟨by first | rfl | (simp [errW_none, errW_some] <;> rfl) | (simp [*, errW_none, errW_some] <;> rfl), by repeat (first | (with_reducible first | exact HB.out | apply below_alloc | apply pw_below_drewN | apply below_drew1) | exact HB.out)⟩
  · rw [if_neg c4] at H
    have c4b0 : decide (4096 < (l1.length : Int)) = false := decide_eq_false c4
    have c4b1 : decide (4096 < l1.length) = false := decide_eq_false (by omega)
    clear c4
    replace H := Option.bind_eq_some_iff.mp H
    obtain ⟨t273, A50, H⟩ := H
    replace H : (if 0 ≤ (l1.length : Int) then (if (l1.length : Int) ≤ (t273.length : Int) then ((calendar_Business.f k a0 (t273.take ((l1.length : Int) : Int).toNat)).bind fun t280 => ((arrearsref2_Business.f k a0 l1).bind fun t281 => (if (t280 != t281) = true then (some false) else ((calendar_Adjust.f k a0 (t273.take ((l1.length : Int) : Int).toNat) a2).bind fun bt286 => ((arrearsref2_Adjust.f k a0 l1 a2).bind fun bt288 => (if bt286.1 = bt288.1 then (if (bt286.2 != bt288.2) = true then (arrearslaw2_CalendarAdjusts.j0 k a0 l1 a2 t273 true) else ((arrearslaw2_still.f k t273 l1).bind fun t290 => (arrearslaw2_CalendarAdjusts.j0 k a0 l1 a2 t273 (!t290)))) else (arrearslaw2_CalendarAdjusts.j0 k a0 l1 a2 t273 true))))))) else (none)) else (none)) = some r := H
    have A5 := Aside0.mk A50
    clear A50
    by_cases c6 : 0 ≤ (l1.length : Int)
    · rw [if_pos c6] at H
      have c6b0 := eq_true c6
      have c6b1 : decide (0 ≤ (l1.length : Int)) = true := decide_eq_true c6
      clear c6
      by_cases c7 : (l1.length : Int) ≤ (t273.length : Int)
      · rw [if_pos c7] at H
        have c7b0 := eq_true c7
        have c7b1 : decide ((l1.length : Int) ≤ (t273.length : Int)) = true := decide_eq_true c7
        clear c7
        obtain ⟨y276, hy276⟩ : ∃ y_ : List Int, y_ = (t273.take ((l1.length : Int) : Int).toNat) := ⟨_, rfl⟩
        replace H : ((calendar_Business.f k a0 y276).bind fun t280 => ((arrearsref2_Business.f k a0 l1).bind fun t281 => (if (t280 != t281) = true then (some false) else ((calendar_Adjust.f k a0 (t273.take ((l1.length : Int) : Int).toNat) a2).bind fun bt286 => ((arrearsref2_Adjust.f k a0 l1 a2).bind fun bt288 => (if bt286.1 = bt288.1 then (if (bt286.2 != bt288.2) = true then (arrearslaw2_CalendarAdjusts.j0 k a0 l1 a2 t273 true) else ((arrearslaw2_still.f k t273 l1).bind fun t290 => (arrearslaw2_CalendarAdjusts.j0 k a0 l1 a2 t273 (!t290)))) else (arrearslaw2_CalendarAdjusts.j0 k a0 l1 a2 t273 true))))))) = some r := by first | (rw [hy276]; with_reducible exact H) | (have H2_ := (Option.bind_some _ _).symm.trans H; rw [hy276]; with_reducible exact H2_) | (have H2_ := (Option.bind_some _ _).symm.trans H; with_reducible exact H2_) | with_reducible exact H | (rw [hy276]; exact H) | exact H
        have Ny276 := Aside0.mk hy276
        clear hy276
        replace H := Option.bind_eq_some_iff.mp H
        obtain ⟨t280, A80, H⟩ := H
        replace H : ((arrearsref2_Business.f k a0 l1).bind fun t281 => (if (t280 != t281) = true then (some false) else ((calendar_Adjust.f k a0 (t273.take ((l1.length : Int) : Int).toNat) a2).bind fun bt286 => ((arrearsref2_Adjust.f k a0 l1 a2).bind fun bt288 => (if bt286.1 = bt288.1 then (if (bt286.2 != bt288.2) = true then (arrearslaw2_CalendarAdjusts.j0 k a0 l1 a2 t273 true) else ((arrearslaw2_still.f k t273 l1).bind fun t290 => (arrearslaw2_CalendarAdjusts.j0 k a0 l1 a2 t273 (!t290)))) else (arrearslaw2_CalendarAdjusts.j0 k a0 l1 a2 t273 true)))))) = some r := H
        have A8 := Aside0.mk A80
        clear A80
        replace H := Option.bind_eq_some_iff.mp H
        obtain ⟨t281, A90, H⟩ := H
        replace H : (if (t280 != t281) = true then (some false) else ((calendar_Adjust.f k a0 (t273.take ((l1.length : Int) : Int).toNat) a2).bind fun bt286 => ((arrearsref2_Adjust.f k a0 l1 a2).bind fun bt288 => (if bt286.1 = bt288.1 then (if (bt286.2 != bt288.2) = true then (arrearslaw2_CalendarAdjusts.j0 k a0 l1 a2 t273 true) else ((arrearslaw2_still.f k t273 l1).bind fun t290 => (arrearslaw2_CalendarAdjusts.j0 k a0 l1 a2 t273 (!t290)))) else (arrearslaw2_CalendarAdjusts.j0 k a0 l1 a2 t273 true))))) = some r := H
        have A9 := Aside0.mk A90
        clear A90
        by_cases c10 : (t280 != t281) = true
        · rw [if_pos c10] at H
          have c10b0 : (t280 != t281) = true := c10
          (try (have c10b1 : decide (t280 = t281) = false := by simpa using c10))
          (try (have c10b2 : (t280 == t281) = false := by simpa using c10))
          (try (have c10b3 : ¬ (t280 = t281) := by simpa using c10))
          clear c10
          obtain rfl := Option.some.inj H
          go_enter Tryd.func11, Tryd.ntmps11
          go_wp2_with (first | ((with_reducible refine gate_callee (f := 34) rfl ?_); refine goesL_ (some 18) rfl rfl Tryd.func34 (by kernel_rfl) rfl #[.slice A1 l1.length c1] rfl (by (try simp only [List.map_toArray, List.map_cons, List.map_nil]); first | done | rfl | (simp only [List.length_drop, List.length_take]; rfl)) ?_; (with_reducible refine (arrearslaw2_marked.calls k _ _ l1 t273 _ ?side1 ?side2 A5.out).mono ?_); (case side1 => repeat (first | exact HR1.out | (with_reducible refine Kd.C_alloc ?_ _) | (with_reducible refine Kd.C_drewN ?_ _) | (with_reducible refine Kd.C_drew ?_))); (case side2 => exact HC1.out); rintro e w11 ⟨v274, rfl, ho0, hb⟩; refine ⟨_, rfl, ?_⟩; have n0_ := Aside0.mk (Kd.R_lower ho0 (below_size (by repeat (first | (with_reducible first | exact HB.out | apply below_alloc | apply pw_below_drewN | apply below_drew1) | exact HB.out)))); have n1_ := Aside0.mk (below_step (by repeat (first | (with_reducible first | exact HB.out | apply below_alloc | apply pw_below_drewN | apply below_drew1) | exact HB.out)) hb); clear HB; have HO275 := n0_; have HB := n1_; clear n0_ n1_; (try clear hb); (try clear hb2); (try clear hk); (try clear hi); (try clear ho0); obtain ⟨Ao13, co13, eo13⟩ := Kd.R_slice HO275.out; subst eo13; have q12 : ((l1.length : Int) : Int) ≤ ((t273.length : Int) : Int) := of_decide_eq_true (by first | (with_reducible assumption) | assumption); obtain ⟨i012, hi012, _, hsz12, _⟩ := info_parts info3; have hroom12 : t273.length ≤ co13 := (Kd.R_reads' HO275.out).2.1; have hC12 : Kd.C (Kd.int .i64) _ Ao13 t273.length t273 := (Kd.R_reads' HO275.out).2.2; have hcut12 := cut_to (P := Tryd.prog) 36 3 .i64 Tryd.underlying36 hi012 Ao13 t273.length co13 (l1.length : Int) (of_decide_eq_true (by first | (with_reducible assumption) | assumption)) q12 hroom12; have hr12 := Kd.C_take (m := ((l1.length : Int) : Int).toNat) hC12 (by omega); have hy12 : y276.length = ((l1.length : Int) : Int).toNat := (by rw [Ny276.out, List.length_take]; omega); rw [← Ny276.out] at hr12; rw [← hy12] at hcut12; have HR279 := Aside0.mk hr12; have HC279 := Aside0.mk (show y276.length ≤ co13 from by omega); clear hr12 hC12 hroom12 hi012 hsz12; have KY12 := Aside0.mk hy12; clear hy12; have KL12 := Aside0.mk (show ((l1.length : Int) : Int).toNat ≤ t273.length from by omega); replace q12 := eq_true q12) | ((with_reducible refine gate_callee (f := 35) rfl ?_); refine goesL_ (some 24) rfl rfl Tryd.func35 (by kernel_rfl) rfl #[.int .i64 a0, .slice Ao13 y276.length co13] rfl (by (try simp only [List.map_toArray, List.map_cons, List.map_nil]); first | done | rfl | (simp only [List.length_drop, List.length_take]; rfl)) ?_; (with_reducible refine (calendar_Business.calls k a0 _ _ y276 t280 _ ?side1 ?side2 A8.out).mono ?_); (case side1 => repeat (first | exact (by repeat (first | (with_reducible exact HR279.out) | (with_reducible refine Kd.C_alloc ?_ _) | (with_reducible refine Kd.C_drewN ?_ _) | (with_reducible refine Kd.C_drew ?_) | exact HR279.out)) | (with_reducible refine Kd.C_alloc ?_ _) | (with_reducible refine Kd.C_drewN ?_ _) | (with_reducible refine Kd.C_drew ?_))); (case side2 => exact HC279.out); rintro e w' ⟨rfl, ⟨nd, rfl⟩⟩; refine ⟨_, rfl, ?_⟩) | ((with_reducible refine gate_callee (f := 36) rfl ?_); refine goesL_ (some 27) rfl rfl Tryd.func36 (by kernel_rfl) rfl #[.int .i64 a0, .slice A1 l1.length c1] rfl (by (try simp only [List.map_toArray, List.map_cons, List.map_nil]); first | done | rfl | (simp only [List.length_drop, List.length_take]; rfl)) ?_; (with_reducible refine (arrearsref2_Business.calls k a0 _ _ l1 t281 _ ?side1 ?side2 A9.out).mono ?_); (case side1 => repeat (first | exact (Kd.C_below HR1.out (by repeat (first | (with_reducible first | exact HB.out | apply below_alloc | apply pw_below_drewN | apply below_drew1) | exact HB.out))) | (with_reducible refine Kd.C_alloc ?_ _) | (with_reducible refine Kd.C_drewN ?_ _) | (with_reducible refine Kd.C_drew ?_))); (case side2 => exact HC1.out); rintro e w' ⟨rfl, ⟨nd, rfl⟩⟩; refine ⟨_, rfl, ?_⟩))
          go_ret
          exact ⟨by first | rfl | (simp [errW_none, errW_some] <;> rfl) | (simp [*, errW_none, errW_some] <;> rfl), by repeat (first | (with_reducible first | exact HB.out | apply below_alloc | apply pw_below_drewN | apply below_drew1) | exact HB.out)⟩
        · rw [if_neg c10] at H
          have c10b0 : (t280 != t281) = false := by simpa using c10
          (try (have c10b1 : decide (t280 = t281) = true := by simpa using c10))
          (try (have c10b2 : (t280 == t281) = true := by simpa using c10))
          clear c10
          have c14b0 := eq_true (of_decide_eq_true (by first | (with_reducible assumption) | assumption) : 0 ≤ (l1.length : Int))
          have c15b0 := eq_true (of_decide_eq_true (by first | (with_reducible assumption) | assumption) : (l1.length : Int) ≤ (t273.length : Int))
          obtain ⟨y282, hy282⟩ : ∃ y_ : List Int, y_ = (t273.take ((l1.length : Int) : Int).toNat) := ⟨_, rfl⟩
          replace H : ((calendar_Adjust.f k a0 y282 a2).bind fun bt286 => ((arrearsref2_Adjust.f k a0 l1 a2).bind fun bt288 => (if bt286.1 = bt288.1 then (if (bt286.2 != bt288.2) = true then (arrearslaw2_CalendarAdjusts.j0 k a0 l1 a2 t273 true) else ((arrearslaw2_still.f k t273 l1).bind fun t290 => (arrearslaw2_CalendarAdjusts.j0 k a0 l1 a2 t273 (!t290)))) else (arrearslaw2_CalendarAdjusts.j0 k a0 l1 a2 t273 true)))) = some r := by first | (rw [hy282]; with_reducible exact H) | (have H2_ := (Option.bind_some _ _).symm.trans H; rw [hy282]; with_reducible exact H2_) | (have H2_ := (Option.bind_some _ _).symm.trans H; with_reducible exact H2_) | with_reducible exact H | (rw [hy282]; exact H) | exact H
          have Ny282 := Aside0.mk hy282
          obtain rfl : y276 = y282 := Ny276.out.trans Ny282.out.symm
          clear hy282
          replace H := Option.bind_eq_some_iff.mp H
          obtain ⟨⟨t286, t287⟩, A160, H⟩ := H
          replace H : ((arrearsref2_Adjust.f k a0 l1 a2).bind fun bt288 => (if t286 = bt288.1 then (if (t287 != bt288.2) = true then (arrearslaw2_CalendarAdjusts.j0 k a0 l1 a2 t273 true) else ((arrearslaw2_still.f k t273 l1).bind fun t290 => (arrearslaw2_CalendarAdjusts.j0 k a0 l1 a2 t273 (!t290)))) else (arrearslaw2_CalendarAdjusts.j0 k a0 l1 a2 t273 true))) = some r := H
          have A16 := Aside0.mk A160
          clear A160
          replace H := Option.bind_eq_some_iff.mp H
          obtain ⟨⟨t288, t289⟩, A170, H⟩ := H
          replace H : (if t286 = t288 then (if (t287 != t289) = true then (arrearslaw2_CalendarAdjusts.j0 k a0 l1 a2 t273 true) else ((arrearslaw2_still.f k t273 l1).bind fun t290 => (arrearslaw2_CalendarAdjusts.j0 k a0 l1 a2 t273 (!t290)))) else (arrearslaw2_CalendarAdjusts.j0 k a0 l1 a2 t273 true)) = some r := H
          have A17 := Aside0.mk A170
          clear A170
          have HC18 := Aside0.mk H
          clear H
          go_enter Tryd.func11, Tryd.ntmps11
          go_upto_region 8 with (first | ((with_reducible refine gate_callee (f := 34) rfl ?_); refine goesL_ (some 18) rfl rfl Tryd.func34 (by kernel_rfl) rfl #[.slice A1 l1.length c1] rfl (by (try simp only [List.map_toArray, List.map_cons, List.map_nil]); first | done | rfl | (simp only [List.length_drop, List.length_take]; rfl)) ?_; (with_reducible refine (arrearslaw2_marked.calls k _ _ l1 t273 _ ?side1 ?side2 A5.out).mono ?_); (case side1 => repeat (first | exact HR1.out | (with_reducible refine Kd.C_alloc ?_ _) | (with_reducible refine Kd.C_drewN ?_ _) | (with_reducible refine Kd.C_drew ?_))); (case side2 => exact HC1.out); rintro e w19 ⟨v274, rfl, ho0, hb⟩; refine ⟨_, rfl, ?_⟩; have n0_ := Aside0.mk (Kd.R_lower ho0 (below_size (by repeat (first | (with_reducible first | exact HB.out | apply below_alloc | apply pw_below_drewN | apply below_drew1) | exact HB.out)))); have n1_ := Aside0.mk (below_step (by repeat (first | (with_reducible first | exact HB.out | apply below_alloc | apply pw_below_drewN | apply below_drew1) | exact HB.out)) hb); clear HB; have HO275 := n0_; have HB := n1_; clear n0_ n1_; (try clear hb); (try clear hb2); (try clear hk); (try clear hi); (try clear ho0); obtain ⟨Ao21, co21, eo21⟩ := Kd.R_slice HO275.out; subst eo21; have q20 : ((l1.length : Int) : Int) ≤ ((t273.length : Int) : Int) := of_decide_eq_true (by first | (with_reducible assumption) | assumption); obtain ⟨i020, hi020, _, hsz20, _⟩ := info_parts info3; have hroom20 : t273.length ≤ co21 := (Kd.R_reads' HO275.out).2.1; have hC20 : Kd.C (Kd.int .i64) _ Ao21 t273.length t273 := (Kd.R_reads' HO275.out).2.2; have hcut20 := cut_to (P := Tryd.prog) 36 3 .i64 Tryd.underlying36 hi020 Ao21 t273.length co21 (l1.length : Int) (of_decide_eq_true (by first | (with_reducible assumption) | assumption)) q20 hroom20; have hr20 := Kd.C_take (m := ((l1.length : Int) : Int).toNat) hC20 (by omega); have hy20 : y276.length = ((l1.length : Int) : Int).toNat := (by rw [Ny276.out, List.length_take]; omega); rw [← Ny276.out] at hr20; rw [← hy20] at hcut20; have HR279 := Aside0.mk hr20; have HC279 := Aside0.mk (show y276.length ≤ co21 from by omega); clear hr20 hC20 hroom20 hi020 hsz20; have KY20 := Aside0.mk hy20; clear hy20; have KL20 := Aside0.mk (show ((l1.length : Int) : Int).toNat ≤ t273.length from by omega); replace q20 := eq_true q20) | ((with_reducible refine gate_callee (f := 35) rfl ?_); refine goesL_ (some 24) rfl rfl Tryd.func35 (by kernel_rfl) rfl #[.int .i64 a0, .slice Ao21 y276.length co21] rfl (by (try simp only [List.map_toArray, List.map_cons, List.map_nil]); first | done | rfl | (simp only [List.length_drop, List.length_take]; rfl)) ?_; (with_reducible refine (calendar_Business.calls k a0 _ _ y276 t280 _ ?side1 ?side2 A8.out).mono ?_); (case side1 => repeat (first | exact (by repeat (first | (with_reducible exact HR279.out) | (with_reducible refine Kd.C_alloc ?_ _) | (with_reducible refine Kd.C_drewN ?_ _) | (with_reducible refine Kd.C_drew ?_) | exact HR279.out)) | (with_reducible refine Kd.C_alloc ?_ _) | (with_reducible refine Kd.C_drewN ?_ _) | (with_reducible refine Kd.C_drew ?_))); (case side2 => exact HC279.out); rintro e w' ⟨rfl, ⟨nd, rfl⟩⟩; refine ⟨_, rfl, ?_⟩) | ((with_reducible refine gate_callee (f := 36) rfl ?_); refine goesL_ (some 27) rfl rfl Tryd.func36 (by kernel_rfl) rfl #[.int .i64 a0, .slice A1 l1.length c1] rfl (by (try simp only [List.map_toArray, List.map_cons, List.map_nil]); first | done | rfl | (simp only [List.length_drop, List.length_take]; rfl)) ?_; (with_reducible refine (arrearsref2_Business.calls k a0 _ _ l1 t281 _ ?side1 ?side2 A9.out).mono ?_); (case side1 => repeat (first | exact (Kd.C_below HR1.out (by repeat (first | (with_reducible first | exact HB.out | apply below_alloc | apply pw_below_drewN | apply below_drew1) | exact HB.out))) | (with_reducible refine Kd.C_alloc ?_ _) | (with_reducible refine Kd.C_drewN ?_ _) | (with_reducible refine Kd.C_drew ?_))); (case side2 => exact HC1.out); rintro e w' ⟨rfl, ⟨nd, rfl⟩⟩; refine ⟨_, rfl, ?_⟩; have q22 : ((l1.length : Int) : Int) ≤ ((t273.length : Int) : Int) := of_decide_eq_true (by first | (with_reducible assumption) | assumption); obtain ⟨i022, hi022, _, hsz22, _⟩ := info_parts info3; have hroom22 : t273.length ≤ co21 := (Kd.R_reads' HO275.out).2.1; have hC22 : Kd.C (Kd.int .i64) _ Ao21 t273.length t273 := (Kd.R_reads' HO275.out).2.2; have hcut22 := cut_to (P := Tryd.prog) 36 3 .i64 Tryd.underlying36 hi022 Ao21 t273.length co21 (l1.length : Int) (of_decide_eq_true (by first | (with_reducible assumption) | assumption)) q22 hroom22; have hr22 := Kd.C_take (m := ((l1.length : Int) : Int).toNat) hC22 (by omega); have hy22 : y276.length = ((l1.length : Int) : Int).toNat := (by rw [Ny282.out, List.length_take]; omega); rw [← Ny282.out] at hr22; rw [← hy22] at hcut22; have HR285 := Aside0.mk hr22; have HC285 := Aside0.mk (show y276.length ≤ co21 from by omega); clear hr22 hC22 hroom22 hi022 hsz22; have KY22 := Aside0.mk hy22; clear hy22; have KL22 := Aside0.mk (show ((l1.length : Int) : Int).toNat ≤ t273.length from by omega); replace q22 := eq_true q22) | ((with_reducible refine gate_callee (f := 37) rfl ?_); refine goesL_ (some 36) rfl rfl Tryd.func37 (by kernel_rfl) rfl #[.int .i64 a0, .slice Ao21 y276.length co21, .int .i64 a2] rfl (by (try simp only [List.map_toArray, List.map_cons, List.map_nil]); first | done | rfl | (simp only [List.length_drop, List.length_take]; rfl)) ?_; (with_reducible refine (calendar_Adjust.calls k a0 _ _ y276 a2 t286 t287 _ ?side1 ?side2 ?side3 A16.out).mono ?_); (case side1 => repeat (first | exact (by repeat (first | (with_reducible exact HR285.out) | (with_reducible refine Kd.C_alloc ?_ _) | (with_reducible refine Kd.C_drewN ?_ _) | (with_reducible refine Kd.C_drew ?_) | exact HR285.out)) | (with_reducible refine Kd.C_alloc ?_ _) | (with_reducible refine Kd.C_drewN ?_ _) | (with_reducible refine Kd.C_drew ?_))); (case side2 => exact HC285.out); (case side3 => repeat (first | exact (Kd.C_below HRT.out (by repeat (first | (with_reducible first | exact HB.out | apply below_alloc | apply pw_below_drewN | apply below_drew1) | exact HB.out))) | (with_reducible refine Kd.C_alloc ?_ _) | (with_reducible refine Kd.C_drewN ?_ _) | (with_reducible refine Kd.C_drew ?_))); rintro e w23 ⟨rfl, hb⟩; refine ⟨_, rfl, ?_⟩; have n0_ := Aside0.mk (Kd.R_below (by (with_reducible repeat (first | apply Kd.R_alloc | apply Kd.R_drewN | apply Kd.R_drew)); exact HO275.out) hb); have n1_ := Aside0.mk (Kd.C_below (by repeat (first | (with_reducible exact HR279.out) | (with_reducible refine Kd.C_alloc ?_ _) | (with_reducible refine Kd.C_drewN ?_ _) | (with_reducible refine Kd.C_drew ?_) | exact HR279.out)) hb); have n2_ := Aside0.mk (Kd.C_below (by repeat (first | (with_reducible exact HR285.out) | (with_reducible refine Kd.C_alloc ?_ _) | (with_reducible refine Kd.C_drewN ?_ _) | (with_reducible refine Kd.C_drew ?_) | exact HR285.out)) hb); have n3_ := Aside0.mk (below_step (by repeat (first | (with_reducible first | exact HB.out | apply below_alloc | apply pw_below_drewN | apply below_drew1) | exact HB.out)) hb); clear HO275; clear HR279; clear HR285; clear HB; have HO275 := n0_; have HR279 := n1_; have HR285 := n2_; have HB := n3_; clear n0_ n1_ n2_ n3_; (try clear hb); (try clear hb2); (try clear hk); (try clear hi)) | ((with_reducible refine gate_callee (f := 38) rfl ?_); refine goesL_ (some 43) rfl rfl Tryd.func38 (by kernel_rfl) rfl #[.int .i64 a0, .slice A1 l1.length c1, .int .i64 a2] rfl (by (try simp only [List.map_toArray, List.map_cons, List.map_nil]); first | done | rfl | (simp only [List.length_drop, List.length_take]; rfl)) ?_; (with_reducible refine (arrearsref2_Adjust.calls k a0 _ _ l1 a2 t288 t289 _ ?side1 ?side2 A17.out).mono ?_); (case side1 => repeat (first | exact (Kd.C_below HR1.out HB.out) | (with_reducible refine Kd.C_alloc ?_ _) | (with_reducible refine Kd.C_drewN ?_ _) | (with_reducible refine Kd.C_drew ?_))); (case side2 => exact HC1.out); rintro e w24 ⟨rfl, hb⟩; refine ⟨_, rfl, ?_⟩; have n0_ := Aside0.mk (Kd.R_below (by (with_reducible repeat (first | apply Kd.R_alloc | apply Kd.R_drewN | apply Kd.R_drew)); exact HO275.out) hb); have n1_ := Aside0.mk (Kd.C_below (by repeat (first | (with_reducible exact HR279.out) | (with_reducible refine Kd.C_alloc ?_ _) | (with_reducible refine Kd.C_drewN ?_ _) | (with_reducible refine Kd.C_drew ?_) | exact HR279.out)) hb); have n2_ := Aside0.mk (Kd.C_below (by repeat (first | (with_reducible exact HR285.out) | (with_reducible refine Kd.C_alloc ?_ _) | (with_reducible refine Kd.C_drewN ?_ _) | (with_reducible refine Kd.C_drew ?_) | exact HR285.out)) hb); have n3_ := Aside0.mk (below_step (by repeat (first | (with_reducible first | exact HB.out | apply below_alloc | apply pw_below_drewN | apply below_drew1) | exact HB.out)) hb); clear HO275; clear HR279; clear HR285; clear HB; have HO275 := n0_; have HR279 := n1_; have HR285 := n2_; have HB := n3_; clear n0_ n1_ n2_ n3_; (try clear hb); (try clear hb2); (try clear hk); (try clear hi)))
          (try simp only [Act.put, List.setIfInBounds_toArray, List.set_cons_zero, List.set_cons_succ])
          go_cut [59] (fun v59 wc => ∃ (kq : Nat) (x59_17 : Bool), v59 = .bool x59_17 ∧ Aside0 (arrearslaw2_CalendarAdjusts.j0 kq a0 l1 a2 t273 x59_17 = some r) ∧ Aside0 (kq ≤ k) ∧ Aside0 (Kd.R (Kd.int .i64) 3 wc w.heap.size (fun _ => True) (.slice Ao21 t273.length co21) t273) ∧ Aside0 (Kd.C (Kd.int .i64) wc Ao21 y276.length y276) ∧ Aside0 (Kd.C (Kd.int .i64) wc Ao21 y276.length y276) ∧ Aside0 (Below w.heap.size w wc))
          case first =>
            have H := HC18.out
            clear HC18
            by_cases c25 : t286 = t288
            · rw [if_pos c25] at H
              have c25b0 : (t286 == t288) = true := beq_iff_eq.mpr c25
              have c25b1 : (t286 != t288) = false := bne_eq_false_iff_eq.mpr c25
              clear c25
              (first | rw [c25b0] | (simp only [i64_w, i32_w]; rw [c25b0]) | skip)
              by_cases c26 : (t287 != t289) = true
              · rw [if_pos c26] at H
                have c26b0 : (t287 != t289) = true := c26
                (try (have c26b1 : decide (t287 = t289) = false := by simpa using c26))
                (try (have c26b2 : (t287 == t289) = false := by simpa using c26))
                (try (have c26b3 : ¬ (t287 = t289) := by simpa using c26))
                clear c26
                have H' := Aside0.mk H
                clear H
                go_wp2
                go_meet
                case rel => exact ⟨_, (true), (by first | rfl | (simp; done) | (simp [*]; done)), H', ⟨by first | omega | exact Nat.le_refl _⟩, ⟨by (with_reducible repeat (first | apply Kd.R_alloc | apply Kd.R_drewN | apply Kd.R_drew)); exact HO275.out⟩, ⟨by repeat (first | (with_reducible exact HR279.out) | (with_reducible refine Kd.C_alloc ?_ _) | (with_reducible refine Kd.C_drewN ?_ _) | (with_reducible refine Kd.C_drew ?_) | exact HR279.out)⟩, ⟨by repeat (first | (with_reducible exact HR285.out) | (with_reducible refine Kd.C_alloc ?_ _) | (with_reducible refine Kd.C_drewN ?_ _) | (with_reducible refine Kd.C_drew ?_) | exact HR285.out)⟩, ⟨by repeat (first | (with_reducible first | exact HB.out | apply below_alloc | apply pw_below_drewN | apply below_drew1) | exact HB.out)⟩⟩
              · rw [if_neg c26] at H
                have c26b0 : (t287 != t289) = false := by simpa using c26
                (try (have c26b1 : decide (t287 = t289) = true := by simpa using c26))
                (try (have c26b2 : (t287 == t289) = true := by simpa using c26))
                clear c26
                replace H := Option.bind_eq_some_iff.mp H
                obtain ⟨t290, A270, H⟩ := H
                replace H : (arrearslaw2_CalendarAdjusts.j0 k a0 l1 a2 t273 (!t290)) = some r := H
                have A27 := Aside0.mk A270
                clear A270
                have H' := Aside0.mk H
                clear H
                go_wp2_with (first | (go_at_call 39; (with_reducible refine (arrearslaw2_still.calls k _ _ t273 _ _ l1 t290 _ ?side1 ?side2 ?side3 ?side4 A27.out).mono ?_); (case side1 => repeat (first | exact (Kd.R_reads' HO275.out).2.2 | (with_reducible refine Kd.C_alloc ?_ _) | (with_reducible refine Kd.C_drewN ?_ _) | (with_reducible refine Kd.C_drew ?_))); (case side2 => exact (Kd.R_reads' HO275.out).2.1); (case side3 => repeat (first | exact (Kd.C_below HR1.out HB.out) | (with_reducible refine Kd.C_alloc ?_ _) | (with_reducible refine Kd.C_drewN ?_ _) | (with_reducible refine Kd.C_drew ?_))); (case side4 => exact HC1.out); rintro e w' ⟨rfl, ⟨nd, rfl⟩⟩))
                go_meet
                case rel => exact ⟨_, (!t290), (by first | rfl | (simp; done) | (simp [*]; done)), H', ⟨by first | omega | exact Nat.le_refl _⟩, ⟨by (with_reducible repeat (first | apply Kd.R_alloc | apply Kd.R_drewN | apply Kd.R_drew)); exact HO275.out⟩, ⟨by repeat (first | (with_reducible exact HR279.out) | (with_reducible refine Kd.C_alloc ?_ _) | (with_reducible refine Kd.C_drewN ?_ _) | (with_reducible refine Kd.C_drew ?_) | exact HR279.out)⟩, ⟨by repeat (first | (with_reducible exact HR285.out) | (with_reducible refine Kd.C_alloc ?_ _) | (with_reducible refine Kd.C_drewN ?_ _) | (with_reducible refine Kd.C_drew ?_) | exact HR285.out)⟩, ⟨by repeat (first | (with_reducible first | exact HB.out | apply below_alloc | apply pw_below_drewN | apply below_drew1) | exact HB.out)⟩⟩
            · rw [if_neg c25] at H
              have c25b0 : (t286 == t288) = false := beq_eq_false_iff_ne.mpr c25
              have c25b1 : (t286 != t288) = true := bne_iff_ne.mpr c25
              (first | rw [c25b0] | (simp only [i64_w, i32_w]; rw [c25b0]) | skip)
              have H' := Aside0.mk H
              clear H
              go_wp2
              go_meet
              case rel => exact ⟨_, (true), (by first | rfl | (simp; done) | (simp [*]; done)), H', ⟨by first | omega | exact Nat.le_refl _⟩, ⟨by (with_reducible repeat (first | apply Kd.R_alloc | apply Kd.R_drewN | apply Kd.R_drew)); exact HO275.out⟩, ⟨by repeat (first | (with_reducible exact HR279.out) | (with_reducible refine Kd.C_alloc ?_ _) | (with_reducible refine Kd.C_drewN ?_ _) | (with_reducible refine Kd.C_drew ?_) | exact HR279.out)⟩, ⟨by repeat (first | (with_reducible exact HR285.out) | (with_reducible refine Kd.C_alloc ?_ _) | (with_reducible refine Kd.C_drewN ?_ _) | (with_reducible refine Kd.C_drew ?_) | exact HR285.out)⟩, ⟨by repeat (first | (with_reducible first | exact HB.out | apply below_alloc | apply pw_below_drewN | apply below_drew1) | exact HB.out)⟩⟩
          case rest =>
            clear HC18
            try clear c1
            try clear q1
            try clear c2
            try clear p2
            try clear q2
            try clear c3
            try clear c4
            try clear c4b0
            try clear c4b1
            try clear c6
            try clear c6b0
            try clear c6b1
            try clear c7
            try clear c7b0
            try clear c7b1
            try clear c10
            try clear c10b0
            try clear c10b1
            try clear c10b2
            try clear c11
            try clear q12
            try clear c14
            try clear c14b0
            try clear c15
            try clear c15b0
            try clear q20
            try clear q22
            try clear c25
            try clear c25b0
            try clear c25b1
            try clear c26
            try clear c26b0
            try clear c26b1
            try clear c26b2
            try clear q12
            try clear q20
            try clear q22
            obtain ⟨kq, x59_17, rfl, HA, HJ17, HO_7, HR279, HR285, HB⟩ := hcut
            cases kq with
            | zero => exact absurd HA.out (by simp [arrearslaw2_CalendarAdjusts.j0])
            | succ kj17 =>
              have H := HA.out
              clear HA
              simp only [arrearslaw2_CalendarAdjusts.j0] at H
              by_cases c28 : x59_17 = true
              · subst c28
                have H1 : (some false) = some r := by rw [if_pos rfl] at H; exact H
                clear H
                have H := H1
                clear H1
                obtain rfl := Option.some.inj H
                go_wp2
                go_ret
                exact ⟨by first | rfl | (simp [errW_none, errW_some] <;> rfl) | (simp [*, errW_none, errW_some] <;> rfl), by repeat (first | (with_reducible first | exact HB.out | apply below_alloc | apply pw_below_drewN | apply below_drew1) | exact HB.out)⟩
              · replace c28 := Bool.eq_false_iff.mpr c28
                subst c28
                have H1 : (arrearslaw2_CalendarAdjusts.l0 kj17 a0 l1 a2 t273 ([] : List Int) 0) = some r := by rw [if_neg (show ¬ (false = true) by decide)] at H; exact H
                clear H
                have H := H1
                clear H1
                have H' := Aside0.mk H
                clear H
                go_wp2
                go_loopg [12, 13] kj17 (fun kq v12 v13 w' => ∃ (x7_2 : List Int) (x12_2 : List Int) (x13_2 : Int), v13 = .int .i64 x13_2 ∧ Aside0 (arrearslaw2_CalendarAdjusts.l0 kq a0 l1 a2 x7_2 x12_2 x13_2 = some r) ∧ Aside0 (kq ≤ kj17) ∧ Aside0 (Kd.R (Kd.int .i64) 3 w' w.heap.size (fun k_ => some k_ ≠ (v12 : Value).ownBlock) (.slice Ao21 t273.length co21) x7_2) ∧ Aside0 (Kd.R (Kd.int .i64) 3 w' w.heap.size (fun k_ => some k_ ≠ ((.slice Ao21 t273.length co21) : Value).ownBlock) v12 x12_2) ∧ Aside0 (Below w.heap.size w w'))
                case atStart => exact ⟨(t273), (([] : List Int)), (0), (by first | rfl | (simp; done) | (simp [*]; done)), H', ⟨Nat.le_refl _⟩, ⟨by (with_reducible repeat (first | apply Kd.R_alloc | apply Kd.R_drewN | apply Kd.R_drew)); exact Kd.R_mono HO_7.out (fun _ hk => (by simp [Value.ownBlock]))⟩, ⟨by first | exact Kd.R_nil _ _ _ _ _ | exact Kd.N_nil _ _ _ _ _ | exact Kd.V_nil _ _ _ _ _ | exact Kd.Q_nil _ _ _ _ _ | exact Kd.S_nil _ _ _ _ _⟩, ⟨by repeat (first | (with_reducible first | exact HB.out | apply below_alloc | apply pw_below_drewN | apply below_drew1) | exact HB.out)⟩⟩
                case round =>
                  clear H'
                  try clear c1
                  try clear q1
                  try clear c2
                  try clear p2
                  try clear q2
                  try clear c3
                  try clear c4
                  try clear c4b0
                  try clear c4b1
                  try clear c6
                  try clear c6b0
                  try clear c6b1
                  try clear c7
                  try clear c7b0
                  try clear c7b1
                  try clear c10
                  try clear c10b0
                  try clear c10b1
                  try clear c10b2
                  try clear c11
                  try clear q12
                  try clear c14
                  try clear c14b0
                  try clear c15
                  try clear c15b0
                  try clear q20
                  try clear q22
                  try clear c25
                  try clear c25b0
                  try clear c25b1
                  try clear c26
                  try clear c26b0
                  try clear c26b1
                  try clear c26b2
                  try clear c28
                  try clear p2
                  try clear q1
                  try clear q12
                  try clear q2
                  try clear q20
                  try clear q22
                  obtain ⟨x7_2, x12_2, x13_2, rfl, HA, HK2, HO_7, HO_12, HB⟩ := hrel
                  have hl7_2 := (Kd.R_reads' HO_7.out).1
                  rw [hl7_2] at HO_7
                  (try simp only [hl7_2])
                  (try simp only [hl7_2] at HO_12)
                  cases gk with
                  | zero => exact absurd HA.out (by simp [arrearslaw2_CalendarAdjusts.l0])
                  | succ k2 =>
                    have H := HA.out
                    clear HA
                    simp only [arrearslaw2_CalendarAdjusts.l0] at H
                    by_cases c29 : x13_2 < (l1.length : Int)
                    · rw [if_pos c29] at H
                      have c29b0 : decide (x13_2 < (l1.length : Int)) = true := decide_eq_true c29
                      clear c29
                      by_cases c30 : 0 ≤ x13_2
                      · rw [if_pos c30] at H
                        have c30b0 : decide (0 ≤ x13_2) = true := decide_eq_true c30
                        clear c30
                        by_cases c31 : x13_2 < (x7_2.length : Int)
                        · rw [if_pos c31] at H
                          have c31b0 : decide (x13_2 < (x7_2.length : Int)) = true := decide_eq_true c31
                          clear c31
                          obtain ⟨y291, hy291⟩ : ∃ y_ : List Int, y_ = (x7_2.set (x13_2 : Int).toNat (wrap64 ((Go.bits .and .i64 a0 16777215) + x13_2))) := ⟨_, rfl⟩
                          replace H : (if x12_2.length < 17592186044416 then (arrearslaw2_CalendarAdjusts.l0 k2 a0 l1 a2 y291 (x12_2 ++ [rd y291 x13_2]) (wrap64 (x13_2 + 1))) else (none)) = some r := by first | (rw [hy291]; with_reducible exact H) | (have H2_ := (Option.bind_some _ _).symm.trans H; rw [hy291]; with_reducible exact H2_) | (have H2_ := (Option.bind_some _ _).symm.trans H; with_reducible exact H2_) | with_reducible exact H | (rw [hy291]; exact H) | exact H
                          have Ny291 := Aside0.mk hy291
                          clear hy291
                          by_cases c33 : x12_2.length < 17592186044416
                          · rw [if_pos c33] at H
                            have LMc33 := Aside0.mk c33
                            clear c33
                            obtain ⟨y293, hy293⟩ : ∃ y_ : List Int, y_ = (x12_2 ++ [rd y291 x13_2]) := ⟨_, rfl⟩
                            replace H : (arrearslaw2_CalendarAdjusts.l0 k2 a0 l1 a2 y291 y293 (wrap64 (x13_2 + 1))) = some r := by first | (rw [hy293]; with_reducible exact H) | (have H2_ := (Option.bind_some _ _).symm.trans H; rw [hy293]; with_reducible exact H2_) | (have H2_ := (Option.bind_some _ _).symm.trans H; with_reducible exact H2_) | with_reducible exact H | (rw [hy293]; exact H) | exact H
                            have Ny293 := Aside0.mk hy293
                            clear hy293
                            have H' := Aside0.mk H
                            clear H
                            have p32 : 0 ≤ (x13_2 : Int) := of_decide_eq_true (by first | (with_reducible assumption) | assumption)
                            have q32 : (x13_2 : Int) < ((x7_2.length : Int) : Int) := of_decide_eq_true (by first | (with_reducible assumption) | assumption)
                            obtain ⟨go32, co32, eo32, gb32, gl32, cl32, HG32⟩ := Kd.R_form HO_7.out (by omega)
                            (first | cases eo32 | (injection eo32 with ea_ en_ ec_; (first | subst ea_ | (injection ea_ with ea_; subst ea_)); subst ec_; clear en_))
                            have GB32 := Aside0.mk gb32
                            have GG32 := Aside0.mk HG32
                            clear gb32 gl32 HG32
                            obtain ⟨hx32_0, hf32_0⟩ := Kd.R_celln 0 HO_7.out (x13_2 : Int) p32 q32
                            replace p32 := eq_true p32
                            replace q32 := eq_true q32
                            have HP34 := Kd.R_putg HO_7.out (x13_2 : Int) (wrap64 ((Go.bits .and .i64 a0 16777215) + x13_2))
                            go_wp2_with (first | ((with_reducible refine gate_store (t := 3) (p := 72) rfl ?_); refine store_event (t := 3) (p := 72) (v := ?vo_w35) (w1 := (wr.setCell ⟨go32, (x13_2 : Int).toNat, none⟩ (.int .i64 (wrap64 ((Go.bits .and .i64 a0 16777215) + x13_2))))) ?hg ?ho ?hn ?hr ?_; (case ho => rfl); (case hg => rfl); (case hn => rfl); (case hr => first | (go_simp; done) | (go_simp; rfl)); intro w35 hw; have hg : wr.grownBy w35 (some go32) := (by rw [hw]; exact HP34.2); have hp_ : Kd.R (Kd.int .i64) 3 w35 w.heap.size (fun k_ => some k_ ≠ (u12 : Value).ownBlock) (.slice (some ⟨go32, 0, none⟩) x7_2.length co21) y291 := (by rw [hw, Ny291.out]; exact HP34.1); clear HP34; have n0_ := Aside0.mk (hp_); have n1_ := Aside0.mk (Kd.R_after (v := (.slice (some ⟨go32, 0, none⟩) x7_2.length co21)) (v1 := (.slice (some ⟨go32, 0, none⟩) x7_2.length co21)) (ok := (fun _ => True)) (by (with_reducible repeat (first | apply Kd.R_alloc | apply Kd.R_drewN | apply Kd.R_drew)); exact Kd.R_mono HO_12.out (fun _ hk => ⟨trivial, hk⟩)) hg (.inl rfl)); have n2_ := Aside0.mk ((by rw [hw]; exact below_set (HB.out) GB32.out : Below w.heap.size w w35)); clear HO_7; clear HO_12; clear HB; have HO_7 := n0_; have HO_12 := n1_; have HB := n2_; clear n0_ n1_ n2_; clear hg hw hp_; have p292 : 0 ≤ (x13_2 : Int) := of_decide_eq_true (by first | (with_reducible assumption) | assumption); have q292 : x13_2 < (y291.length : Int) := (by have h_ : (x13_2 : Int) < ((x7_2.length : Int) : Int) := of_decide_eq_true (by first | (with_reducible assumption) | assumption); first | (have e_ := (Kd.R_reads' HO_7.out).1; omega) | simpa only [Ny291.out, List.length_set] using h_); have ql292 : ((x13_2 : Int) < ((x7_2.length : Int) : Int)) = True := eq_true (of_decide_eq_true (by first | (with_reducible assumption) | assumption)); obtain ⟨ad292, e292, hx292_0⟩ := Kd.at_int (Kd.R_reads' HO_7.out).2.2 x13_2 p292 q292; obtain rfl : (⟨go32, 0, none⟩ : Addr) = ad292 := (by injection e292); (first | simp only [add_plain] at hx292_0 | simp only [add_at] at hx292_0 | simp only [Addr.add, Nat.zero_add] at hx292_0 | skip); replace p292 := eq_true p292; replace q292 := eq_true q292) | ((with_reducible refine gate_builtin (b := .append) (xs := #[.tmp 73, .tmp 78]) rfl ?_); at_builtin; refine Kd.R_append (Kd.int .i64) (w0 := w) w.heap.size rfl (.tmp 73) (.tmp 78) 36 3 (.int .i64 0) 8 rfl Tryd.underlying36 info3 rfl (by decide) (by omega) u12 x12_2 (rd y291 x13_2) [.int .i64 (rd y291 x13_2)] (fun k_ => some k_ ≠ (.slice (some ⟨go32, 0, none⟩) x7_2.length co21 : Value).ownBlock) (fun _ => False) rfl rfl ?aP (fun _ hk => hk.elim) ?aF ?aO ?aB ?aS ?aL ?_; (case aP => exact rfl); (case aB => exact (by repeat (first | (with_reducible first | exact HB.out | apply below_alloc | apply pw_below_drewN | apply below_drew1) | exact HB.out))); (case aF => exact (fun k_ hk => Kd.fresh' (Kd.R_lt (by (with_reducible repeat (first | apply Kd.R_alloc | apply Kd.R_drewN | apply Kd.R_drew)); exact HO_7.out)) k_ hk)); (case aO => exact (by (with_reducible repeat (first | apply Kd.R_alloc | apply Kd.R_drewN | apply Kd.R_drew)); exact Kd.R_mono HO_12.out (fun _ hk => hk.2))); (case aS => exact (below_size (by repeat (first | (with_reducible first | exact HB.out | apply below_alloc | apply pw_below_drewN | apply below_drew1) | exact HB.out)))); (case aL => have := LMc33.out; omega); intro v294 w36 ho hb hg hat; rw [← Ny293.out] at ho; have n0_ := Aside0.mk (Kd.R_after (ok := (fun _ => True)) (by (with_reducible repeat (first | apply Kd.R_alloc | apply Kd.R_drewN | apply Kd.R_drew)); exact Kd.R_mono HO_7.out (fun _ hk => ⟨trivial, hk⟩)) hg hat); have n1_ := Aside0.mk (hb); have n2_ := Aside0.mk (ho); clear HO_7; clear HB; clear HO_12; have HO_7 := n0_; have HB := n1_; have HO295 := n2_; clear n0_ n1_ n2_; clear ho hb hg hat))
                            (try simp only [← hl7_2])
                            go_roundg k2
                            case measure => have := HJ17.out; have := HK2.out; omega
                            case rel => exact ⟨(y291), (y293), (wrap64 (x13_2 + 1)), (by first | rfl | (simp; done) | (simp [*]; done)), H', ⟨by have := HJ17.out; have := HK2.out; omega⟩, ⟨by (try simp only [hl7_2]); (with_reducible repeat (first | apply Kd.R_alloc | apply Kd.R_drewN | apply Kd.R_drew)); exact Kd.R_mono HO_7.out (fun _ hk => hk.2)⟩, ⟨by (try simp only [hl7_2]); (with_reducible repeat (first | apply Kd.R_alloc | apply Kd.R_drewN | apply Kd.R_drew)); exact HO295.out⟩, ⟨by repeat (first | (with_reducible first | exact HB.out | apply below_alloc | apply pw_below_drewN | apply below_drew1) | exact HB.out)⟩⟩
                          · rw [if_neg c33] at H
                            exact absurd H (by simp)
                        · rw [if_neg c31] at H
                          exact absurd H (by simp)
                      · rw [if_neg c30] at H
                        exact absurd H (by simp)
                    · rw [if_neg c29] at H
                      have c29b0 : decide (x13_2 < (l1.length : Int)) = false := decide_eq_false c29
                      clear c29
                      by_cases c37 : 0 ≤ (l1.length : Int)
                      · rw [if_pos c37] at H
                        have c37b0 := eq_true c37
                        have c37b1 : decide (0 ≤ (l1.length : Int)) = true := decide_eq_true c37
                        clear c37
                        by_cases c38 : (l1.length : Int) ≤ (x7_2.length : Int)
                        · rw [if_pos c38] at H
                          have c38b0 := eq_true c38
                          have c38b1 : decide ((l1.length : Int) ≤ (x7_2.length : Int)) = true := decide_eq_true c38
                          clear c38
                          obtain ⟨y296, hy296⟩ : ∃ y_ : List Int, y_ = (x7_2.take ((l1.length : Int) : Int).toNat) := ⟨_, rfl⟩
                          replace H : ((calendar_Business.f k2 a0 y296).bind fun t300 => ((arrearsref2_Business.f k2 a0 x12_2).bind fun t301 => (if (t300 != t301) = true then (some false) else ((calendar_Adjust.f k2 a0 (x7_2.take ((l1.length : Int) : Int).toNat) a2).bind fun bt306 => ((arrearsref2_Adjust.f k2 a0 x12_2 a2).bind fun bt308 => (if bt306.1 = bt308.1 then (if (bt306.2 == bt308.2) = true then ((arrearslaw2_still.f k2 x7_2 x12_2).bind fun t310 => (some t310)) else (some false)) else (some false))))))) = some r := by first | (rw [hy296]; with_reducible exact H) | (have H2_ := (Option.bind_some _ _).symm.trans H; rw [hy296]; with_reducible exact H2_) | (have H2_ := (Option.bind_some _ _).symm.trans H; with_reducible exact H2_) | with_reducible exact H | (rw [hy296]; exact H) | exact H
                          have Ny296 := Aside0.mk hy296
                          clear hy296
                          replace H := Option.bind_eq_some_iff.mp H
                          obtain ⟨t300, A390, H⟩ := H
                          replace H : ((arrearsref2_Business.f k2 a0 x12_2).bind fun t301 => (if (t300 != t301) = true then (some false) else ((calendar_Adjust.f k2 a0 (x7_2.take ((l1.length : Int) : Int).toNat) a2).bind fun bt306 => ((arrearsref2_Adjust.f k2 a0 x12_2 a2).bind fun bt308 => (if bt306.1 = bt308.1 then (if (bt306.2 == bt308.2) = true then ((arrearslaw2_still.f k2 x7_2 x12_2).bind fun t310 => (some t310)) else (some false)) else (some false)))))) = some r := H
                          have A39 := Aside0.mk A390
                          clear A390
                          replace H := Option.bind_eq_some_iff.mp H
                          obtain ⟨t301, A400, H⟩ := H
                          replace H : (if (t300 != t301) = true then (some false) else ((calendar_Adjust.f k2 a0 (x7_2.take ((l1.length : Int) : Int).toNat) a2).bind fun bt306 => ((arrearsref2_Adjust.f k2 a0 x12_2 a2).bind fun bt308 => (if bt306.1 = bt308.1 then (if (bt306.2 == bt308.2) = true then ((arrearslaw2_still.f k2 x7_2 x12_2).bind fun t310 => (some t310)) else (some false)) else (some false))))) = some r := H
                          have A40 := Aside0.mk A400
                          clear A400
                          by_cases c41 : (t300 != t301) = true
                          · rw [if_pos c41] at H
                            have c41b0 : (t300 != t301) = true := c41
                            (try (have c41b1 : decide (t300 = t301) = false := by simpa using c41))
                            (try (have c41b2 : (t300 == t301) = false := by simpa using c41))
                            (try (have c41b3 : ¬ (t300 = t301) := by simpa using c41))
                            clear c41
                            obtain rfl := Option.some.inj H
                            have q42 : ((l1.length : Int) : Int) ≤ ((x7_2.length : Int) : Int) := of_decide_eq_true (by first | (with_reducible assumption) | assumption)
                            obtain ⟨i042, hi042, _, hsz42, _⟩ := info_parts info3
                            have hroom42 : x7_2.length ≤ co21 := (Kd.R_reads' HO_7.out).2.1
                            have hC42 : Kd.C (Kd.int .i64) _ Ao21 x7_2.length x7_2 := (Kd.R_reads' HO_7.out).2.2
                            have hcut42 := cut_to (P := Tryd.prog) 36 3 .i64 Tryd.underlying36 hi042 Ao21 x7_2.length co21 (l1.length : Int) (of_decide_eq_true (by first | (with_reducible assumption) | assumption)) q42 hroom42
                            have hr42 := Kd.C_take (m := ((l1.length : Int) : Int).toNat) hC42 (by omega)
                            have hy42 : y296.length = ((l1.length : Int) : Int).toNat := (by rw [Ny296.out, List.length_take]; omega)
                            rw [← Ny296.out] at hr42
                            rw [← hy42] at hcut42
                            have HR299 := Aside0.mk hr42
                            have HC299 := Aside0.mk (show y296.length ≤ co21 from by omega)
                            clear hr42 hC42 hroom42 hi042 hsz42
                            have KY42 := Aside0.mk hy42
                            clear hy42
                            have KL42 := Aside0.mk (show ((l1.length : Int) : Int).toNat ≤ x7_2.length from by omega)
                            replace q42 := eq_true q42
                            go_wp2_with (first | ((with_reducible refine gate_callee (f := 35) rfl ?_); refine goesL_ (some 85) rfl rfl Tryd.func35 (by kernel_rfl) rfl #[.int .i64 a0, .slice Ao21 y296.length co21] rfl (by (try simp only [List.map_toArray, List.map_cons, List.map_nil]); first | done | rfl | (simp only [List.length_drop, List.length_take]; rfl)) ?_; (with_reducible refine (calendar_Business.calls k2 a0 _ _ y296 t300 _ ?side1 ?side2 A39.out).mono ?_); (case side1 => repeat (first | exact (by repeat (first | (with_reducible exact HR299.out) | (with_reducible refine Kd.C_alloc ?_ _) | (with_reducible refine Kd.C_drewN ?_ _) | (with_reducible refine Kd.C_drew ?_) | exact HR299.out)) | (with_reducible refine Kd.C_alloc ?_ _) | (with_reducible refine Kd.C_drewN ?_ _) | (with_reducible refine Kd.C_drew ?_))); (case side2 => exact HC299.out); rintro e w' ⟨rfl, ⟨nd, rfl⟩⟩; refine ⟨_, rfl, ?_⟩; obtain ⟨Ao43, co43, eo43⟩ := Kd.R_slice HO_12.out; subst eo43) | ((with_reducible refine gate_callee (f := 36) rfl ?_); refine goesL_ (some 88) rfl rfl Tryd.func36 (by kernel_rfl) rfl #[.int .i64 a0, .slice Ao43 x12_2.length co43] rfl (by (try simp only [List.map_toArray, List.map_cons, List.map_nil]); first | done | rfl | (simp only [List.length_drop, List.length_take]; rfl)) ?_; (with_reducible refine (arrearsref2_Business.calls k2 a0 _ _ x12_2 t301 _ ?side1 ?side2 A40.out).mono ?_); (case side1 => repeat (first | exact (Kd.R_reads' HO_12.out).2.2 | (with_reducible refine Kd.C_alloc ?_ _) | (with_reducible refine Kd.C_drewN ?_ _) | (with_reducible refine Kd.C_drew ?_))); (case side2 => exact (Kd.R_reads' HO_12.out).2.1); rintro e w' ⟨rfl, ⟨nd, rfl⟩⟩; refine ⟨_, rfl, ?_⟩))
                            go_ret
                            exact ⟨by first | rfl | (simp [errW_none, errW_some] <;> rfl) | (simp [*, errW_none, errW_some] <;> rfl), by repeat (first | (with_reducible first | exact HB.out | apply below_alloc | apply pw_below_drewN | apply below_drew1) | exact HB.out)⟩
                          · rw [if_neg c41] at H
                            have c41b0 : (t300 != t301) = false := by simpa using c41
                            (try (have c41b1 : decide (t300 = t301) = true := by simpa using c41))
                            (try (have c41b2 : (t300 == t301) = true := by simpa using c41))
                            clear c41
                            have c44b0 := eq_true (of_decide_eq_true (by first | (with_reducible assumption) | assumption) : 0 ≤ (l1.length : Int))
                            have c45b0 := eq_true (of_decide_eq_true (by first | (with_reducible assumption) | assumption) : (l1.length : Int) ≤ (x7_2.length : Int))
                            obtain ⟨y302, hy302⟩ : ∃ y_ : List Int, y_ = (x7_2.take ((l1.length : Int) : Int).toNat) := ⟨_, rfl⟩
                            replace H : ((calendar_Adjust.f k2 a0 y302 a2).bind fun bt306 => ((arrearsref2_Adjust.f k2 a0 x12_2 a2).bind fun bt308 => (if bt306.1 = bt308.1 then (if (bt306.2 == bt308.2) = true then ((arrearslaw2_still.f k2 x7_2 x12_2).bind fun t310 => (some t310)) else (some false)) else (some false)))) = some r := by first | (rw [hy302]; with_reducible exact H) | (have H2_ := (Option.bind_some _ _).symm.trans H; rw [hy302]; with_reducible exact H2_) | (have H2_ := (Option.bind_some _ _).symm.trans H; with_reducible exact H2_) | with_reducible exact H | (rw [hy302]; exact H) | exact H
                            have Ny302 := Aside0.mk hy302
                            obtain rfl : y296 = y302 := Ny296.out.trans Ny302.out.symm
                            clear hy302
                            replace H := Option.bind_eq_some_iff.mp H
                            obtain ⟨⟨t306, t307⟩, A460, H⟩ := H
                            replace H : ((arrearsref2_Adjust.f k2 a0 x12_2 a2).bind fun bt308 => (if t306 = bt308.1 then (if (t307 == bt308.2) = true then ((arrearslaw2_still.f k2 x7_2 x12_2).bind fun t310 => (some t310)) else (some false)) else (some false))) = some r := H
                            have A46 := Aside0.mk A460
                            clear A460
                            replace H := Option.bind_eq_some_iff.mp H
                            obtain ⟨⟨t308, t309⟩, A470, H⟩ := H
                            replace H : (if t306 = t308 then (if (t307 == t309) = true then ((arrearslaw2_still.f k2 x7_2 x12_2).bind fun t310 => (some t310)) else (some false)) else (some false)) = some r := H
                            have A47 := Aside0.mk A470
                            clear A470
                            by_cases c48 : t306 = t308
                            · rw [if_pos c48] at H
                              have c48b0 : (t306 == t308) = true := beq_iff_eq.mpr c48
                              have c48b1 : (t306 != t308) = false := bne_eq_false_iff_eq.mpr c48
                              clear c48
                              by_cases c49 : (t307 == t309) = true
                              · rw [if_pos c49] at H
                                have c49b0 : (t307 == t309) = true := c49
                                (try (have c49b1 : decide (t307 = t309) = true := by simpa using c49))
                                (try (have c49b2 : (t307 == t309) = true := by simpa using c49))
                                clear c49
                                replace H := Option.bind_eq_some_iff.mp H
                                obtain ⟨t310, A500, H⟩ := H
                                replace H : (some t310) = some r := H
                                have A50 := Aside0.mk A500
                                clear A500
                                obtain rfl := Option.some.inj H
                                have q51 : ((l1.length : Int) : Int) ≤ ((x7_2.length : Int) : Int) := of_decide_eq_true (by first | (with_reducible assumption) | assumption)
                                obtain ⟨i051, hi051, _, hsz51, _⟩ := info_parts info3
                                have hroom51 : x7_2.length ≤ co21 := (Kd.R_reads' HO_7.out).2.1
                                have hC51 : Kd.C (Kd.int .i64) _ Ao21 x7_2.length x7_2 := (Kd.R_reads' HO_7.out).2.2
                                have hcut51 := cut_to (P := Tryd.prog) 36 3 .i64 Tryd.underlying36 hi051 Ao21 x7_2.length co21 (l1.length : Int) (of_decide_eq_true (by first | (with_reducible assumption) | assumption)) q51 hroom51
                                have hr51 := Kd.C_take (m := ((l1.length : Int) : Int).toNat) hC51 (by omega)
                                have hy51 : y296.length = ((l1.length : Int) : Int).toNat := (by rw [Ny296.out, List.length_take]; omega)
                                rw [← Ny296.out] at hr51
                                rw [← hy51] at hcut51
                                have HR299 := Aside0.mk hr51
                                have HC299 := Aside0.mk (show y296.length ≤ co21 from by omega)
                                clear hr51 hC51 hroom51 hi051 hsz51
                                have KY51 := Aside0.mk hy51
                                clear hy51
                                have KL51 := Aside0.mk (show ((l1.length : Int) : Int).toNat ≤ x7_2.length from by omega)
                                replace q51 := eq_true q51
                                go_wp2_with (first | ((with_reducible refine gate_callee (f := 35) rfl ?_); refine goesL_ (some 85) rfl rfl Tryd.func35 (by kernel_rfl) rfl #[.int .i64 a0, .slice Ao21 y296.length co21] rfl (by (try simp only [List.map_toArray, List.map_cons, List.map_nil]); first | done | rfl | (simp only [List.length_drop, List.length_take]; rfl)) ?_; (with_reducible refine (calendar_Business.calls k2 a0 _ _ y296 t300 _ ?side1 ?side2 A39.out).mono ?_); (case side1 => repeat (first | exact (by repeat (first | (with_reducible exact HR299.out) | (with_reducible refine Kd.C_alloc ?_ _) | (with_reducible refine Kd.C_drewN ?_ _) | (with_reducible refine Kd.C_drew ?_) | exact HR299.out)) | (with_reducible refine Kd.C_alloc ?_ _) | (with_reducible refine Kd.C_drewN ?_ _) | (with_reducible refine Kd.C_drew ?_))); (case side2 => exact HC299.out); rintro e w' ⟨rfl, ⟨nd, rfl⟩⟩; refine ⟨_, rfl, ?_⟩; obtain ⟨Ao52, co52, eo52⟩ := Kd.R_slice HO_12.out; subst eo52) | ((with_reducible refine gate_callee (f := 36) rfl ?_); refine goesL_ (some 88) rfl rfl Tryd.func36 (by kernel_rfl) rfl #[.int .i64 a0, .slice Ao52 x12_2.length co52] rfl (by (try simp only [List.map_toArray, List.map_cons, List.map_nil]); first | done | rfl | (simp only [List.length_drop, List.length_take]; rfl)) ?_; (with_reducible refine (arrearsref2_Business.calls k2 a0 _ _ x12_2 t301 _ ?side1 ?side2 A40.out).mono ?_); (case side1 => repeat (first | exact (Kd.R_reads' HO_12.out).2.2 | (with_reducible refine Kd.C_alloc ?_ _) | (with_reducible refine Kd.C_drewN ?_ _) | (with_reducible refine Kd.C_drew ?_))); (case side2 => exact (Kd.R_reads' HO_12.out).2.1); rintro e w' ⟨rfl, ⟨nd, rfl⟩⟩; refine ⟨_, rfl, ?_⟩; have q53 : ((l1.length : Int) : Int) ≤ ((x7_2.length : Int) : Int) := of_decide_eq_true (by first | (with_reducible assumption) | assumption); obtain ⟨i053, hi053, _, hsz53, _⟩ := info_parts info3; have hroom53 : x7_2.length ≤ co21 := (Kd.R_reads' HO_7.out).2.1; have hC53 : Kd.C (Kd.int .i64) _ Ao21 x7_2.length x7_2 := (Kd.R_reads' HO_7.out).2.2; have hcut53 := cut_to (P := Tryd.prog) 36 3 .i64 Tryd.underlying36 hi053 Ao21 x7_2.length co21 (l1.length : Int) (of_decide_eq_true (by first | (with_reducible assumption) | assumption)) q53 hroom53; have hr53 := Kd.C_take (m := ((l1.length : Int) : Int).toNat) hC53 (by omega); have hy53 : y296.length = ((l1.length : Int) : Int).toNat := (by rw [Ny302.out, List.length_take]; omega); rw [← Ny302.out] at hr53; rw [← hy53] at hcut53; have HR305 := Aside0.mk hr53; have HC305 := Aside0.mk (show y296.length ≤ co21 from by omega); clear hr53 hC53 hroom53 hi053 hsz53; have KY53 := Aside0.mk hy53; clear hy53; have KL53 := Aside0.mk (show ((l1.length : Int) : Int).toNat ≤ x7_2.length from by omega); replace q53 := eq_true q53) | ((with_reducible refine gate_callee (f := 37) rfl ?_); refine goesL_ (some 97) rfl rfl Tryd.func37 (by kernel_rfl) rfl #[.int .i64 a0, .slice Ao21 y296.length co21, .int .i64 a2] rfl (by (try simp only [List.map_toArray, List.map_cons, List.map_nil]); first | done | rfl | (simp only [List.length_drop, List.length_take]; rfl)) ?_; (with_reducible refine (calendar_Adjust.calls k2 a0 _ _ y296 a2 t306 t307 _ ?side1 ?side2 ?side3 A46.out).mono ?_); (case side1 => repeat (first | exact (by repeat (first | (with_reducible exact HR305.out) | (with_reducible refine Kd.C_alloc ?_ _) | (with_reducible refine Kd.C_drewN ?_ _) | (with_reducible refine Kd.C_drew ?_) | exact HR305.out)) | (with_reducible refine Kd.C_alloc ?_ _) | (with_reducible refine Kd.C_drewN ?_ _) | (with_reducible refine Kd.C_drew ?_))); (case side2 => exact HC305.out); (case side3 => repeat (first | exact (Kd.C_below HRT.out (by repeat (first | (with_reducible first | exact HB.out | apply below_alloc | apply pw_below_drewN | apply below_drew1) | exact HB.out))) | (with_reducible refine Kd.C_alloc ?_ _) | (with_reducible refine Kd.C_drewN ?_ _) | (with_reducible refine Kd.C_drew ?_))); rintro e w54 ⟨rfl, hb⟩; refine ⟨_, rfl, ?_⟩; have n0_ := Aside0.mk (Kd.R_below (by (with_reducible repeat (first | apply Kd.R_alloc | apply Kd.R_drewN | apply Kd.R_drew)); exact HO_7.out) hb); have n1_ := Aside0.mk (Kd.R_below (by (with_reducible repeat (first | apply Kd.R_alloc | apply Kd.R_drewN | apply Kd.R_drew)); exact HO_12.out) hb); have n2_ := Aside0.mk (Kd.C_below (by repeat (first | (with_reducible exact HR299.out) | (with_reducible refine Kd.C_alloc ?_ _) | (with_reducible refine Kd.C_drewN ?_ _) | (with_reducible refine Kd.C_drew ?_) | exact HR299.out)) hb); have n3_ := Aside0.mk (Kd.C_below (by repeat (first | (with_reducible exact HR305.out) | (with_reducible refine Kd.C_alloc ?_ _) | (with_reducible refine Kd.C_drewN ?_ _) | (with_reducible refine Kd.C_drew ?_) | exact HR305.out)) hb); have n4_ := Aside0.mk (below_step (by repeat (first | (with_reducible first | exact HB.out | apply below_alloc | apply pw_below_drewN | apply below_drew1) | exact HB.out)) hb); clear HO_7; clear HO_12; clear HR299; clear HR305; clear HB; have HO_7 := n0_; have HO_12 := n1_; have HR299 := n2_; have HR305 := n3_; have HB := n4_; clear n0_ n1_ n2_ n3_ n4_; (try clear hb); (try clear hb2); (try clear hk); (try clear hi)) | ((with_reducible refine gate_callee (f := 38) rfl ?_); refine goesL_ (some 104) rfl rfl Tryd.func38 (by kernel_rfl) rfl #[.int .i64 a0, .slice Ao52 x12_2.length co52, .int .i64 a2] rfl (by (try simp only [List.map_toArray, List.map_cons, List.map_nil]); first | done | rfl | (simp only [List.length_drop, List.length_take]; rfl)) ?_; (with_reducible refine (arrearsref2_Adjust.calls k2 a0 _ _ x12_2 a2 t308 t309 _ ?side1 ?side2 A47.out).mono ?_); (case side1 => repeat (first | exact (Kd.R_reads' HO_12.out).2.2 | (with_reducible refine Kd.C_alloc ?_ _) | (with_reducible refine Kd.C_drewN ?_ _) | (with_reducible refine Kd.C_drew ?_))); (case side2 => exact (Kd.R_reads' HO_12.out).2.1); rintro e w55 ⟨rfl, hb⟩; refine ⟨_, rfl, ?_⟩; have n0_ := Aside0.mk (Kd.R_below (by (with_reducible repeat (first | apply Kd.R_alloc | apply Kd.R_drewN | apply Kd.R_drew)); exact HO_7.out) hb); have n1_ := Aside0.mk (Kd.R_below (by (with_reducible repeat (first | apply Kd.R_alloc | apply Kd.R_drewN | apply Kd.R_drew)); exact HO_12.out) hb); have n2_ := Aside0.mk (Kd.C_below (by repeat (first | (with_reducible exact HR299.out) | (with_reducible refine Kd.C_alloc ?_ _) | (with_reducible refine Kd.C_drewN ?_ _) | (with_reducible refine Kd.C_drew ?_) | exact HR299.out)) hb); have n3_ := Aside0.mk (Kd.C_below (by repeat (first | (with_reducible exact HR305.out) | (with_reducible refine Kd.C_alloc ?_ _) | (with_reducible refine Kd.C_drewN ?_ _) | (with_reducible refine Kd.C_drew ?_) | exact HR305.out)) hb); have n4_ := Aside0.mk (below_step (by repeat (first | (with_reducible first | exact HB.out | apply below_alloc | apply pw_below_drewN | apply below_drew1) | exact HB.out)) hb); clear HO_7; clear HO_12; clear HR299; clear HR305; clear HB; have HO_7 := n0_; have HO_12 := n1_; have HR299 := n2_; have HR305 := n3_; have HB := n4_; clear n0_ n1_ n2_ n3_ n4_; (try clear hb); (try clear hb2); (try clear hk); (try clear hi)) | (go_at_call 39; (with_reducible refine (arrearslaw2_still.calls k2 _ _ x7_2 _ _ x12_2 t310 _ ?side1 ?side2 ?side3 ?side4 A50.out).mono ?_); (case side1 => repeat (first | exact (Kd.R_reads' HO_7.out).2.2 | (with_reducible refine Kd.C_alloc ?_ _) | (with_reducible refine Kd.C_drewN ?_ _) | (with_reducible refine Kd.C_drew ?_))); (case side2 => exact (Kd.R_reads' HO_7.out).2.1); (case side3 => repeat (first | exact (Kd.R_reads' HO_12.out).2.2 | (with_reducible refine Kd.C_alloc ?_ _) | (with_reducible refine Kd.C_drewN ?_ _) | (with_reducible refine Kd.C_drew ?_))); (case side4 => exact (Kd.R_reads' HO_12.out).2.1); rintro e w' ⟨rfl, ⟨nd, rfl⟩⟩))
                                go_ret
                                exact ⟨by first | rfl | (simp [errW_none, errW_some] <;> rfl) | (simp [*, errW_none, errW_some] <;> rfl), by repeat (first | (with_reducible first | exact HB.out | apply below_alloc | apply pw_below_drewN | apply below_drew1) | exact HB.out)⟩
                              · rw [if_neg c49] at H
                                have c49b0 : (t307 == t309) = false := by simpa using c49
                                (try (have c49b1 : decide (t307 = t309) = false := by simpa using c49))
                                (try (have c49b2 : (t307 == t309) = false := by simpa using c49))
                                (try (have c49b3 : ¬ (t307 = t309) := by simpa using c49))
                                clear c49
                                obtain rfl := Option.some.inj H
                                have q56 : ((l1.length : Int) : Int) ≤ ((x7_2.length : Int) : Int) := of_decide_eq_true (by first | (with_reducible assumption) | assumption)
                                obtain ⟨i056, hi056, _, hsz56, _⟩ := info_parts info3
                                have hroom56 : x7_2.length ≤ co21 := (Kd.R_reads' HO_7.out).2.1
                                have hC56 : Kd.C (Kd.int .i64) _ Ao21 x7_2.length x7_2 := (Kd.R_reads' HO_7.out).2.2
                                have hcut56 := cut_to (P := Tryd.prog) 36 3 .i64 Tryd.underlying36 hi056 Ao21 x7_2.length co21 (l1.length : Int) (of_decide_eq_true (by first | (with_reducible assumption) | assumption)) q56 hroom56
                                have hr56 := Kd.C_take (m := ((l1.length : Int) : Int).toNat) hC56 (by omega)
                                have hy56 : y296.length = ((l1.length : Int) : Int).toNat := (by rw [Ny296.out, List.length_take]; omega)
                                rw [← Ny296.out] at hr56
                                rw [← hy56] at hcut56
                                have HR299 := Aside0.mk hr56
                                have HC299 := Aside0.mk (show y296.length ≤ co21 from by omega)
                                clear hr56 hC56 hroom56 hi056 hsz56
                                have KY56 := Aside0.mk hy56
                                clear hy56
                                have KL56 := Aside0.mk (show ((l1.length : Int) : Int).toNat ≤ x7_2.length from by omega)
                                replace q56 := eq_true q56
                                go_wp2_with (first | ((with_reducible refine gate_callee (f := 35) rfl ?_); refine goesL_ (some 85) rfl rfl Tryd.func35 (by kernel_rfl) rfl #[.int .i64 a0, .slice Ao21 y296.length co21] rfl (by (try simp only [List.map_toArray, List.map_cons, List.map_nil]); first | done | rfl | (simp only [List.length_drop, List.length_take]; rfl)) ?_; (with_reducible refine (calendar_Business.calls k2 a0 _ _ y296 t300 _ ?side1 ?side2 A39.out).mono ?_); (case side1 => repeat (first | exact (by repeat (first | (with_reducible exact HR299.out) | (with_reducible refine Kd.C_alloc ?_ _) | (with_reducible refine Kd.C_drewN ?_ _) | (with_reducible refine Kd.C_drew ?_) | exact HR299.out)) | (with_reducible refine Kd.C_alloc ?_ _) | (with_reducible refine Kd.C_drewN ?_ _) | (with_reducible refine Kd.C_drew ?_))); (case side2 => exact HC299.out); rintro e w' ⟨rfl, ⟨nd, rfl⟩⟩; refine ⟨_, rfl, ?_⟩; obtain ⟨Ao57, co57, eo57⟩ := Kd.R_slice HO_12.out; subst eo57) | ((with_reducible refine gate_callee (f := 36) rfl ?_); refine goesL_ (some 88) rfl rfl Tryd.func36 (by kernel_rfl) rfl #[.int .i64 a0, .slice Ao57 x12_2.length co57] rfl (by (try simp only [List.map_toArray, List.map_cons, List.map_nil]); first | done | rfl | (simp only [List.length_drop, List.length_take]; rfl)) ?_; (with_reducible refine (arrearsref2_Business.calls k2 a0 _ _ x12_2 t301 _ ?side1 ?side2 A40.out).mono ?_); (case side1 => repeat (first | exact (Kd.R_reads' HO_12.out).2.2 | (with_reducible refine Kd.C_alloc ?_ _) | (with_reducible refine Kd.C_drewN ?_ _) | (with_reducible refine Kd.C_drew ?_))); (case side2 => exact (Kd.R_reads' HO_12.out).2.1); rintro e w' ⟨rfl, ⟨nd, rfl⟩⟩; refine ⟨_, rfl, ?_⟩; have q58 : ((l1.length : Int) : Int) ≤ ((x7_2.length : Int) : Int) := of_decide_eq_true (by first | (with_reducible assumption) | assumption); obtain ⟨i058, hi058, _, hsz58, _⟩ := info_parts info3; have hroom58 : x7_2.length ≤ co21 := (Kd.R_reads' HO_7.out).2.1; have hC58 : Kd.C (Kd.int .i64) _ Ao21 x7_2.length x7_2 := (Kd.R_reads' HO_7.out).2.2; have hcut58 := cut_to (P := Tryd.prog) 36 3 .i64 Tryd.underlying36 hi058 Ao21 x7_2.length co21 (l1.length : Int) (of_decide_eq_true (by first | (with_reducible assumption) | assumption)) q58 hroom58; have hr58 := Kd.C_take (m := ((l1.length : Int) : Int).toNat) hC58 (by omega); have hy58 : y296.length = ((l1.length : Int) : Int).toNat := (by rw [Ny302.out, List.length_take]; omega); rw [← Ny302.out] at hr58; rw [← hy58] at hcut58; have HR305 := Aside0.mk hr58; have HC305 := Aside0.mk (show y296.length ≤ co21 from by omega); clear hr58 hC58 hroom58 hi058 hsz58; have KY58 := Aside0.mk hy58; clear hy58; have KL58 := Aside0.mk (show ((l1.length : Int) : Int).toNat ≤ x7_2.length from by omega); replace q58 := eq_true q58) | ((with_reducible refine gate_callee (f := 37) rfl ?_); refine goesL_ (some 97) rfl rfl Tryd.func37 (by kernel_rfl) rfl #[.int .i64 a0, .slice Ao21 y296.length co21, .int .i64 a2] rfl (by (try simp only [List.map_toArray, List.map_cons, List.map_nil]); first | done | rfl | (simp only [List.length_drop, List.length_take]; rfl)) ?_; (with_reducible refine (calendar_Adjust.calls k2 a0 _ _ y296 a2 t306 t307 _ ?side1 ?side2 ?side3 A46.out).mono ?_); (case side1 => repeat (first | exact (by repeat (first | (with_reducible exact HR305.out) | (with_reducible refine Kd.C_alloc ?_ _) | (with_reducible refine Kd.C_drewN ?_ _) | (with_reducible refine Kd.C_drew ?_) | exact HR305.out)) | (with_reducible refine Kd.C_alloc ?_ _) | (with_reducible refine Kd.C_drewN ?_ _) | (with_reducible refine Kd.C_drew ?_))); (case side2 => exact HC305.out); (case side3 => repeat (first | exact (Kd.C_below HRT.out (by repeat (first | (with_reducible first | exact HB.out | apply below_alloc | apply pw_below_drewN | apply below_drew1) | exact HB.out))) | (with_reducible refine Kd.C_alloc ?_ _) | (with_reducible refine Kd.C_drewN ?_ _) | (with_reducible refine Kd.C_drew ?_))); rintro e w59 ⟨rfl, hb⟩; refine ⟨_, rfl, ?_⟩; have n0_ := Aside0.mk (Kd.R_below (by (with_reducible repeat (first | apply Kd.R_alloc | apply Kd.R_drewN | apply Kd.R_drew)); exact HO_7.out) hb); have n1_ := Aside0.mk (Kd.R_below (by (with_reducible repeat (first | apply Kd.R_alloc | apply Kd.R_drewN | apply Kd.R_drew)); exact HO_12.out) hb); have n2_ := Aside0.mk (Kd.C_below (by repeat (first | (with_reducible exact HR299.out) | (with_reducible refine Kd.C_alloc ?_ _) | (with_reducible refine Kd.C_drewN ?_ _) | (with_reducible refine Kd.C_drew ?_) | exact HR299.out)) hb); have n3_ := Aside0.mk (Kd.C_below (by repeat (first | (with_reducible exact HR305.out) | (with_reducible refine Kd.C_alloc ?_ _) | (with_reducible refine Kd.C_drewN ?_ _) | (with_reducible refine Kd.C_drew ?_) | exact HR305.out)) hb); have n4_ := Aside0.mk (below_step (by repeat (first | (with_reducible first | exact HB.out | apply below_alloc | apply pw_below_drewN | apply below_drew1) | exact HB.out)) hb); clear HO_7; clear HO_12; clear HR299; clear HR305; clear HB; have HO_7 := n0_; have HO_12 := n1_; have HR299 := n2_; have HR305 := n3_; have HB := n4_; clear n0_ n1_ n2_ n3_ n4_; (try clear hb); (try clear hb2); (try clear hk); (try clear hi)) | ((with_reducible refine gate_callee (f := 38) rfl ?_); refine goesL_ (some 104) rfl rfl Tryd.func38 (by kernel_rfl) rfl #[.int .i64 a0, .slice Ao57 x12_2.length co57, .int .i64 a2] rfl (by (try simp only [List.map_toArray, List.map_cons, List.map_nil]); first | done | rfl | (simp only [List.length_drop, List.length_take]; rfl)) ?_; (with_reducible refine (arrearsref2_Adjust.calls k2 a0 _ _ x12_2 a2 t308 t309 _ ?side1 ?side2 A47.out).mono ?_); (case side1 => repeat (first | exact (Kd.R_reads' HO_12.out).2.2 | (with_reducible refine Kd.C_alloc ?_ _) | (with_reducible refine Kd.C_drewN ?_ _) | (with_reducible refine Kd.C_drew ?_))); (case side2 => exact (Kd.R_reads' HO_12.out).2.1); rintro e w60 ⟨rfl, hb⟩; refine ⟨_, rfl, ?_⟩; have n0_ := Aside0.mk (Kd.R_below (by (with_reducible repeat (first | apply Kd.R_alloc | apply Kd.R_drewN | apply Kd.R_drew)); exact HO_7.out) hb); have n1_ := Aside0.mk (Kd.R_below (by (with_reducible repeat (first | apply Kd.R_alloc | apply Kd.R_drewN | apply Kd.R_drew)); exact HO_12.out) hb); have n2_ := Aside0.mk (Kd.C_below (by repeat (first | (with_reducible exact HR299.out) | (with_reducible refine Kd.C_alloc ?_ _) | (with_reducible refine Kd.C_drewN ?_ _) | (with_reducible refine Kd.C_drew ?_) | exact HR299.out)) hb); have n3_ := Aside0.mk (Kd.C_below (by repeat (first | (with_reducible exact HR305.out) | (with_reducible refine Kd.C_alloc ?_ _) | (with_reducible refine Kd.C_drewN ?_ _) | (with_reducible refine Kd.C_drew ?_) | exact HR305.out)) hb); have n4_ := Aside0.mk (below_step (by repeat (first | (with_reducible first | exact HB.out | apply below_alloc | apply pw_below_drewN | apply below_drew1) | exact HB.out)) hb); clear HO_7; clear HO_12; clear HR299; clear HR305; clear HB; have HO_7 := n0_; have HO_12 := n1_; have HR299 := n2_; have HR305 := n3_; have HB := n4_; clear n0_ n1_ n2_ n3_ n4_; (try clear hb); (try clear hb2); (try clear hk); (try clear hi)))
                                go_ret
                                exact ⟨by first | rfl | (simp [errW_none, errW_some] <;> rfl) | (simp [*, errW_none, errW_some] <;> rfl), by repeat (first | (with_reducible first | exact HB.out | apply below_alloc | apply pw_below_drewN | apply below_drew1) | exact HB.out)⟩
                            · rw [if_neg c48] at H
                              have c48b0 : (t306 == t308) = false := beq_eq_false_iff_ne.mpr c48
                              have c48b1 : (t306 != t308) = true := bne_iff_ne.mpr c48
                              obtain rfl := Option.some.inj H
                              have q61 : ((l1.length : Int) : Int) ≤ ((x7_2.length : Int) : Int) := of_decide_eq_true (by first | (with_reducible assumption) | assumption)
                              obtain ⟨i061, hi061, _, hsz61, _⟩ := info_parts info3
                              have hroom61 : x7_2.length ≤ co21 := (Kd.R_reads' HO_7.out).2.1
                              have hC61 : Kd.C (Kd.int .i64) _ Ao21 x7_2.length x7_2 := (Kd.R_reads' HO_7.out).2.2
                              have hcut61 := cut_to (P := Tryd.prog) 36 3 .i64 Tryd.underlying36 hi061 Ao21 x7_2.length co21 (l1.length : Int) (of_decide_eq_true (by first | (with_reducible assumption) | assumption)) q61 hroom61
                              have hr61 := Kd.C_take (m := ((l1.length : Int) : Int).toNat) hC61 (by omega)
                              have hy61 : y296.length = ((l1.length : Int) : Int).toNat := (by rw [Ny296.out, List.length_take]; omega)
                              rw [← Ny296.out] at hr61
                              rw [← hy61] at hcut61
                              have HR299 := Aside0.mk hr61
                              have HC299 := Aside0.mk (show y296.length ≤ co21 from by omega)
                              clear hr61 hC61 hroom61 hi061 hsz61
                              have KY61 := Aside0.mk hy61
                              clear hy61
                              have KL61 := Aside0.mk (show ((l1.length : Int) : Int).toNat ≤ x7_2.length from by omega)
                              replace q61 := eq_true q61
                              go_wp2_with (first | ((with_reducible refine gate_callee (f := 35) rfl ?_); refine goesL_ (some 85) rfl rfl Tryd.func35 (by kernel_rfl) rfl #[.int .i64 a0, .slice Ao21 y296.length co21] rfl (by (try simp only [List.map_toArray, List.map_cons, List.map_nil]); first | done | rfl | (simp only [List.length_drop, List.length_take]; rfl)) ?_; (with_reducible refine (calendar_Business.calls k2 a0 _ _ y296 t300 _ ?side1 ?side2 A39.out).mono ?_); (case side1 => repeat (first | exact (by repeat (first | (with_reducible exact HR299.out) | (with_reducible refine Kd.C_alloc ?_ _) | (with_reducible refine Kd.C_drewN ?_ _) | (with_reducible refine Kd.C_drew ?_) | exact HR299.out)) | (with_reducible refine Kd.C_alloc ?_ _) | (with_reducible refine Kd.C_drewN ?_ _) | (with_reducible refine Kd.C_drew ?_))); (case side2 => exact HC299.out); rintro e w' ⟨rfl, ⟨nd, rfl⟩⟩; refine ⟨_, rfl, ?_⟩; obtain ⟨Ao62, co62, eo62⟩ := Kd.R_slice HO_12.out; subst eo62) | ((with_reducible refine gate_callee (f := 36) rfl ?_); refine goesL_ (some 88) rfl rfl Tryd.func36 (by kernel_rfl) rfl #[.int .i64 a0, .slice Ao62 x12_2.length co62] rfl (by (try simp only [List.map_toArray, List.map_cons, List.map_nil]); first | done | rfl | (simp only [List.length_drop, List.length_take]; rfl)) ?_; (with_reducible refine (arrearsref2_Business.calls k2 a0 _ _ x12_2 t301 _ ?side1 ?side2 A40.out).mono ?_); (case side1 => repeat (first | exact (Kd.R_reads' HO_12.out).2.2 | (with_reducible refine Kd.C_alloc ?_ _) | (with_reducible refine Kd.C_drewN ?_ _) | (with_reducible refine Kd.C_drew ?_))); (case side2 => exact (Kd.R_reads' HO_12.out).2.1); rintro e w' ⟨rfl, ⟨nd, rfl⟩⟩; refine ⟨_, rfl, ?_⟩; have q63 : ((l1.length : Int) : Int) ≤ ((x7_2.length : Int) : Int) := of_decide_eq_true (by first | (with_reducible assumption) | assumption); obtain ⟨i063, hi063, _, hsz63, _⟩ := info_parts info3; have hroom63 : x7_2.length ≤ co21 := (Kd.R_reads' HO_7.out).2.1; have hC63 : Kd.C (Kd.int .i64) _ Ao21 x7_2.length x7_2 := (Kd.R_reads' HO_7.out).2.2; have hcut63 := cut_to (P := Tryd.prog) 36 3 .i64 Tryd.underlying36 hi063 Ao21 x7_2.length co21 (l1.length : Int) (of_decide_eq_true (by first | (with_reducible assumption) | assumption)) q63 hroom63; have hr63 := Kd.C_take (m := ((l1.length : Int) : Int).toNat) hC63 (by omega); have hy63 : y296.length = ((l1.length : Int) : Int).toNat := (by rw [Ny302.out, List.length_take]; omega); rw [← Ny302.out] at hr63; rw [← hy63] at hcut63; have HR305 := Aside0.mk hr63; have HC305 := Aside0.mk (show y296.length ≤ co21 from by omega); clear hr63 hC63 hroom63 hi063 hsz63; have KY63 := Aside0.mk hy63; clear hy63; have KL63 := Aside0.mk (show ((l1.length : Int) : Int).toNat ≤ x7_2.length from by omega); replace q63 := eq_true q63) | ((with_reducible refine gate_callee (f := 37) rfl ?_); refine goesL_ (some 97) rfl rfl Tryd.func37 (by kernel_rfl) rfl #[.int .i64 a0, .slice Ao21 y296.length co21, .int .i64 a2] rfl (by (try simp only [List.map_toArray, List.map_cons, List.map_nil]); first | done | rfl | (simp only [List.length_drop, List.length_take]; rfl)) ?_; (with_reducible refine (calendar_Adjust.calls k2 a0 _ _ y296 a2 t306 t307 _ ?side1 ?side2 ?side3 A46.out).mono ?_); (case side1 => repeat (first | exact (by repeat (first | (with_reducible exact HR305.out) | (with_reducible refine Kd.C_alloc ?_ _) | (with_reducible refine Kd.C_drewN ?_ _) | (with_reducible refine Kd.C_drew ?_) | exact HR305.out)) | (with_reducible refine Kd.C_alloc ?_ _) | (with_reducible refine Kd.C_drewN ?_ _) | (with_reducible refine Kd.C_drew ?_))); (case side2 => exact HC305.out); (case side3 => repeat (first | exact (Kd.C_below HRT.out (by repeat (first | (with_reducible first | exact HB.out | apply below_alloc | apply pw_below_drewN | apply below_drew1) | exact HB.out))) | (with_reducible refine Kd.C_alloc ?_ _) | (with_reducible refine Kd.C_drewN ?_ _) | (with_reducible refine Kd.C_drew ?_))); rintro e w64 ⟨rfl, hb⟩; refine ⟨_, rfl, ?_⟩; have n0_ := Aside0.mk (Kd.R_below (by (with_reducible repeat (first | apply Kd.R_alloc | apply Kd.R_drewN | apply Kd.R_drew)); exact HO_7.out) hb); have n1_ := Aside0.mk (Kd.R_below (by (with_reducible repeat (first | apply Kd.R_alloc | apply Kd.R_drewN | apply Kd.R_drew)); exact HO_12.out) hb); have n2_ := Aside0.mk (Kd.C_below (by repeat (first | (with_reducible exact HR299.out) | (with_reducible refine Kd.C_alloc ?_ _) | (with_reducible refine Kd.C_drewN ?_ _) | (with_reducible refine Kd.C_drew ?_) | exact HR299.out)) hb); have n3_ := Aside0.mk (Kd.C_below (by repeat (first | (with_reducible exact HR305.out) | (with_reducible refine Kd.C_alloc ?_ _) | (with_reducible refine Kd.C_drewN ?_ _) | (with_reducible refine Kd.C_drew ?_) | exact HR305.out)) hb); have n4_ := Aside0.mk (below_step (by repeat (first | (with_reducible first | exact HB.out | apply below_alloc | apply pw_below_drewN | apply below_drew1) | exact HB.out)) hb); clear HO_7; clear HO_12; clear HR299; clear HR305; clear HB; have HO_7 := n0_; have HO_12 := n1_; have HR299 := n2_; have HR305 := n3_; have HB := n4_; clear n0_ n1_ n2_ n3_ n4_; (try clear hb); (try clear hb2); (try clear hk); (try clear hi)) | ((with_reducible refine gate_callee (f := 38) rfl ?_); refine goesL_ (some 104) rfl rfl Tryd.func38 (by kernel_rfl) rfl #[.int .i64 a0, .slice Ao62 x12_2.length co62, .int .i64 a2] rfl (by (try simp only [List.map_toArray, List.map_cons, List.map_nil]); first | done | rfl | (simp only [List.length_drop, List.length_take]; rfl)) ?_; (with_reducible refine (arrearsref2_Adjust.calls k2 a0 _ _ x12_2 a2 t308 t309 _ ?side1 ?side2 A47.out).mono ?_); (case side1 => repeat (first | exact (Kd.R_reads' HO_12.out).2.2 | (with_reducible refine Kd.C_alloc ?_ _) | (with_reducible refine Kd.C_drewN ?_ _) | (with_reducible refine Kd.C_drew ?_))); (case side2 => exact (Kd.R_reads' HO_12.out).2.1); rintro e w65 ⟨rfl, hb⟩; refine ⟨_, rfl, ?_⟩; have n0_ := Aside0.mk (Kd.R_below (by (with_reducible repeat (first | apply Kd.R_alloc | apply Kd.R_drewN | apply Kd.R_drew)); exact HO_7.out) hb); have n1_ := Aside0.mk (Kd.R_below (by (with_reducible repeat (first | apply Kd.R_alloc | apply Kd.R_drewN | apply Kd.R_drew)); exact HO_12.out) hb); have n2_ := Aside0.mk (Kd.C_below (by repeat (first | (with_reducible exact HR299.out) | (with_reducible refine Kd.C_alloc ?_ _) | (with_reducible refine Kd.C_drewN ?_ _) | (with_reducible refine Kd.C_drew ?_) | exact HR299.out)) hb); have n3_ := Aside0.mk (Kd.C_below (by repeat (first | (with_reducible exact HR305.out) | (with_reducible refine Kd.C_alloc ?_ _) | (with_reducible refine Kd.C_drewN ?_ _) | (with_reducible refine Kd.C_drew ?_) | exact HR305.out)) hb); have n4_ := Aside0.mk (below_step (by repeat (first | (with_reducible first | exact HB.out | apply below_alloc | apply pw_below_drewN | apply below_drew1) | exact HB.out)) hb); clear HO_7; clear HO_12; clear HR299; clear HR305; clear HB; have HO_7 := n0_; have HO_12 := n1_; have HR299 := n2_; have HR305 := n3_; have HB := n4_; clear n0_ n1_ n2_ n3_ n4_; (try clear hb); (try clear hb2); (try clear hk); (try clear hi)))
                              go_ret
                              exact ⟨by first | rfl | (simp [errW_none, errW_some] <;> rfl) | (simp [*, errW_none, errW_some] <;> rfl), by repeat (first | (with_reducible first | exact HB.out | apply below_alloc | apply pw_below_drewN | apply below_drew1) | exact HB.out)⟩
                        · rw [if_neg c38] at H
                          exact absurd H (by simp)
                      · rw [if_neg c37] at H
                        exact absurd H (by simp)
      · rw [if_neg c7] at H
        exact absurd H (by simp)
    · rw [if_neg c6] at H
      exact absurd H (by simp)

end Go.Proofs.YtifkobejdldkbaaDoor.PE
