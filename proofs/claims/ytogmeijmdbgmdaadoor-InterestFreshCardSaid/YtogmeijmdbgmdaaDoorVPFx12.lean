-- Laid by wip/myprint.py, a driver over the kit's print, for this claim: a lemma's text, not read by a person.
import Derived.Test.YtogmeijmdbgmdaaDoorVPFx0
import Derived.Test.YtogmeijmdbgmdaaDoorVPFx8
import Derived.Test.YtogmeijmdbgmdaaDoorVPFx10
import Derived.Test.YtogmeijmdbgmdaaDoorVPFx11
namespace Go.Proofs.YtogmeijmdbgmdaaDoor.PF
open Go.RowKit Go.Proofs.YtogmeijmdbgmdaaDoorW.PrintWords Go.Proofs.YtogmeijmdbgmdaaDoorW.PrintLast Go.Proofs.YtogmeijmdbgmdaaDoorW.PrintMore
attribute [local go_sem] max2_int min2_int max_two min_two max_three min_three max_four min_four   -- for this text's walks alone
set_option linter.unusedVariables false
set_option linter.unusedSimpArgs false

/-! ### arrearslaw3_InterestFresh: function 5 -/
theorem blk_of {W0 W : World} {g : Nat} {o : Obj} (h0 : W0.heap[g]? = some o) (f : W0.heap[g]? = some o → W.heap[g]? = some o) : W.heap[g]? = some o := f h0
mutual
def arrearslaw3_InterestFresh.j0 : Nat → List (S41) → Bool → List (S41) → Bool → List (S41) → Bool → Bool → Int → Int → Int → Int → Int → Int → Option (Bool)
  | 0, _, _, _, _, _, _, _, _, _, _, _, _, _ => none
  | k + 1, x5, x6, x7, x8, x9, x10, x73, x188000, x188001, x188002, x188003, x188004, x188005 => if x73 = true then (some false) else (if (x6 != x10) = true then (arrearslaw3_InterestFresh.j1 k x5 x7 x9 true x188000 x188001 x188002 x188003 x188004 x188005) else (if (x5.length : Int) = (x9.length : Int) then ((arrearslaw3_alike.f k x5 x9).bind fun t202 => (if t202 = true then (if x8 = true then (arrearslaw3_InterestFresh.j1 k x5 x7 x9 false x188000 x188001 x188002 x188003 x188004 x188005) else (arrearslaw3_InterestFresh.j1 k x5 x7 x9 ((x7.length : Int) != 0) x188000 x188001 x188002 x188003 x188004 x188005)) else (arrearslaw3_InterestFresh.j1 k x5 x7 x9 true x188000 x188001 x188002 x188003 x188004 x188005))) else (arrearslaw3_InterestFresh.j1 k x5 x7 x9 true x188000 x188001 x188002 x188003 x188004 x188005)))
def arrearslaw3_InterestFresh.j1 : Nat → List (S41) → List (S41) → List (S41) → Bool → Int → Int → Int → Int → Int → Int → Option (Bool)
  | 0, _, _, _, _, _, _, _, _, _, _ => none
  | k + 1, x5, x7, x9, x98, x188000, x188001, x188002, x188003, x188004, x188005 => if x98 = true then (some false) else ((some (([] : List (S41)) : List (S41))).bind fun y203 => (if y203.length + x5.length < 4398046511104 then ((some (([] : List (S41)) : List (S41))).bind fun y209 => (if y209.length + x7.length < 4398046511104 then (arrearslaw3_InterestFresh.l0 k x5 x7 x9 (y203 ++ x5) (y209 ++ x7) 0 x188000 x188001 x188002 x188003 x188004 x188005) else (none))) else (none)))
def arrearslaw3_InterestFresh.l0 : Nat → List (S41) → List (S41) → List (S41) → List (S41) → List (S41) → Int → Int → Int → Int → Int → Int → Int → Option (Bool)
  | 0, _, _, _, _, _, _, _, _, _, _, _, _ => none
  | k + 1, x5, x7, x9, x11, x12, x13, x188000, x188001, x188002, x188003, x188004, x188005 => if x13 < (x5.length : Int) then (if 0 ≤ x13 then (arrearslaw3_InterestFresh.l0 k (x5.set (x13 : Int).toNat (⟨(-1), (-2), (-3), true⟩ : S41)) x7 x9 x11 x12 (wrap64 (x13 + 1)) x188000 x188001 x188002 x188003 x188004 x188005) else (none)) else (arrearslaw3_InterestFresh.l1 k x5 x7 x9 x11 x12 0 x188000 x188001 x188002 x188003 x188004 x188005)
def arrearslaw3_InterestFresh.l1 : Nat → List (S41) → List (S41) → List (S41) → List (S41) → List (S41) → Int → Int → Int → Int → Int → Int → Int → Option (Bool)
  | 0, _, _, _, _, _, _, _, _, _, _, _, _ => none
  | k + 1, x5, x7, x9, x11, x12, x14, x188000, x188001, x188002, x188003, x188004, x188005 => if x14 < (x9.length : Int) then (if 0 ≤ x14 then (arrearslaw3_InterestFresh.l1 k x5 x7 (x9.set (x14 : Int).toNat (⟨(-5), (-6), (-7), true⟩ : S41)) x11 x12 (wrap64 (x14 + 1)) x188000 x188001 x188002 x188003 x188004 x188005) else (none)) else ((arrearslaw3_alike.f k x7 x12).bind fun t217 => (if t217 = true then ((arrearslaw3_goneOn.f k x5 (-4)).bind fun bt218 => (if bt218.1 = true then ((arrearslaw3_goneOn.f k x9 (-8)).bind fun bt220 => (if bt220.1 = true then ((arrearslaw3_goneOn.f k x7 (-9)).bind fun bt222 => (if bt222.1 = true then ((arrearslaw3_alike.f k bt222.2 x12).bind fun t224 => (arrearslaw3_InterestFresh.j4 k bt218.2 bt220.2 x11 (!t224) x188000 x188001 x188002 x188003 x188004 x188005)) else (arrearslaw3_InterestFresh.j4 k bt218.2 bt220.2 x11 true x188000 x188001 x188002 x188003 x188004 x188005))) else (arrearslaw3_InterestFresh.j4 k bt218.2 bt220.2 x11 true x188000 x188001 x188002 x188003 x188004 x188005))) else (arrearslaw3_InterestFresh.j4 k bt218.2 x9 x11 true x188000 x188001 x188002 x188003 x188004 x188005))) else (some false)))
def arrearslaw3_InterestFresh.j4 : Nat → List (S41) → List (S41) → List (S41) → Bool → Int → Int → Int → Int → Int → Int → Option (Bool)
  | 0, _, _, _, _, _, _, _, _, _, _ => none
  | k + 1, x5, x9, x11, x147, x188000, x188001, x188002, x188003, x188004, x188005 => if x147 = true then (some false) else (arrearslaw3_InterestFresh.l2 k x5 x9 x11 0 x188000 x188001 x188002 x188003 x188004 x188005)
def arrearslaw3_InterestFresh.l2 : Nat → List (S41) → List (S41) → List (S41) → Int → Int → Int → Int → Int → Int → Int → Option (Bool)
  | 0, _, _, _, _, _, _, _, _, _, _ => none
  | k + 1, x5, x9, x11, x15, x188000, x188001, x188002, x188003, x188004, x188005 => if x15 < (x5.length : Int) then (if 0 ≤ x15 then (if ((rd_T41 x5 x15).f0) = (-1) then (if x15 < (x9.length : Int) then (if ((rd_T41 x9 x15).f0) = (-5) then (arrearslaw3_InterestFresh.l2 k x5 x9 x11 (wrap64 (x15 + 1)) x188000 x188001 x188002 x188003 x188004 x188005) else (some false)) else (none)) else (some false)) else (none)) else ((interest_Plan.f k x188000 x188001 x188002 x188003 x188004 x188005 ([] : List Int)).bind fun bt227 => ((arrearslaw3_alike.f k bt227.1 x11).bind fun t231 => (some t231)))
end
def arrearslaw3_InterestFresh.f (k : Nat) (a0_0 : Int) (a0_1 : Int) (a0_2 : Int) (a0_3 : Int) (a0_4 : Int) (a0_5 : Int) (a1_0 : Int) (a1_1 : Int) (a1_2 : Int) (a1_3 : Int) (a1_4 : Int) (a1_5 : Int) : Option (Bool) := (interest_Plan.f k a0_0 a0_1 a0_2 a0_3 a0_4 a0_5 ([] : List Int)).bind fun bt189 => ((interest_Plan.f k a1_0 a1_1 a1_2 a1_3 a1_4 a1_5 ([] : List Int)).bind fun bt193 => ((interest_Plan.f k a0_0 a0_1 a0_2 a0_3 a0_4 a0_5 ([] : List Int)).bind fun bt197 => (if a0_0 ≥ 0 then (if a0_0 ≤ 2 then ((arrearslaw3_lending.f a0_1 a0_2 a0_3).bind fun t201 => (if t201 = true then (if a0_4 ≥ 1 then (if a0_4 ≤ 3640000 then (if a0_5 ≥ 0 then (if a0_5 ≤ 3 then (arrearslaw3_InterestFresh.j0 k bt189.1 bt189.2 bt193.1 bt193.2 bt197.1 bt197.2 (!bt189.2) a0_0 a0_1 a0_2 a0_3 a0_4 a0_5) else (arrearslaw3_InterestFresh.j0 k bt189.1 bt189.2 bt193.1 bt193.2 bt197.1 bt197.2 false a0_0 a0_1 a0_2 a0_3 a0_4 a0_5)) else (arrearslaw3_InterestFresh.j0 k bt189.1 bt189.2 bt193.1 bt193.2 bt197.1 bt197.2 false a0_0 a0_1 a0_2 a0_3 a0_4 a0_5)) else (arrearslaw3_InterestFresh.j0 k bt189.1 bt189.2 bt193.1 bt193.2 bt197.1 bt197.2 false a0_0 a0_1 a0_2 a0_3 a0_4 a0_5)) else (arrearslaw3_InterestFresh.j0 k bt189.1 bt189.2 bt193.1 bt193.2 bt197.1 bt197.2 false a0_0 a0_1 a0_2 a0_3 a0_4 a0_5)) else (arrearslaw3_InterestFresh.j0 k bt189.1 bt189.2 bt193.1 bt193.2 bt197.1 bt197.2 false a0_0 a0_1 a0_2 a0_3 a0_4 a0_5))) else (arrearslaw3_InterestFresh.j0 k bt189.1 bt189.2 bt193.1 bt193.2 bt197.1 bt197.2 false a0_0 a0_1 a0_2 a0_3 a0_4 a0_5)) else (arrearslaw3_InterestFresh.j0 k bt189.1 bt189.2 bt193.1 bt193.2 bt197.1 bt197.2 false a0_0 a0_1 a0_2 a0_3 a0_4 a0_5))))
theorem arrearslaw3_InterestFresh.mono_l : ∀ k, (∀ y0 y1 y2 y3 y4 y5 y6 y7 y8 y9 y10 y11 y12, LeO (arrearslaw3_InterestFresh.j0 k y0 y1 y2 y3 y4 y5 y6 y7 y8 y9 y10 y11 y12) (arrearslaw3_InterestFresh.j0 (k + 1) y0 y1 y2 y3 y4 y5 y6 y7 y8 y9 y10 y11 y12)) ∧ (∀ y0 y1 y2 y3 y4 y5 y6 y7 y8 y9, LeO (arrearslaw3_InterestFresh.j1 k y0 y1 y2 y3 y4 y5 y6 y7 y8 y9) (arrearslaw3_InterestFresh.j1 (k + 1) y0 y1 y2 y3 y4 y5 y6 y7 y8 y9)) ∧ (∀ y0 y1 y2 y3 y4 y5 y6 y7 y8 y9 y10 y11, LeO (arrearslaw3_InterestFresh.l0 k y0 y1 y2 y3 y4 y5 y6 y7 y8 y9 y10 y11) (arrearslaw3_InterestFresh.l0 (k + 1) y0 y1 y2 y3 y4 y5 y6 y7 y8 y9 y10 y11)) ∧ (∀ y0 y1 y2 y3 y4 y5 y6 y7 y8 y9 y10 y11, LeO (arrearslaw3_InterestFresh.l1 k y0 y1 y2 y3 y4 y5 y6 y7 y8 y9 y10 y11) (arrearslaw3_InterestFresh.l1 (k + 1) y0 y1 y2 y3 y4 y5 y6 y7 y8 y9 y10 y11)) ∧ (∀ y0 y1 y2 y3 y4 y5 y6 y7 y8 y9, LeO (arrearslaw3_InterestFresh.j4 k y0 y1 y2 y3 y4 y5 y6 y7 y8 y9) (arrearslaw3_InterestFresh.j4 (k + 1) y0 y1 y2 y3 y4 y5 y6 y7 y8 y9)) ∧ (∀ y0 y1 y2 y3 y4 y5 y6 y7 y8 y9, LeO (arrearslaw3_InterestFresh.l2 k y0 y1 y2 y3 y4 y5 y6 y7 y8 y9) (arrearslaw3_InterestFresh.l2 (k + 1) y0 y1 y2 y3 y4 y5 y6 y7 y8 y9))
  | 0 => ⟨fun _ _ _ _ _ _ _ _ _ _ _ _ _ r h => by simp [arrearslaw3_InterestFresh.j0] at h, fun _ _ _ _ _ _ _ _ _ _ r h => by simp [arrearslaw3_InterestFresh.j1] at h, fun _ _ _ _ _ _ _ _ _ _ _ _ r h => by simp [arrearslaw3_InterestFresh.l0] at h, fun _ _ _ _ _ _ _ _ _ _ _ _ r h => by simp [arrearslaw3_InterestFresh.l1] at h, fun _ _ _ _ _ _ _ _ _ _ r h => by simp [arrearslaw3_InterestFresh.j4] at h, fun _ _ _ _ _ _ _ _ _ _ r h => by simp [arrearslaw3_InterestFresh.l2] at h⟩
  | k + 1 => by
    obtain ⟨ih0, ih1, ih2, ih3, ih4, ih5⟩ := arrearslaw3_InterestFresh.mono_l k
    refine ⟨?_, ?_, ?_, ?_, ?_, ?_⟩
    · intro y0 y1 y2 y3 y4 y5 y6 y7 y8 y9 y10 y11 y12
      unfold arrearslaw3_InterestFresh.j0
      repeat' first
      | (with_reducible exact ih0 _ _ _ _ _ _ _ _ _ _ _ _ _)
      | (with_reducible exact ih1 _ _ _ _ _ _ _ _ _ _)
      | (with_reducible exact ih2 _ _ _ _ _ _ _ _ _ _ _ _)
      | (with_reducible exact ih3 _ _ _ _ _ _ _ _ _ _ _ _)
      | (with_reducible exact ih4 _ _ _ _ _ _ _ _ _ _)
      | (with_reducible exact ih5 _ _ _ _ _ _ _ _ _ _)
      | (with_reducible exact arrearslaw3_alike.mono _ _ _)
      | (with_reducible exact arrearslaw3_goneOn.mono _ _ _)
      | (with_reducible exact interest_Plan.mono _ _ _ _ _ _ _ _)
      | (with_reducible exact LeO.refl _)
      | (with_reducible exact LeO.none _)
      | (with_reducible refine LeO.ite ?_ ?_)
      | (with_reducible refine LeO.bind ?_ (fun _ => ?_))
      | exact ih0 _ _ _ _ _ _ _ _ _ _ _ _ _
      | exact ih1 _ _ _ _ _ _ _ _ _ _
      | exact ih2 _ _ _ _ _ _ _ _ _ _ _ _
      | exact ih3 _ _ _ _ _ _ _ _ _ _ _ _
      | exact ih4 _ _ _ _ _ _ _ _ _ _
      | exact ih5 _ _ _ _ _ _ _ _ _ _
      | exact arrearslaw3_alike.mono _ _ _
      | exact arrearslaw3_goneOn.mono _ _ _
      | exact interest_Plan.mono _ _ _ _ _ _ _ _
      | exact LeO.none _
      | refine LeO.ite ?_ ?_
      | refine LeO.bind ?_ (fun _ => ?_)
    · intro y0 y1 y2 y3 y4 y5 y6 y7 y8 y9
      unfold arrearslaw3_InterestFresh.j1
      repeat' first
      | (with_reducible exact ih0 _ _ _ _ _ _ _ _ _ _ _ _ _)
      | (with_reducible exact ih1 _ _ _ _ _ _ _ _ _ _)
      | (with_reducible exact ih2 _ _ _ _ _ _ _ _ _ _ _ _)
      | (with_reducible exact ih3 _ _ _ _ _ _ _ _ _ _ _ _)
      | (with_reducible exact ih4 _ _ _ _ _ _ _ _ _ _)
      | (with_reducible exact ih5 _ _ _ _ _ _ _ _ _ _)
      | (with_reducible exact arrearslaw3_alike.mono _ _ _)
      | (with_reducible exact arrearslaw3_goneOn.mono _ _ _)
      | (with_reducible exact interest_Plan.mono _ _ _ _ _ _ _ _)
      | (with_reducible exact LeO.refl _)
      | (with_reducible exact LeO.none _)
      | (with_reducible refine LeO.ite ?_ ?_)
      | (with_reducible refine LeO.bind ?_ (fun _ => ?_))
      | exact ih0 _ _ _ _ _ _ _ _ _ _ _ _ _
      | exact ih1 _ _ _ _ _ _ _ _ _ _
      | exact ih2 _ _ _ _ _ _ _ _ _ _ _ _
      | exact ih3 _ _ _ _ _ _ _ _ _ _ _ _
      | exact ih4 _ _ _ _ _ _ _ _ _ _
      | exact ih5 _ _ _ _ _ _ _ _ _ _
      | exact arrearslaw3_alike.mono _ _ _
      | exact arrearslaw3_goneOn.mono _ _ _
      | exact interest_Plan.mono _ _ _ _ _ _ _ _
      | exact LeO.none _
      | refine LeO.ite ?_ ?_
      | refine LeO.bind ?_ (fun _ => ?_)
    · intro y0 y1 y2 y3 y4 y5 y6 y7 y8 y9 y10 y11
      unfold arrearslaw3_InterestFresh.l0
      repeat' first
      | (with_reducible exact ih0 _ _ _ _ _ _ _ _ _ _ _ _ _)
      | (with_reducible exact ih1 _ _ _ _ _ _ _ _ _ _)
      | (with_reducible exact ih2 _ _ _ _ _ _ _ _ _ _ _ _)
      | (with_reducible exact ih3 _ _ _ _ _ _ _ _ _ _ _ _)
      | (with_reducible exact ih4 _ _ _ _ _ _ _ _ _ _)
      | (with_reducible exact ih5 _ _ _ _ _ _ _ _ _ _)
      | (with_reducible exact arrearslaw3_alike.mono _ _ _)
      | (with_reducible exact arrearslaw3_goneOn.mono _ _ _)
      | (with_reducible exact interest_Plan.mono _ _ _ _ _ _ _ _)
      | (with_reducible exact LeO.refl _)
      | (with_reducible exact LeO.none _)
      | (with_reducible refine LeO.ite ?_ ?_)
      | (with_reducible refine LeO.bind ?_ (fun _ => ?_))
      | exact ih0 _ _ _ _ _ _ _ _ _ _ _ _ _
      | exact ih1 _ _ _ _ _ _ _ _ _ _
      | exact ih2 _ _ _ _ _ _ _ _ _ _ _ _
      | exact ih3 _ _ _ _ _ _ _ _ _ _ _ _
      | exact ih4 _ _ _ _ _ _ _ _ _ _
      | exact ih5 _ _ _ _ _ _ _ _ _ _
      | exact arrearslaw3_alike.mono _ _ _
      | exact arrearslaw3_goneOn.mono _ _ _
      | exact interest_Plan.mono _ _ _ _ _ _ _ _
      | exact LeO.none _
      | refine LeO.ite ?_ ?_
      | refine LeO.bind ?_ (fun _ => ?_)
    · intro y0 y1 y2 y3 y4 y5 y6 y7 y8 y9 y10 y11
      unfold arrearslaw3_InterestFresh.l1
      repeat' first
      | (with_reducible exact ih0 _ _ _ _ _ _ _ _ _ _ _ _ _)
      | (with_reducible exact ih1 _ _ _ _ _ _ _ _ _ _)
      | (with_reducible exact ih2 _ _ _ _ _ _ _ _ _ _ _ _)
      | (with_reducible exact ih3 _ _ _ _ _ _ _ _ _ _ _ _)
      | (with_reducible exact ih4 _ _ _ _ _ _ _ _ _ _)
      | (with_reducible exact ih5 _ _ _ _ _ _ _ _ _ _)
      | (with_reducible exact arrearslaw3_alike.mono _ _ _)
      | (with_reducible exact arrearslaw3_goneOn.mono _ _ _)
      | (with_reducible exact interest_Plan.mono _ _ _ _ _ _ _ _)
      | (with_reducible exact LeO.refl _)
      | (with_reducible exact LeO.none _)
      | (with_reducible refine LeO.ite ?_ ?_)
      | (with_reducible refine LeO.bind ?_ (fun _ => ?_))
      | exact ih0 _ _ _ _ _ _ _ _ _ _ _ _ _
      | exact ih1 _ _ _ _ _ _ _ _ _ _
      | exact ih2 _ _ _ _ _ _ _ _ _ _ _ _
      | exact ih3 _ _ _ _ _ _ _ _ _ _ _ _
      | exact ih4 _ _ _ _ _ _ _ _ _ _
      | exact ih5 _ _ _ _ _ _ _ _ _ _
      | exact arrearslaw3_alike.mono _ _ _
      | exact arrearslaw3_goneOn.mono _ _ _
      | exact interest_Plan.mono _ _ _ _ _ _ _ _
      | exact LeO.none _
      | refine LeO.ite ?_ ?_
      | refine LeO.bind ?_ (fun _ => ?_)
    · intro y0 y1 y2 y3 y4 y5 y6 y7 y8 y9
      unfold arrearslaw3_InterestFresh.j4
      repeat' first
      | (with_reducible exact ih0 _ _ _ _ _ _ _ _ _ _ _ _ _)
      | (with_reducible exact ih1 _ _ _ _ _ _ _ _ _ _)
      | (with_reducible exact ih2 _ _ _ _ _ _ _ _ _ _ _ _)
      | (with_reducible exact ih3 _ _ _ _ _ _ _ _ _ _ _ _)
      | (with_reducible exact ih4 _ _ _ _ _ _ _ _ _ _)
      | (with_reducible exact ih5 _ _ _ _ _ _ _ _ _ _)
      | (with_reducible exact arrearslaw3_alike.mono _ _ _)
      | (with_reducible exact arrearslaw3_goneOn.mono _ _ _)
      | (with_reducible exact interest_Plan.mono _ _ _ _ _ _ _ _)
      | (with_reducible exact LeO.refl _)
      | (with_reducible exact LeO.none _)
      | (with_reducible refine LeO.ite ?_ ?_)
      | (with_reducible refine LeO.bind ?_ (fun _ => ?_))
      | exact ih0 _ _ _ _ _ _ _ _ _ _ _ _ _
      | exact ih1 _ _ _ _ _ _ _ _ _ _
      | exact ih2 _ _ _ _ _ _ _ _ _ _ _ _
      | exact ih3 _ _ _ _ _ _ _ _ _ _ _ _
      | exact ih4 _ _ _ _ _ _ _ _ _ _
      | exact ih5 _ _ _ _ _ _ _ _ _ _
      | exact arrearslaw3_alike.mono _ _ _
      | exact arrearslaw3_goneOn.mono _ _ _
      | exact interest_Plan.mono _ _ _ _ _ _ _ _
      | exact LeO.none _
      | refine LeO.ite ?_ ?_
      | refine LeO.bind ?_ (fun _ => ?_)
    · intro y0 y1 y2 y3 y4 y5 y6 y7 y8 y9
      unfold arrearslaw3_InterestFresh.l2
      repeat' first
      | (with_reducible exact ih0 _ _ _ _ _ _ _ _ _ _ _ _ _)
      | (with_reducible exact ih1 _ _ _ _ _ _ _ _ _ _)
      | (with_reducible exact ih2 _ _ _ _ _ _ _ _ _ _ _ _)
      | (with_reducible exact ih3 _ _ _ _ _ _ _ _ _ _ _ _)
      | (with_reducible exact ih4 _ _ _ _ _ _ _ _ _ _)
      | (with_reducible exact ih5 _ _ _ _ _ _ _ _ _ _)
      | (with_reducible exact arrearslaw3_alike.mono _ _ _)
      | (with_reducible exact arrearslaw3_goneOn.mono _ _ _)
      | (with_reducible exact interest_Plan.mono _ _ _ _ _ _ _ _)
      | (with_reducible exact LeO.refl _)
      | (with_reducible exact LeO.none _)
      | (with_reducible refine LeO.ite ?_ ?_)
      | (with_reducible refine LeO.bind ?_ (fun _ => ?_))
      | exact ih0 _ _ _ _ _ _ _ _ _ _ _ _ _
      | exact ih1 _ _ _ _ _ _ _ _ _ _
      | exact ih2 _ _ _ _ _ _ _ _ _ _ _ _
      | exact ih3 _ _ _ _ _ _ _ _ _ _ _ _
      | exact ih4 _ _ _ _ _ _ _ _ _ _
      | exact ih5 _ _ _ _ _ _ _ _ _ _
      | exact arrearslaw3_alike.mono _ _ _
      | exact arrearslaw3_goneOn.mono _ _ _
      | exact interest_Plan.mono _ _ _ _ _ _ _ _
      | exact LeO.none _
      | refine LeO.ite ?_ ?_
      | refine LeO.bind ?_ (fun _ => ?_)
theorem arrearslaw3_InterestFresh.mono : ∀ a0 a1 a2 a3 a4 a5 a6 a7 a8 a9 a10 a11 k, LeO (arrearslaw3_InterestFresh.f k a0 a1 a2 a3 a4 a5 a6 a7 a8 a9 a10 a11) (arrearslaw3_InterestFresh.f (k + 1) a0 a1 a2 a3 a4 a5 a6 a7 a8 a9 a10 a11) := by
  intro a0 a1 a2 a3 a4 a5 a6 a7 a8 a9 a10 a11 k
  obtain ⟨ih0, ih1, ih2, ih3, ih4, ih5⟩ := arrearslaw3_InterestFresh.mono_l k
  unfold arrearslaw3_InterestFresh.f
  repeat' first
      | (with_reducible exact ih0 _ _ _ _ _ _ _ _ _ _ _ _ _)
      | (with_reducible exact ih1 _ _ _ _ _ _ _ _ _ _)
      | (with_reducible exact ih2 _ _ _ _ _ _ _ _ _ _ _ _)
      | (with_reducible exact ih3 _ _ _ _ _ _ _ _ _ _ _ _)
      | (with_reducible exact ih4 _ _ _ _ _ _ _ _ _ _)
      | (with_reducible exact ih5 _ _ _ _ _ _ _ _ _ _)
      | (with_reducible exact arrearslaw3_alike.mono _ _ _)
      | (with_reducible exact arrearslaw3_goneOn.mono _ _ _)
      | (with_reducible exact interest_Plan.mono _ _ _ _ _ _ _ _)
      | (with_reducible exact LeO.refl _)
      | (with_reducible exact LeO.none _)
      | (with_reducible refine LeO.ite ?_ ?_)
      | (with_reducible refine LeO.bind ?_ (fun _ => ?_))
      | exact ih0 _ _ _ _ _ _ _ _ _ _ _ _ _
      | exact ih1 _ _ _ _ _ _ _ _ _ _
      | exact ih2 _ _ _ _ _ _ _ _ _ _ _ _
      | exact ih3 _ _ _ _ _ _ _ _ _ _ _ _
      | exact ih4 _ _ _ _ _ _ _ _ _ _
      | exact ih5 _ _ _ _ _ _ _ _ _ _
      | exact arrearslaw3_alike.mono _ _ _
      | exact arrearslaw3_goneOn.mono _ _ _
      | exact interest_Plan.mono _ _ _ _ _ _ _ _
      | exact LeO.none _
      | refine LeO.ite ?_ ?_
      | refine LeO.bind ?_ (fun _ => ?_)
set_option maxHeartbeats 8000000 in
set_option maxRecDepth 100000 in
theorem arrearslaw3_InterestFresh.calls (k : Nat) (a0_0 : Int) (a0_1 : Int) (a0_2 : Int) (a0_3 : Int) (a0_4 : Int) (a0_5 : Int) (a1_0 : Int) (a1_1 : Int) (a1_2 : Int) (a1_3 : Int) (a1_4 : Int) (a1_5 : Int) (r : Bool) (w : World) (hrT : AheadAt w) (h : arrearslaw3_InterestFresh.f k a0_0 a0_1 a0_2 a0_3 a0_4 a0_5 a1_0 a1_1 a1_2 a1_3 a1_4 a1_5 = some r) :
    Calls Tryd.prog 5 #[.agg #[.int .i64 a0_0, .int .i64 a0_1, .int .i64 a0_2, .int .i64 a0_3, .int .i64 a0_4, .int .i64 a0_5], .agg #[.int .i64 a1_0, .int .i64 a1_1, .int .i64 a1_2, .int .i64 a1_3, .int .i64 a1_4, .int .i64 a1_5]] w fun e w' => e = .returned (.bool r) ∧ Below w.heap.size w w' := by
  have hu23 := Tryd.underlying23
  have hu41 := Tryd.underlying41
  have HRT := Aside0.mk hrT
  clear hrT
  have HB := Aside0.mk (Below.refl w.heap.size w)
  have H : ((interest_Plan.f k a0_0 a0_1 a0_2 a0_3 a0_4 a0_5 ([] : List Int)).bind fun bt189 => ((interest_Plan.f k a1_0 a1_1 a1_2 a1_3 a1_4 a1_5 ([] : List Int)).bind fun bt193 => ((interest_Plan.f k a0_0 a0_1 a0_2 a0_3 a0_4 a0_5 ([] : List Int)).bind fun bt197 => (if a0_0 ≥ 0 then (if a0_0 ≤ 2 then ((arrearslaw3_lending.f a0_1 a0_2 a0_3).bind fun t201 => (if t201 = true then (if a0_4 ≥ 1 then (if a0_4 ≤ 3640000 then (if a0_5 ≥ 0 then (if a0_5 ≤ 3 then (arrearslaw3_InterestFresh.j0 k bt189.1 bt189.2 bt193.1 bt193.2 bt197.1 bt197.2 (!bt189.2) a0_0 a0_1 a0_2 a0_3 a0_4 a0_5) else (arrearslaw3_InterestFresh.j0 k bt189.1 bt189.2 bt193.1 bt193.2 bt197.1 bt197.2 false a0_0 a0_1 a0_2 a0_3 a0_4 a0_5)) else (arrearslaw3_InterestFresh.j0 k bt189.1 bt189.2 bt193.1 bt193.2 bt197.1 bt197.2 false a0_0 a0_1 a0_2 a0_3 a0_4 a0_5)) else (arrearslaw3_InterestFresh.j0 k bt189.1 bt189.2 bt193.1 bt193.2 bt197.1 bt197.2 false a0_0 a0_1 a0_2 a0_3 a0_4 a0_5)) else (arrearslaw3_InterestFresh.j0 k bt189.1 bt189.2 bt193.1 bt193.2 bt197.1 bt197.2 false a0_0 a0_1 a0_2 a0_3 a0_4 a0_5)) else (arrearslaw3_InterestFresh.j0 k bt189.1 bt189.2 bt193.1 bt193.2 bt197.1 bt197.2 false a0_0 a0_1 a0_2 a0_3 a0_4 a0_5))) else (arrearslaw3_InterestFresh.j0 k bt189.1 bt189.2 bt193.1 bt193.2 bt197.1 bt197.2 false a0_0 a0_1 a0_2 a0_3 a0_4 a0_5)) else (arrearslaw3_InterestFresh.j0 k bt189.1 bt189.2 bt193.1 bt193.2 bt197.1 bt197.2 false a0_0 a0_1 a0_2 a0_3 a0_4 a0_5))))) = some r := h
  clear h
  replace H := Option.bind_eq_some_iff.mp H
  obtain ⟨⟨t189, t192⟩, A30, H⟩ := H
  replace H : ((interest_Plan.f k a1_0 a1_1 a1_2 a1_3 a1_4 a1_5 ([] : List Int)).bind fun bt193 => ((interest_Plan.f k a0_0 a0_1 a0_2 a0_3 a0_4 a0_5 ([] : List Int)).bind fun bt197 => (if a0_0 ≥ 0 then (if a0_0 ≤ 2 then ((arrearslaw3_lending.f a0_1 a0_2 a0_3).bind fun t201 => (if t201 = true then (if a0_4 ≥ 1 then (if a0_4 ≤ 3640000 then (if a0_5 ≥ 0 then (if a0_5 ≤ 3 then (arrearslaw3_InterestFresh.j0 k t189 t192 bt193.1 bt193.2 bt197.1 bt197.2 (!t192) a0_0 a0_1 a0_2 a0_3 a0_4 a0_5) else (arrearslaw3_InterestFresh.j0 k t189 t192 bt193.1 bt193.2 bt197.1 bt197.2 false a0_0 a0_1 a0_2 a0_3 a0_4 a0_5)) else (arrearslaw3_InterestFresh.j0 k t189 t192 bt193.1 bt193.2 bt197.1 bt197.2 false a0_0 a0_1 a0_2 a0_3 a0_4 a0_5)) else (arrearslaw3_InterestFresh.j0 k t189 t192 bt193.1 bt193.2 bt197.1 bt197.2 false a0_0 a0_1 a0_2 a0_3 a0_4 a0_5)) else (arrearslaw3_InterestFresh.j0 k t189 t192 bt193.1 bt193.2 bt197.1 bt197.2 false a0_0 a0_1 a0_2 a0_3 a0_4 a0_5)) else (arrearslaw3_InterestFresh.j0 k t189 t192 bt193.1 bt193.2 bt197.1 bt197.2 false a0_0 a0_1 a0_2 a0_3 a0_4 a0_5))) else (arrearslaw3_InterestFresh.j0 k t189 t192 bt193.1 bt193.2 bt197.1 bt197.2 false a0_0 a0_1 a0_2 a0_3 a0_4 a0_5)) else (arrearslaw3_InterestFresh.j0 k t189 t192 bt193.1 bt193.2 bt197.1 bt197.2 false a0_0 a0_1 a0_2 a0_3 a0_4 a0_5)))) = some r := H
  have A3 := Aside0.mk A30
  clear A30
  replace H := Option.bind_eq_some_iff.mp H
  obtain ⟨⟨t193, t196⟩, A40, H⟩ := H
  replace H : ((interest_Plan.f k a0_0 a0_1 a0_2 a0_3 a0_4 a0_5 ([] : List Int)).bind fun bt197 => (if a0_0 ≥ 0 then (if a0_0 ≤ 2 then ((arrearslaw3_lending.f a0_1 a0_2 a0_3).bind fun t201 => (if t201 = true then (if a0_4 ≥ 1 then (if a0_4 ≤ 3640000 then (if a0_5 ≥ 0 then (if a0_5 ≤ 3 then (arrearslaw3_InterestFresh.j0 k t189 t192 t193 t196 bt197.1 bt197.2 (!t192) a0_0 a0_1 a0_2 a0_3 a0_4 a0_5) else (arrearslaw3_InterestFresh.j0 k t189 t192 t193 t196 bt197.1 bt197.2 false a0_0 a0_1 a0_2 a0_3 a0_4 a0_5)) else (arrearslaw3_InterestFresh.j0 k t189 t192 t193 t196 bt197.1 bt197.2 false a0_0 a0_1 a0_2 a0_3 a0_4 a0_5)) else (arrearslaw3_InterestFresh.j0 k t189 t192 t193 t196 bt197.1 bt197.2 false a0_0 a0_1 a0_2 a0_3 a0_4 a0_5)) else (arrearslaw3_InterestFresh.j0 k t189 t192 t193 t196 bt197.1 bt197.2 false a0_0 a0_1 a0_2 a0_3 a0_4 a0_5)) else (arrearslaw3_InterestFresh.j0 k t189 t192 t193 t196 bt197.1 bt197.2 false a0_0 a0_1 a0_2 a0_3 a0_4 a0_5))) else (arrearslaw3_InterestFresh.j0 k t189 t192 t193 t196 bt197.1 bt197.2 false a0_0 a0_1 a0_2 a0_3 a0_4 a0_5)) else (arrearslaw3_InterestFresh.j0 k t189 t192 t193 t196 bt197.1 bt197.2 false a0_0 a0_1 a0_2 a0_3 a0_4 a0_5))) = some r := H
  have A4 := Aside0.mk A40
  clear A40
  replace H := Option.bind_eq_some_iff.mp H
  obtain ⟨⟨t197, t200⟩, A50, H⟩ := H
  replace H : (if a0_0 ≥ 0 then (if a0_0 ≤ 2 then ((arrearslaw3_lending.f a0_1 a0_2 a0_3).bind fun t201 => (if t201 = true then (if a0_4 ≥ 1 then (if a0_4 ≤ 3640000 then (if a0_5 ≥ 0 then (if a0_5 ≤ 3 then (arrearslaw3_InterestFresh.j0 k t189 t192 t193 t196 t197 t200 (!t192) a0_0 a0_1 a0_2 a0_3 a0_4 a0_5) else (arrearslaw3_InterestFresh.j0 k t189 t192 t193 t196 t197 t200 false a0_0 a0_1 a0_2 a0_3 a0_4 a0_5)) else (arrearslaw3_InterestFresh.j0 k t189 t192 t193 t196 t197 t200 false a0_0 a0_1 a0_2 a0_3 a0_4 a0_5)) else (arrearslaw3_InterestFresh.j0 k t189 t192 t193 t196 t197 t200 false a0_0 a0_1 a0_2 a0_3 a0_4 a0_5)) else (arrearslaw3_InterestFresh.j0 k t189 t192 t193 t196 t197 t200 false a0_0 a0_1 a0_2 a0_3 a0_4 a0_5)) else (arrearslaw3_InterestFresh.j0 k t189 t192 t193 t196 t197 t200 false a0_0 a0_1 a0_2 a0_3 a0_4 a0_5))) else (arrearslaw3_InterestFresh.j0 k t189 t192 t193 t196 t197 t200 false a0_0 a0_1 a0_2 a0_3 a0_4 a0_5)) else (arrearslaw3_InterestFresh.j0 k t189 t192 t193 t196 t197 t200 false a0_0 a0_1 a0_2 a0_3 a0_4 a0_5)) = some r := H
  have A5 := Aside0.mk A50
  clear A50
  have HC6 := Aside0.mk H
  clear H
  go_enter Tryd.func5, Tryd.ntmps5
  go_upto_region 4 with (first | ((with_reducible refine gate_dst (N := 2) rfl ?_); (try (refine gate_guard (by rfl) ?_; dsimp only)); refine box_event ?hg (N := 2) ?hd (cs := #[.int .i64 a0_0, .int .i64 a0_1, .int .i64 a0_2, .int .i64 a0_3, .int .i64 a0_4, .int .i64 a0_5]) (t := 23) ?hr ?_; (case hd => rfl); (case hg => rfl); (case hr => first | (go_simp; done) | (go_simp; rfl)); intro gb187 hg w7 hbox hb; have n0_ := Aside0.mk (below_step (by repeat (first | (with_reducible first | exact HB.out | apply below_alloc | apply pw_below_drewN | apply below_drew1) | exact HB.out)) hb); have n1_ := Aside0.mk (hbox); have n2_ := Aside0.mk ((by rw [hg]; exact (below_size (by repeat (first | (with_reducible first | exact HB.out | apply below_alloc | apply pw_below_drewN | apply below_drew1) | exact HB.out))) : w.heap.size ≤ gb187)); have n3_ := Aside0.mk ((by rw [hg]; exact (below_size (by repeat (first | (with_reducible first | exact HB.out | apply below_alloc | apply pw_below_drewN | apply below_drew1) | exact HB.out))) : w.heap.size ≤ gb187)); clear HB; have HB := n0_; have BK187 := n1_; have GW187 := n2_; have GE187 := n3_; clear n0_ n1_ n2_ n3_; clear hb hbox hg) | ((with_reducible refine gate_dst (N := 3) rfl ?_); (try (refine gate_guard (by rfl) ?_; dsimp only)); refine box_event ?hg (N := 3) ?hd (cs := #[.int .i64 a1_0, .int .i64 a1_1, .int .i64 a1_2, .int .i64 a1_3, .int .i64 a1_4, .int .i64 a1_5]) (t := 23) ?hr ?_; (case hd => rfl); (case hg => rfl); (case hr => first | (go_simp; done) | (go_simp; rfl)); intro gb188 hg w8 hbox hb; have n0_ := Aside0.mk (blk_below (g := gb187) (o := .cells #[.int .i64 a0_0, .int .i64 a0_1, .int .i64 a0_2, .int .i64 a0_3, .int .i64 a0_4, .int .i64 a0_5] 23 (0, 0)) (blk_of BK187.out (fun h_ => by (with_reducible repeat (first | refine blk_drewN ?_ _ | refine blk_drew ?_ | refine blk_alloc ?_ _)); exact h_)) hb); have n1_ := Aside0.mk (below_step (by repeat (first | (with_reducible first | exact HB.out | apply below_alloc | apply pw_below_drewN | apply below_drew1 | refine below_set ?_ GE187.out) | exact HB.out)) hb); have n2_ := Aside0.mk (hbox); have n3_ := Aside0.mk ((by rw [hg]; exact (below_size (by repeat (first | (with_reducible first | exact HB.out | apply below_alloc | apply pw_below_drewN | apply below_drew1 | refine below_set ?_ GE187.out) | exact HB.out))) : w.heap.size ≤ gb188)); have n4_ := Aside0.mk ((by rw [hg]; exact (below_size (by repeat (first | (with_reducible first | exact HB.out | apply below_alloc | apply pw_below_drewN | apply below_drew1 | refine below_set ?_ GE187.out) | exact HB.out))) : w.heap.size ≤ gb188)); have n5_ := Aside0.mk ((by rw [hg]; exact Nat.ne_of_lt (blk_lt (g := gb187) (o := .cells #[.int .i64 a0_0, .int .i64 a0_1, .int .i64 a0_2, .int .i64 a0_3, .int .i64 a0_4, .int .i64 a0_5] 23 (0, 0)) (blk_of BK187.out (fun h_ => by (with_reducible repeat (first | refine blk_drewN ?_ _ | refine blk_drew ?_ | refine blk_alloc ?_ _)); exact h_))) : gb187 ≠ gb188)); have n6_ := Aside0.mk ((by rw [hg]; exact Nat.ne_of_gt (blk_lt (g := gb187) (o := .cells #[.int .i64 a0_0, .int .i64 a0_1, .int .i64 a0_2, .int .i64 a0_3, .int .i64 a0_4, .int .i64 a0_5] 23 (0, 0)) (blk_of BK187.out (fun h_ => by (with_reducible repeat (first | refine blk_drewN ?_ _ | refine blk_drew ?_ | refine blk_alloc ?_ _)); exact h_))) : gb188 ≠ gb187)); clear BK187; clear HB; have BK187 := n0_; have HB := n1_; have BK188 := n2_; have GW188 := n3_; have GE188 := n4_; have NB187_188 := n5_; have NB188_187 := n6_; clear n0_ n1_ n2_ n3_ n4_ n5_ n6_; clear hb hbox hg; have hnb9 := NB187_188.out; have hnc9 := NB188_187.out; have hcz10_0 : w8.cell? ⟨gb187, 0, none⟩ = some (.int .i64 a0_0) := (blk_cell BK187.out 0).trans rfl; have hcz10_1 : w8.cell? ⟨gb187, 1, none⟩ = some (.int .i64 a0_1) := (blk_cell BK187.out 1).trans rfl; have hcz10_2 : w8.cell? ⟨gb187, 2, none⟩ = some (.int .i64 a0_2) := (blk_cell BK187.out 2).trans rfl; have hcz10_3 : w8.cell? ⟨gb187, 3, none⟩ = some (.int .i64 a0_3) := (blk_cell BK187.out 3).trans rfl; have hcz10_4 : w8.cell? ⟨gb187, 4, none⟩ = some (.int .i64 a0_4) := (blk_cell BK187.out 4).trans rfl; have hcz10_5 : w8.cell? ⟨gb187, 5, none⟩ = some (.int .i64 a0_5) := (blk_cell BK187.out 5).trans rfl; have hfz10_0 := blk_frozen BK187.out 0; have hfz10_1 := blk_frozen BK187.out 1; have hfz10_2 := blk_frozen BK187.out 2; have hfz10_3 := blk_frozen BK187.out 3; have hfz10_4 := blk_frozen BK187.out 4; have hfz10_5 := blk_frozen BK187.out 5) | ((with_reducible refine gate_callee (f := 7) rfl ?_); refine goesL_ (some 20) rfl rfl Tryd.func7 (by kernel_rfl) rfl #[.agg #[.int .i64 a0_0, .int .i64 a0_1, .int .i64 a0_2, .int .i64 a0_3, .int .i64 a0_4, .int .i64 a0_5], .slice none 0 0] rfl (by (try simp only [List.map_toArray, List.map_cons, List.map_nil]); first | done | rfl | (simp only [List.length_drop, List.length_take]; rfl)) ?_; (refine (interest_Plan.calls k a0_0 a0_1 a0_2 a0_3 a0_4 a0_5 _ _ ([] : List Int) t189 t192 _ ?side1 ?side2 ?side3 A3.out).mono ?_); (case side1 => exact Kd.C_nil _ _); (case side2 => exact Nat.le_refl _); (case side3 => repeat (first | exact (Kd.C_below HRT.out HB.out) | (with_reducible refine Kd.C_alloc ?_ _) | (with_reducible refine Kd.C_drewN ?_ _) | (with_reducible refine Kd.C_drew ?_))); rintro e w11 ⟨v190, rfl, ho0, hb⟩; refine ⟨_, rfl, ?_⟩; have n0_ := Aside0.mk (Kd.R_lower ho0 (below_size (by repeat (first | (with_reducible first | exact HB.out | apply below_alloc | apply pw_below_drewN | apply below_drew1 | refine below_set ?_ GE187.out | refine below_set ?_ GE188.out) | exact HB.out)))); have n1_ := Aside0.mk (blk_below (g := gb187) (o := .cells #[.int .i64 a0_0, .int .i64 a0_1, .int .i64 a0_2, .int .i64 a0_3, .int .i64 a0_4, .int .i64 a0_5] 23 (0, 0)) (blk_of BK187.out (fun h_ => by (with_reducible repeat (first | refine blk_drewN ?_ _ | refine blk_drew ?_ | refine blk_alloc ?_ _)); exact h_)) hb); have n2_ := Aside0.mk (blk_below (g := gb188) (o := .cells #[.int .i64 a1_0, .int .i64 a1_1, .int .i64 a1_2, .int .i64 a1_3, .int .i64 a1_4, .int .i64 a1_5] 23 (0, 0)) (blk_of BK188.out (fun h_ => by (with_reducible repeat (first | refine blk_drewN ?_ _ | refine blk_drew ?_ | refine blk_alloc ?_ _)); exact h_)) hb); have n3_ := Aside0.mk (below_step (by repeat (first | (with_reducible first | exact HB.out | apply below_alloc | apply pw_below_drewN | apply below_drew1 | refine below_set ?_ GE187.out | refine below_set ?_ GE188.out) | exact HB.out)) hb); clear BK187; clear BK188; clear HB; have HO191 := n0_; have BK187 := n1_; have BK188 := n2_; have HB := n3_; clear n0_ n1_ n2_ n3_; (try clear hb); (try clear hb2); (try clear hk); (try clear hi); (try clear ho0); have hcz12_0 : w11.cell? ⟨gb188, 0, none⟩ = some (.int .i64 a1_0) := (blk_cell BK188.out 0).trans rfl; have hcz12_1 : w11.cell? ⟨gb188, 1, none⟩ = some (.int .i64 a1_1) := (blk_cell BK188.out 1).trans rfl; have hcz12_2 : w11.cell? ⟨gb188, 2, none⟩ = some (.int .i64 a1_2) := (blk_cell BK188.out 2).trans rfl; have hcz12_3 : w11.cell? ⟨gb188, 3, none⟩ = some (.int .i64 a1_3) := (blk_cell BK188.out 3).trans rfl; have hcz12_4 : w11.cell? ⟨gb188, 4, none⟩ = some (.int .i64 a1_4) := (blk_cell BK188.out 4).trans rfl; have hcz12_5 : w11.cell? ⟨gb188, 5, none⟩ = some (.int .i64 a1_5) := (blk_cell BK188.out 5).trans rfl; have hfz12_0 := blk_frozen BK188.out 0; have hfz12_1 := blk_frozen BK188.out 1; have hfz12_2 := blk_frozen BK188.out 2; have hfz12_3 := blk_frozen BK188.out 3; have hfz12_4 := blk_frozen BK188.out 4; have hfz12_5 := blk_frozen BK188.out 5) | ((with_reducible refine gate_callee (f := 7) rfl ?_); refine goesL_ (some 25) rfl rfl Tryd.func7 (by kernel_rfl) rfl #[.agg #[.int .i64 a1_0, .int .i64 a1_1, .int .i64 a1_2, .int .i64 a1_3, .int .i64 a1_4, .int .i64 a1_5], .slice none 0 0] rfl (by (try simp only [List.map_toArray, List.map_cons, List.map_nil]); first | done | rfl | (simp only [List.length_drop, List.length_take]; rfl)) ?_; (refine (interest_Plan.calls k a1_0 a1_1 a1_2 a1_3 a1_4 a1_5 _ _ ([] : List Int) t193 t196 _ ?side1 ?side2 ?side3 A4.out).mono ?_); (case side1 => exact Kd.C_nil _ _); (case side2 => exact Nat.le_refl _); (case side3 => repeat (first | exact (Kd.C_below HRT.out HB.out) | (with_reducible refine Kd.C_alloc ?_ _) | (with_reducible refine Kd.C_drewN ?_ _) | (with_reducible refine Kd.C_drew ?_))); rintro e w13 ⟨v194, rfl, ho0, hb⟩; refine ⟨_, rfl, ?_⟩; have n0_ := Aside0.mk (Kd.R_elder' (by (with_reducible repeat (first | apply Kd.R_alloc | apply Kd.R_drewN | apply Kd.R_drew)); exact HO191.out) (Kd.R_base ho0) hb); have n1_ := Aside0.mk (Kd.R_lower (Kd.R_new' ho0 (Kd.R_lt (by (with_reducible repeat (first | apply Kd.R_alloc | apply Kd.R_drewN | apply Kd.R_drew)); exact HO191.out))) (below_size (by repeat (first | (with_reducible first | exact HB.out | apply below_alloc | apply pw_below_drewN | apply below_drew1 | refine below_set ?_ GE187.out | refine below_set ?_ GE188.out) | exact HB.out)))); have n2_ := Aside0.mk (blk_below (g := gb187) (o := .cells #[.int .i64 a0_0, .int .i64 a0_1, .int .i64 a0_2, .int .i64 a0_3, .int .i64 a0_4, .int .i64 a0_5] 23 (0, 0)) (blk_of BK187.out (fun h_ => by (with_reducible repeat (first | refine blk_drewN ?_ _ | refine blk_drew ?_ | refine blk_alloc ?_ _)); exact h_)) hb); have n3_ := Aside0.mk (blk_below (g := gb188) (o := .cells #[.int .i64 a1_0, .int .i64 a1_1, .int .i64 a1_2, .int .i64 a1_3, .int .i64 a1_4, .int .i64 a1_5] 23 (0, 0)) (blk_of BK188.out (fun h_ => by (with_reducible repeat (first | refine blk_drewN ?_ _ | refine blk_drew ?_ | refine blk_alloc ?_ _)); exact h_)) hb); have n4_ := Aside0.mk (below_step (by repeat (first | (with_reducible first | exact HB.out | apply below_alloc | apply pw_below_drewN | apply below_drew1 | refine below_set ?_ GE187.out | refine below_set ?_ GE188.out) | exact HB.out)) hb); clear HO191; clear BK187; clear BK188; clear HB; have HO191 := n0_; have HO195 := n1_; have BK187 := n2_; have BK188 := n3_; have HB := n4_; clear n0_ n1_ n2_ n3_ n4_; (try clear hb); (try clear hb2); (try clear hk); (try clear hi); (try clear ho0); have hcz14_0 : w13.cell? ⟨gb187, 0, none⟩ = some (.int .i64 a0_0) := (blk_cell BK187.out 0).trans rfl; have hcz14_1 : w13.cell? ⟨gb187, 1, none⟩ = some (.int .i64 a0_1) := (blk_cell BK187.out 1).trans rfl; have hcz14_2 : w13.cell? ⟨gb187, 2, none⟩ = some (.int .i64 a0_2) := (blk_cell BK187.out 2).trans rfl; have hcz14_3 : w13.cell? ⟨gb187, 3, none⟩ = some (.int .i64 a0_3) := (blk_cell BK187.out 3).trans rfl; have hcz14_4 : w13.cell? ⟨gb187, 4, none⟩ = some (.int .i64 a0_4) := (blk_cell BK187.out 4).trans rfl; have hcz14_5 : w13.cell? ⟨gb187, 5, none⟩ = some (.int .i64 a0_5) := (blk_cell BK187.out 5).trans rfl; have hfz14_0 := blk_frozen BK187.out 0; have hfz14_1 := blk_frozen BK187.out 1; have hfz14_2 := blk_frozen BK187.out 2; have hfz14_3 := blk_frozen BK187.out 3; have hfz14_4 := blk_frozen BK187.out 4; have hfz14_5 := blk_frozen BK187.out 5) | ((with_reducible refine gate_callee (f := 7) rfl ?_); refine goesL_ (some 30) rfl rfl Tryd.func7 (by kernel_rfl) rfl #[.agg #[.int .i64 a0_0, .int .i64 a0_1, .int .i64 a0_2, .int .i64 a0_3, .int .i64 a0_4, .int .i64 a0_5], .slice none 0 0] rfl (by (try simp only [List.map_toArray, List.map_cons, List.map_nil]); first | done | rfl | (simp only [List.length_drop, List.length_take]; rfl)) ?_; (refine (interest_Plan.calls k a0_0 a0_1 a0_2 a0_3 a0_4 a0_5 _ _ ([] : List Int) t197 t200 _ ?side1 ?side2 ?side3 A5.out).mono ?_); (case side1 => exact Kd.C_nil _ _); (case side2 => exact Nat.le_refl _); (case side3 => repeat (first | exact (Kd.C_below HRT.out HB.out) | (with_reducible refine Kd.C_alloc ?_ _) | (with_reducible refine Kd.C_drewN ?_ _) | (with_reducible refine Kd.C_drew ?_))); rintro e w15 ⟨v198, rfl, ho0, hb⟩; refine ⟨_, rfl, ?_⟩; have n0_ := Aside0.mk (Kd.R_elder' (by (with_reducible repeat (first | apply Kd.R_alloc | apply Kd.R_drewN | apply Kd.R_drew)); exact HO191.out) (Kd.R_base ho0) hb); have n1_ := Aside0.mk (Kd.R_elder' (by (with_reducible repeat (first | apply Kd.R_alloc | apply Kd.R_drewN | apply Kd.R_drew)); exact HO195.out) (Kd.R_base ho0) hb); have n2_ := Aside0.mk (Kd.R_lower (Kd.R_new' (Kd.R_new' ho0 (Kd.R_lt (by (with_reducible repeat (first | apply Kd.R_alloc | apply Kd.R_drewN | apply Kd.R_drew)); exact HO191.out))) (Kd.R_lt (by (with_reducible repeat (first | apply Kd.R_alloc | apply Kd.R_drewN | apply Kd.R_drew)); exact HO195.out))) (below_size (by repeat (first | (with_reducible first | exact HB.out | apply below_alloc | apply pw_below_drewN | apply below_drew1 | refine below_set ?_ GE187.out | refine below_set ?_ GE188.out) | exact HB.out)))); have n3_ := Aside0.mk (blk_below (g := gb187) (o := .cells #[.int .i64 a0_0, .int .i64 a0_1, .int .i64 a0_2, .int .i64 a0_3, .int .i64 a0_4, .int .i64 a0_5] 23 (0, 0)) (blk_of BK187.out (fun h_ => by (with_reducible repeat (first | refine blk_drewN ?_ _ | refine blk_drew ?_ | refine blk_alloc ?_ _)); exact h_)) hb); have n4_ := Aside0.mk (blk_below (g := gb188) (o := .cells #[.int .i64 a1_0, .int .i64 a1_1, .int .i64 a1_2, .int .i64 a1_3, .int .i64 a1_4, .int .i64 a1_5] 23 (0, 0)) (blk_of BK188.out (fun h_ => by (with_reducible repeat (first | refine blk_drewN ?_ _ | refine blk_drew ?_ | refine blk_alloc ?_ _)); exact h_)) hb); have n5_ := Aside0.mk (below_step (by repeat (first | (with_reducible first | exact HB.out | apply below_alloc | apply pw_below_drewN | apply below_drew1 | refine below_set ?_ GE187.out | refine below_set ?_ GE188.out) | exact HB.out)) hb); clear HO191; clear HO195; clear BK187; clear BK188; clear HB; have HO191 := n0_; have HO195 := n1_; have HO199 := n2_; have BK187 := n3_; have BK188 := n4_; have HB := n5_; clear n0_ n1_ n2_ n3_ n4_ n5_; (try clear hb); (try clear hb2); (try clear hk); (try clear hi); (try clear ho0)))
  (try simp only [Act.put, List.setIfInBounds_toArray, List.set_cons_zero, List.set_cons_succ])
  go_cut [73] (fun v73 wc => ∃ (kq : Nat) (x73_5 : Bool), v73 = .bool x73_5 ∧ Aside0 (arrearslaw3_InterestFresh.j0 kq t189 t192 t193 t196 t197 t200 x73_5 a0_0 a0_1 a0_2 a0_3 a0_4 a0_5 = some r) ∧ Aside0 (kq ≤ k) ∧ Aside0 (Kd.R k41 41 wc w.heap.size (fun k_ => some k_ ≠ (v194 : Value).ownBlock ∧ some k_ ≠ (v198 : Value).ownBlock) v190 t189) ∧ Aside0 (Kd.R k41 41 wc w.heap.size (fun k_ => some k_ ≠ (v190 : Value).ownBlock ∧ some k_ ≠ (v198 : Value).ownBlock) v194 t193) ∧ Aside0 (Kd.R k41 41 wc w.heap.size (fun k_ => some k_ ≠ (v190 : Value).ownBlock ∧ some k_ ≠ (v194 : Value).ownBlock) v198 t197) ∧ Aside0 (wc.heap[gb187]? = some (.cells #[.int .i64 a0_0, .int .i64 a0_1, .int .i64 a0_2, .int .i64 a0_3, .int .i64 a0_4, .int .i64 a0_5] 23 (0, 0))) ∧ Aside0 (wc.heap[gb188]? = some (.cells #[.int .i64 a1_0, .int .i64 a1_1, .int .i64 a1_2, .int .i64 a1_3, .int .i64 a1_4, .int .i64 a1_5] 23 (0, 0))) ∧ Aside0 (Below w.heap.size w wc))
  case first => as_aux_lemma =>
    have H := HC6.out
    clear HC6
    by_cases c16 : a0_0 ≥ 0
    · rw [if_pos c16] at H
      have c16b0 : decide (0 ≤ a0_0) = true := decide_eq_true c16
      clear c16
      (first | rw [c16b0] | (simp only [i64_w, i32_w]; rw [c16b0]) | skip)
      by_cases c17 : a0_0 ≤ 2
      · rw [if_pos c17] at H
        have c17b0 : decide (a0_0 ≤ 2) = true := decide_eq_true c17
        clear c17
        replace H := Option.bind_eq_some_iff.mp H
        obtain ⟨t201, A180, H⟩ := H
        replace H : (if t201 = true then (if a0_4 ≥ 1 then (if a0_4 ≤ 3640000 then (if a0_5 ≥ 0 then (if a0_5 ≤ 3 then (arrearslaw3_InterestFresh.j0 k t189 t192 t193 t196 t197 t200 (!t192) a0_0 a0_1 a0_2 a0_3 a0_4 a0_5) else (arrearslaw3_InterestFresh.j0 k t189 t192 t193 t196 t197 t200 false a0_0 a0_1 a0_2 a0_3 a0_4 a0_5)) else (arrearslaw3_InterestFresh.j0 k t189 t192 t193 t196 t197 t200 false a0_0 a0_1 a0_2 a0_3 a0_4 a0_5)) else (arrearslaw3_InterestFresh.j0 k t189 t192 t193 t196 t197 t200 false a0_0 a0_1 a0_2 a0_3 a0_4 a0_5)) else (arrearslaw3_InterestFresh.j0 k t189 t192 t193 t196 t197 t200 false a0_0 a0_1 a0_2 a0_3 a0_4 a0_5)) else (arrearslaw3_InterestFresh.j0 k t189 t192 t193 t196 t197 t200 false a0_0 a0_1 a0_2 a0_3 a0_4 a0_5)) = some r := H
        have A18 := Aside0.mk A180
        clear A180
        by_cases c19 : t201 = true
        · subst c19
          have H1 : (if a0_4 ≥ 1 then (if a0_4 ≤ 3640000 then (if a0_5 ≥ 0 then (if a0_5 ≤ 3 then (arrearslaw3_InterestFresh.j0 k t189 t192 t193 t196 t197 t200 (!t192) a0_0 a0_1 a0_2 a0_3 a0_4 a0_5) else (arrearslaw3_InterestFresh.j0 k t189 t192 t193 t196 t197 t200 false a0_0 a0_1 a0_2 a0_3 a0_4 a0_5)) else (arrearslaw3_InterestFresh.j0 k t189 t192 t193 t196 t197 t200 false a0_0 a0_1 a0_2 a0_3 a0_4 a0_5)) else (arrearslaw3_InterestFresh.j0 k t189 t192 t193 t196 t197 t200 false a0_0 a0_1 a0_2 a0_3 a0_4 a0_5)) else (arrearslaw3_InterestFresh.j0 k t189 t192 t193 t196 t197 t200 false a0_0 a0_1 a0_2 a0_3 a0_4 a0_5)) = some r := by rw [if_pos rfl] at H; exact H
          clear H
          have H := H1
          clear H1
          by_cases c20 : a0_4 ≥ 1
          · rw [if_pos c20] at H
            have c20b0 : decide (1 ≤ a0_4) = true := decide_eq_true c20
            clear c20
            by_cases c21 : a0_4 ≤ 3640000
            · rw [if_pos c21] at H
              have c21b0 : decide (a0_4 ≤ 3640000) = true := decide_eq_true c21
              clear c21
              by_cases c22 : a0_5 ≥ 0
              · rw [if_pos c22] at H
                have c22b0 : decide (0 ≤ a0_5) = true := decide_eq_true c22
                clear c22
                by_cases c23 : a0_5 ≤ 3
                · rw [if_pos c23] at H
                  have c23b0 : decide (a0_5 ≤ 3) = true := decide_eq_true c23
                  clear c23
                  have H' := Aside0.mk H
                  clear H
                  have hnb24 := NB187_188.out
                  have hnc24 := NB188_187.out
                  have hcz25_0 : w15.cell? ⟨gb187, 0, none⟩ = some (.int .i64 a0_0) := (blk_cell BK187.out 0).trans rfl
                  have hcz25_1 : w15.cell? ⟨gb187, 1, none⟩ = some (.int .i64 a0_1) := (blk_cell BK187.out 1).trans rfl
                  have hcz25_2 : w15.cell? ⟨gb187, 2, none⟩ = some (.int .i64 a0_2) := (blk_cell BK187.out 2).trans rfl
                  have hcz25_3 : w15.cell? ⟨gb187, 3, none⟩ = some (.int .i64 a0_3) := (blk_cell BK187.out 3).trans rfl
                  have hcz25_4 : w15.cell? ⟨gb187, 4, none⟩ = some (.int .i64 a0_4) := (blk_cell BK187.out 4).trans rfl
                  have hcz25_5 : w15.cell? ⟨gb187, 5, none⟩ = some (.int .i64 a0_5) := (blk_cell BK187.out 5).trans rfl
                  have hfz25_0 := blk_frozen BK187.out 0
                  have hfz25_1 := blk_frozen BK187.out 1
                  have hfz25_2 := blk_frozen BK187.out 2
                  have hfz25_3 := blk_frozen BK187.out 3
                  have hfz25_4 := blk_frozen BK187.out 4
                  have hfz25_5 := blk_frozen BK187.out 5
                  go_wp2_with (first | (go_at_call 11; (with_reducible refine (arrearslaw3_lending.calls a0_1 a0_2 a0_3 true _ A18.out).mono ?_); rintro e w' ⟨rfl, ⟨nd, rfl⟩⟩))
                  go_meet
                  case rel => exact ⟨_, (!t192), (by first | rfl | (simp; done) | (simp [*]; done)), H', ⟨by first | omega | exact Nat.le_refl _⟩, ⟨by (with_reducible repeat (first | apply Kd.R_alloc | apply Kd.R_drewN | apply Kd.R_drew)); exact Kd.R_mono HO191.out (fun _ hk => ⟨hk.1.2, hk.2⟩)⟩, ⟨by (with_reducible repeat (first | apply Kd.R_alloc | apply Kd.R_drewN | apply Kd.R_drew)); exact Kd.R_mono HO195.out (fun _ hk => ⟨hk.1.2, hk.2⟩)⟩, ⟨by (with_reducible repeat (first | apply Kd.R_alloc | apply Kd.R_drewN | apply Kd.R_drew)); exact Kd.R_mono HO199.out (fun _ hk => ⟨hk.1.2, hk.2⟩)⟩, ⟨by (with_reducible repeat (first | refine blk_drewN ?_ _ | refine blk_drew ?_ | refine blk_alloc ?_ _)); exact BK187.out⟩, ⟨by (with_reducible repeat (first | refine blk_drewN ?_ _ | refine blk_drew ?_ | refine blk_alloc ?_ _)); exact BK188.out⟩, ⟨by repeat (first | (with_reducible first | exact HB.out | apply below_alloc | apply pw_below_drewN | apply below_drew1 | refine below_set ?_ GE187.out | refine below_set ?_ GE188.out) | exact HB.out)⟩⟩
                · rw [if_neg c23] at H
                  have c23b0 : decide (a0_5 ≤ 3) = false := decide_eq_false c23
                  clear c23
                  have H' := Aside0.mk H
                  clear H
                  have hnb26 := NB187_188.out
                  have hnc26 := NB188_187.out
                  have hcz27_0 : w15.cell? ⟨gb187, 0, none⟩ = some (.int .i64 a0_0) := (blk_cell BK187.out 0).trans rfl
                  have hcz27_1 : w15.cell? ⟨gb187, 1, none⟩ = some (.int .i64 a0_1) := (blk_cell BK187.out 1).trans rfl
                  have hcz27_2 : w15.cell? ⟨gb187, 2, none⟩ = some (.int .i64 a0_2) := (blk_cell BK187.out 2).trans rfl
                  have hcz27_3 : w15.cell? ⟨gb187, 3, none⟩ = some (.int .i64 a0_3) := (blk_cell BK187.out 3).trans rfl
                  have hcz27_4 : w15.cell? ⟨gb187, 4, none⟩ = some (.int .i64 a0_4) := (blk_cell BK187.out 4).trans rfl
                  have hcz27_5 : w15.cell? ⟨gb187, 5, none⟩ = some (.int .i64 a0_5) := (blk_cell BK187.out 5).trans rfl
                  have hfz27_0 := blk_frozen BK187.out 0
                  have hfz27_1 := blk_frozen BK187.out 1
                  have hfz27_2 := blk_frozen BK187.out 2
                  have hfz27_3 := blk_frozen BK187.out 3
                  have hfz27_4 := blk_frozen BK187.out 4
                  have hfz27_5 := blk_frozen BK187.out 5
                  go_wp2_with (first | (go_at_call 11; (with_reducible refine (arrearslaw3_lending.calls a0_1 a0_2 a0_3 true _ A18.out).mono ?_); rintro e w' ⟨rfl, ⟨nd, rfl⟩⟩))
                  go_meet
                  case rel => exact ⟨_, (false), (by first | rfl | (simp; done) | (simp [*]; done)), H', ⟨by first | omega | exact Nat.le_refl _⟩, ⟨by (with_reducible repeat (first | apply Kd.R_alloc | apply Kd.R_drewN | apply Kd.R_drew)); exact Kd.R_mono HO191.out (fun _ hk => ⟨hk.1.2, hk.2⟩)⟩, ⟨by (with_reducible repeat (first | apply Kd.R_alloc | apply Kd.R_drewN | apply Kd.R_drew)); exact Kd.R_mono HO195.out (fun _ hk => ⟨hk.1.2, hk.2⟩)⟩, ⟨by (with_reducible repeat (first | apply Kd.R_alloc | apply Kd.R_drewN | apply Kd.R_drew)); exact Kd.R_mono HO199.out (fun _ hk => ⟨hk.1.2, hk.2⟩)⟩, ⟨by (with_reducible repeat (first | refine blk_drewN ?_ _ | refine blk_drew ?_ | refine blk_alloc ?_ _)); exact BK187.out⟩, ⟨by (with_reducible repeat (first | refine blk_drewN ?_ _ | refine blk_drew ?_ | refine blk_alloc ?_ _)); exact BK188.out⟩, ⟨by repeat (first | (with_reducible first | exact HB.out | apply below_alloc | apply pw_below_drewN | apply below_drew1 | refine below_set ?_ GE187.out | refine below_set ?_ GE188.out) | exact HB.out)⟩⟩
              · rw [if_neg c22] at H
                have c22b0 : decide (0 ≤ a0_5) = false := decide_eq_false c22
                clear c22
                have H' := Aside0.mk H
                clear H
                have hnb28 := NB187_188.out
                have hnc28 := NB188_187.out
                have hcz29_0 : w15.cell? ⟨gb187, 0, none⟩ = some (.int .i64 a0_0) := (blk_cell BK187.out 0).trans rfl
                have hcz29_1 : w15.cell? ⟨gb187, 1, none⟩ = some (.int .i64 a0_1) := (blk_cell BK187.out 1).trans rfl
                have hcz29_2 : w15.cell? ⟨gb187, 2, none⟩ = some (.int .i64 a0_2) := (blk_cell BK187.out 2).trans rfl
                have hcz29_3 : w15.cell? ⟨gb187, 3, none⟩ = some (.int .i64 a0_3) := (blk_cell BK187.out 3).trans rfl
                have hcz29_4 : w15.cell? ⟨gb187, 4, none⟩ = some (.int .i64 a0_4) := (blk_cell BK187.out 4).trans rfl
                have hcz29_5 : w15.cell? ⟨gb187, 5, none⟩ = some (.int .i64 a0_5) := (blk_cell BK187.out 5).trans rfl
                have hfz29_0 := blk_frozen BK187.out 0
                have hfz29_1 := blk_frozen BK187.out 1
                have hfz29_2 := blk_frozen BK187.out 2
                have hfz29_3 := blk_frozen BK187.out 3
                have hfz29_4 := blk_frozen BK187.out 4
                have hfz29_5 := blk_frozen BK187.out 5
                go_wp2_with (first | (go_at_call 11; (with_reducible refine (arrearslaw3_lending.calls a0_1 a0_2 a0_3 true _ A18.out).mono ?_); rintro e w' ⟨rfl, ⟨nd, rfl⟩⟩))
                go_meet
                case rel => exact ⟨_, (false), (by first | rfl | (simp; done) | (simp [*]; done)), H', ⟨by first | omega | exact Nat.le_refl _⟩, ⟨by (with_reducible repeat (first | apply Kd.R_alloc | apply Kd.R_drewN | apply Kd.R_drew)); exact Kd.R_mono HO191.out (fun _ hk => ⟨hk.1.2, hk.2⟩)⟩, ⟨by (with_reducible repeat (first | apply Kd.R_alloc | apply Kd.R_drewN | apply Kd.R_drew)); exact Kd.R_mono HO195.out (fun _ hk => ⟨hk.1.2, hk.2⟩)⟩, ⟨by (with_reducible repeat (first | apply Kd.R_alloc | apply Kd.R_drewN | apply Kd.R_drew)); exact Kd.R_mono HO199.out (fun _ hk => ⟨hk.1.2, hk.2⟩)⟩, ⟨by (with_reducible repeat (first | refine blk_drewN ?_ _ | refine blk_drew ?_ | refine blk_alloc ?_ _)); exact BK187.out⟩, ⟨by (with_reducible repeat (first | refine blk_drewN ?_ _ | refine blk_drew ?_ | refine blk_alloc ?_ _)); exact BK188.out⟩, ⟨by repeat (first | (with_reducible first | exact HB.out | apply below_alloc | apply pw_below_drewN | apply below_drew1 | refine below_set ?_ GE187.out | refine below_set ?_ GE188.out) | exact HB.out)⟩⟩
            · rw [if_neg c21] at H
              have c21b0 : decide (a0_4 ≤ 3640000) = false := decide_eq_false c21
              clear c21
              have H' := Aside0.mk H
              clear H
              have hnb30 := NB187_188.out
              have hnc30 := NB188_187.out
              have hcz31_0 : w15.cell? ⟨gb187, 0, none⟩ = some (.int .i64 a0_0) := (blk_cell BK187.out 0).trans rfl
              have hcz31_1 : w15.cell? ⟨gb187, 1, none⟩ = some (.int .i64 a0_1) := (blk_cell BK187.out 1).trans rfl
              have hcz31_2 : w15.cell? ⟨gb187, 2, none⟩ = some (.int .i64 a0_2) := (blk_cell BK187.out 2).trans rfl
              have hcz31_3 : w15.cell? ⟨gb187, 3, none⟩ = some (.int .i64 a0_3) := (blk_cell BK187.out 3).trans rfl
              have hcz31_4 : w15.cell? ⟨gb187, 4, none⟩ = some (.int .i64 a0_4) := (blk_cell BK187.out 4).trans rfl
              have hcz31_5 : w15.cell? ⟨gb187, 5, none⟩ = some (.int .i64 a0_5) := (blk_cell BK187.out 5).trans rfl
              have hfz31_0 := blk_frozen BK187.out 0
              have hfz31_1 := blk_frozen BK187.out 1
              have hfz31_2 := blk_frozen BK187.out 2
              have hfz31_3 := blk_frozen BK187.out 3
              have hfz31_4 := blk_frozen BK187.out 4
              have hfz31_5 := blk_frozen BK187.out 5
              go_wp2_with (first | (go_at_call 11; (with_reducible refine (arrearslaw3_lending.calls a0_1 a0_2 a0_3 true _ A18.out).mono ?_); rintro e w' ⟨rfl, ⟨nd, rfl⟩⟩))
              go_meet
              case rel => exact ⟨_, (false), (by first | rfl | (simp; done) | (simp [*]; done)), H', ⟨by first | omega | exact Nat.le_refl _⟩, ⟨by (with_reducible repeat (first | apply Kd.R_alloc | apply Kd.R_drewN | apply Kd.R_drew)); exact Kd.R_mono HO191.out (fun _ hk => ⟨hk.1.2, hk.2⟩)⟩, ⟨by (with_reducible repeat (first | apply Kd.R_alloc | apply Kd.R_drewN | apply Kd.R_drew)); exact Kd.R_mono HO195.out (fun _ hk => ⟨hk.1.2, hk.2⟩)⟩, ⟨by (with_reducible repeat (first | apply Kd.R_alloc | apply Kd.R_drewN | apply Kd.R_drew)); exact Kd.R_mono HO199.out (fun _ hk => ⟨hk.1.2, hk.2⟩)⟩, ⟨by (with_reducible repeat (first | refine blk_drewN ?_ _ | refine blk_drew ?_ | refine blk_alloc ?_ _)); exact BK187.out⟩, ⟨by (with_reducible repeat (first | refine blk_drewN ?_ _ | refine blk_drew ?_ | refine blk_alloc ?_ _)); exact BK188.out⟩, ⟨by repeat (first | (with_reducible first | exact HB.out | apply below_alloc | apply pw_below_drewN | apply below_drew1 | refine below_set ?_ GE187.out | refine below_set ?_ GE188.out) | exact HB.out)⟩⟩
          · rw [if_neg c20] at H
            have c20b0 : decide (1 ≤ a0_4) = false := decide_eq_false c20
            clear c20
            have H' := Aside0.mk H
            clear H
            have hnb32 := NB187_188.out
            have hnc32 := NB188_187.out
            have hcz33_0 : w15.cell? ⟨gb187, 0, none⟩ = some (.int .i64 a0_0) := (blk_cell BK187.out 0).trans rfl
            have hcz33_1 : w15.cell? ⟨gb187, 1, none⟩ = some (.int .i64 a0_1) := (blk_cell BK187.out 1).trans rfl
            have hcz33_2 : w15.cell? ⟨gb187, 2, none⟩ = some (.int .i64 a0_2) := (blk_cell BK187.out 2).trans rfl
            have hcz33_3 : w15.cell? ⟨gb187, 3, none⟩ = some (.int .i64 a0_3) := (blk_cell BK187.out 3).trans rfl
            have hcz33_4 : w15.cell? ⟨gb187, 4, none⟩ = some (.int .i64 a0_4) := (blk_cell BK187.out 4).trans rfl
            have hcz33_5 : w15.cell? ⟨gb187, 5, none⟩ = some (.int .i64 a0_5) := (blk_cell BK187.out 5).trans rfl
            have hfz33_0 := blk_frozen BK187.out 0
            have hfz33_1 := blk_frozen BK187.out 1
            have hfz33_2 := blk_frozen BK187.out 2
            have hfz33_3 := blk_frozen BK187.out 3
            have hfz33_4 := blk_frozen BK187.out 4
            have hfz33_5 := blk_frozen BK187.out 5
            go_wp2_with (first | (go_at_call 11; (with_reducible refine (arrearslaw3_lending.calls a0_1 a0_2 a0_3 true _ A18.out).mono ?_); rintro e w' ⟨rfl, ⟨nd, rfl⟩⟩))
            go_meet
            case rel => exact ⟨_, (false), (by first | rfl | (simp; done) | (simp [*]; done)), H', ⟨by first | omega | exact Nat.le_refl _⟩, ⟨by (with_reducible repeat (first | apply Kd.R_alloc | apply Kd.R_drewN | apply Kd.R_drew)); exact Kd.R_mono HO191.out (fun _ hk => ⟨hk.1.2, hk.2⟩)⟩, ⟨by (with_reducible repeat (first | apply Kd.R_alloc | apply Kd.R_drewN | apply Kd.R_drew)); exact Kd.R_mono HO195.out (fun _ hk => ⟨hk.1.2, hk.2⟩)⟩, ⟨by (with_reducible repeat (first | apply Kd.R_alloc | apply Kd.R_drewN | apply Kd.R_drew)); exact Kd.R_mono HO199.out (fun _ hk => ⟨hk.1.2, hk.2⟩)⟩, ⟨by (with_reducible repeat (first | refine blk_drewN ?_ _ | refine blk_drew ?_ | refine blk_alloc ?_ _)); exact BK187.out⟩, ⟨by (with_reducible repeat (first | refine blk_drewN ?_ _ | refine blk_drew ?_ | refine blk_alloc ?_ _)); exact BK188.out⟩, ⟨by repeat (first | (with_reducible first | exact HB.out | apply below_alloc | apply pw_below_drewN | apply below_drew1 | refine below_set ?_ GE187.out | refine below_set ?_ GE188.out) | exact HB.out)⟩⟩
        · replace c19 := Bool.eq_false_iff.mpr c19
          subst c19
          have H1 : (arrearslaw3_InterestFresh.j0 k t189 t192 t193 t196 t197 t200 false a0_0 a0_1 a0_2 a0_3 a0_4 a0_5) = some r := by rw [if_neg (show ¬ (false = true) by decide)] at H; exact H
          clear H
          have H := H1
          clear H1
          have H' := Aside0.mk H
          clear H
          have hnb34 := NB187_188.out
          have hnc34 := NB188_187.out
          have hcz35_0 : w15.cell? ⟨gb187, 0, none⟩ = some (.int .i64 a0_0) := (blk_cell BK187.out 0).trans rfl
          have hcz35_1 : w15.cell? ⟨gb187, 1, none⟩ = some (.int .i64 a0_1) := (blk_cell BK187.out 1).trans rfl
          have hcz35_2 : w15.cell? ⟨gb187, 2, none⟩ = some (.int .i64 a0_2) := (blk_cell BK187.out 2).trans rfl
          have hcz35_3 : w15.cell? ⟨gb187, 3, none⟩ = some (.int .i64 a0_3) := (blk_cell BK187.out 3).trans rfl
          have hcz35_4 : w15.cell? ⟨gb187, 4, none⟩ = some (.int .i64 a0_4) := (blk_cell BK187.out 4).trans rfl
          have hcz35_5 : w15.cell? ⟨gb187, 5, none⟩ = some (.int .i64 a0_5) := (blk_cell BK187.out 5).trans rfl
          have hfz35_0 := blk_frozen BK187.out 0
          have hfz35_1 := blk_frozen BK187.out 1
          have hfz35_2 := blk_frozen BK187.out 2
          have hfz35_3 := blk_frozen BK187.out 3
          have hfz35_4 := blk_frozen BK187.out 4
          have hfz35_5 := blk_frozen BK187.out 5
          go_wp2_with (first | (go_at_call 11; (with_reducible refine (arrearslaw3_lending.calls a0_1 a0_2 a0_3 false _ A18.out).mono ?_); rintro e w' ⟨rfl, ⟨nd, rfl⟩⟩))
          go_meet
          case rel => exact ⟨_, (false), (by first | rfl | (simp; done) | (simp [*]; done)), H', ⟨by first | omega | exact Nat.le_refl _⟩, ⟨by (with_reducible repeat (first | apply Kd.R_alloc | apply Kd.R_drewN | apply Kd.R_drew)); exact Kd.R_mono HO191.out (fun _ hk => ⟨hk.1.2, hk.2⟩)⟩, ⟨by (with_reducible repeat (first | apply Kd.R_alloc | apply Kd.R_drewN | apply Kd.R_drew)); exact Kd.R_mono HO195.out (fun _ hk => ⟨hk.1.2, hk.2⟩)⟩, ⟨by (with_reducible repeat (first | apply Kd.R_alloc | apply Kd.R_drewN | apply Kd.R_drew)); exact Kd.R_mono HO199.out (fun _ hk => ⟨hk.1.2, hk.2⟩)⟩, ⟨by (with_reducible repeat (first | refine blk_drewN ?_ _ | refine blk_drew ?_ | refine blk_alloc ?_ _)); exact BK187.out⟩, ⟨by (with_reducible repeat (first | refine blk_drewN ?_ _ | refine blk_drew ?_ | refine blk_alloc ?_ _)); exact BK188.out⟩, ⟨by repeat (first | (with_reducible first | exact HB.out | apply below_alloc | apply pw_below_drewN | apply below_drew1 | refine below_set ?_ GE187.out | refine below_set ?_ GE188.out) | exact HB.out)⟩⟩
      · rw [if_neg c17] at H
        have c17b0 : decide (a0_0 ≤ 2) = false := decide_eq_false c17
        clear c17
        have H' := Aside0.mk H
        clear H
        have hnb36 := NB187_188.out
        have hnc36 := NB188_187.out
        have hcz37_0 : w15.cell? ⟨gb187, 0, none⟩ = some (.int .i64 a0_0) := (blk_cell BK187.out 0).trans rfl
        have hcz37_1 : w15.cell? ⟨gb187, 1, none⟩ = some (.int .i64 a0_1) := (blk_cell BK187.out 1).trans rfl
        have hcz37_2 : w15.cell? ⟨gb187, 2, none⟩ = some (.int .i64 a0_2) := (blk_cell BK187.out 2).trans rfl
        have hcz37_3 : w15.cell? ⟨gb187, 3, none⟩ = some (.int .i64 a0_3) := (blk_cell BK187.out 3).trans rfl
        have hcz37_4 : w15.cell? ⟨gb187, 4, none⟩ = some (.int .i64 a0_4) := (blk_cell BK187.out 4).trans rfl
        have hcz37_5 : w15.cell? ⟨gb187, 5, none⟩ = some (.int .i64 a0_5) := (blk_cell BK187.out 5).trans rfl
        have hfz37_0 := blk_frozen BK187.out 0
        have hfz37_1 := blk_frozen BK187.out 1
        have hfz37_2 := blk_frozen BK187.out 2
        have hfz37_3 := blk_frozen BK187.out 3
        have hfz37_4 := blk_frozen BK187.out 4
        have hfz37_5 := blk_frozen BK187.out 5
        go_wp2
        go_meet
        case rel => exact ⟨_, (false), (by first | rfl | (simp; done) | (simp [*]; done)), H', ⟨by first | omega | exact Nat.le_refl _⟩, ⟨by (with_reducible repeat (first | apply Kd.R_alloc | apply Kd.R_drewN | apply Kd.R_drew)); exact Kd.R_mono HO191.out (fun _ hk => ⟨hk.1.2, hk.2⟩)⟩, ⟨by (with_reducible repeat (first | apply Kd.R_alloc | apply Kd.R_drewN | apply Kd.R_drew)); exact Kd.R_mono HO195.out (fun _ hk => ⟨hk.1.2, hk.2⟩)⟩, ⟨by (with_reducible repeat (first | apply Kd.R_alloc | apply Kd.R_drewN | apply Kd.R_drew)); exact Kd.R_mono HO199.out (fun _ hk => ⟨hk.1.2, hk.2⟩)⟩, ⟨by (with_reducible repeat (first | refine blk_drewN ?_ _ | refine blk_drew ?_ | refine blk_alloc ?_ _)); exact BK187.out⟩, ⟨by (with_reducible repeat (first | refine blk_drewN ?_ _ | refine blk_drew ?_ | refine blk_alloc ?_ _)); exact BK188.out⟩, ⟨by repeat (first | (with_reducible first | exact HB.out | apply below_alloc | apply pw_below_drewN | apply below_drew1 | refine below_set ?_ GE187.out | refine below_set ?_ GE188.out) | exact HB.out)⟩⟩
    · rw [if_neg c16] at H
      have c16b0 : decide (0 ≤ a0_0) = false := decide_eq_false c16
      clear c16
      (first | rw [c16b0] | (simp only [i64_w, i32_w]; rw [c16b0]) | skip)
      have H' := Aside0.mk H
      clear H
      have hnb38 := NB187_188.out
      have hnc38 := NB188_187.out
      have hcz39_0 : w15.cell? ⟨gb187, 0, none⟩ = some (.int .i64 a0_0) := (blk_cell BK187.out 0).trans rfl
      have hcz39_1 : w15.cell? ⟨gb187, 1, none⟩ = some (.int .i64 a0_1) := (blk_cell BK187.out 1).trans rfl
      have hcz39_2 : w15.cell? ⟨gb187, 2, none⟩ = some (.int .i64 a0_2) := (blk_cell BK187.out 2).trans rfl
      have hcz39_3 : w15.cell? ⟨gb187, 3, none⟩ = some (.int .i64 a0_3) := (blk_cell BK187.out 3).trans rfl
      have hcz39_4 : w15.cell? ⟨gb187, 4, none⟩ = some (.int .i64 a0_4) := (blk_cell BK187.out 4).trans rfl
      have hcz39_5 : w15.cell? ⟨gb187, 5, none⟩ = some (.int .i64 a0_5) := (blk_cell BK187.out 5).trans rfl
      have hfz39_0 := blk_frozen BK187.out 0
      have hfz39_1 := blk_frozen BK187.out 1
      have hfz39_2 := blk_frozen BK187.out 2
      have hfz39_3 := blk_frozen BK187.out 3
      have hfz39_4 := blk_frozen BK187.out 4
      have hfz39_5 := blk_frozen BK187.out 5
      go_wp2
      go_meet
      case rel => exact ⟨_, (false), (by first | rfl | (simp; done) | (simp [*]; done)), H', ⟨by first | omega | exact Nat.le_refl _⟩, ⟨by (with_reducible repeat (first | apply Kd.R_alloc | apply Kd.R_drewN | apply Kd.R_drew)); exact Kd.R_mono HO191.out (fun _ hk => ⟨hk.1.2, hk.2⟩)⟩, ⟨by (with_reducible repeat (first | apply Kd.R_alloc | apply Kd.R_drewN | apply Kd.R_drew)); exact Kd.R_mono HO195.out (fun _ hk => ⟨hk.1.2, hk.2⟩)⟩, ⟨by (with_reducible repeat (first | apply Kd.R_alloc | apply Kd.R_drewN | apply Kd.R_drew)); exact Kd.R_mono HO199.out (fun _ hk => ⟨hk.1.2, hk.2⟩)⟩, ⟨by (with_reducible repeat (first | refine blk_drewN ?_ _ | refine blk_drew ?_ | refine blk_alloc ?_ _)); exact BK187.out⟩, ⟨by (with_reducible repeat (first | refine blk_drewN ?_ _ | refine blk_drew ?_ | refine blk_alloc ?_ _)); exact BK188.out⟩, ⟨by repeat (first | (with_reducible first | exact HB.out | apply below_alloc | apply pw_below_drewN | apply below_drew1 | refine below_set ?_ GE187.out | refine below_set ?_ GE188.out) | exact HB.out)⟩⟩
  case rest => as_aux_lemma =>
    clear HC6
    try clear c1
    try clear c2
    try clear p2
    try clear c3
    try clear c5
    try clear c7
    try clear c9
    try clear c16
    try clear c16b0
    try clear c17
    try clear c17b0
    try clear c19
    try clear c20
    try clear c20b0
    try clear c21
    try clear c21b0
    try clear c22
    try clear c22b0
    try clear c23
    try clear c23b0
    try clear c24
    try clear c26
    try clear c28
    try clear c30
    try clear c32
    try clear c34
    try clear c36
    try clear c38
    try clear hcz10_0
    try clear hcz10_1
    try clear hcz10_2
    try clear hcz10_3
    try clear hcz10_4
    try clear hcz10_5
    try clear hcz12_0
    try clear hcz12_1
    try clear hcz12_2
    try clear hcz12_3
    try clear hcz12_4
    try clear hcz12_5
    try clear hcz14_0
    try clear hcz14_1
    try clear hcz14_2
    try clear hcz14_3
    try clear hcz14_4
    try clear hcz14_5
    try clear hcz25_0
    try clear hcz25_1
    try clear hcz25_2
    try clear hcz25_3
    try clear hcz25_4
    try clear hcz25_5
    try clear hcz27_0
    try clear hcz27_1
    try clear hcz27_2
    try clear hcz27_3
    try clear hcz27_4
    try clear hcz27_5
    try clear hcz29_0
    try clear hcz29_1
    try clear hcz29_2
    try clear hcz29_3
    try clear hcz29_4
    try clear hcz29_5
    try clear hcz31_0
    try clear hcz31_1
    try clear hcz31_2
    try clear hcz31_3
    try clear hcz31_4
    try clear hcz31_5
    try clear hcz33_0
    try clear hcz33_1
    try clear hcz33_2
    try clear hcz33_3
    try clear hcz33_4
    try clear hcz33_5
    try clear hcz35_0
    try clear hcz35_1
    try clear hcz35_2
    try clear hcz35_3
    try clear hcz35_4
    try clear hcz35_5
    try clear hcz37_0
    try clear hcz37_1
    try clear hcz37_2
    try clear hcz37_3
    try clear hcz37_4
    try clear hcz37_5
    try clear hcz39_0
    try clear hcz39_1
    try clear hcz39_2
    try clear hcz39_3
    try clear hcz39_4
    try clear hcz39_5
    try clear hfz10_0
    try clear hfz10_1
    try clear hfz10_2
    try clear hfz10_3
    try clear hfz10_4
    try clear hfz10_5
    try clear hfz12_0
    try clear hfz12_1
    try clear hfz12_2
    try clear hfz12_3
    try clear hfz12_4
    try clear hfz12_5
    try clear hfz14_0
    try clear hfz14_1
    try clear hfz14_2
    try clear hfz14_3
    try clear hfz14_4
    try clear hfz14_5
    try clear hfz25_0
    try clear hfz25_1
    try clear hfz25_2
    try clear hfz25_3
    try clear hfz25_4
    try clear hfz25_5
    try clear hfz27_0
    try clear hfz27_1
    try clear hfz27_2
    try clear hfz27_3
    try clear hfz27_4
    try clear hfz27_5
    try clear hfz29_0
    try clear hfz29_1
    try clear hfz29_2
    try clear hfz29_3
    try clear hfz29_4
    try clear hfz29_5
    try clear hfz31_0
    try clear hfz31_1
    try clear hfz31_2
    try clear hfz31_3
    try clear hfz31_4
    try clear hfz31_5
    try clear hfz33_0
    try clear hfz33_1
    try clear hfz33_2
    try clear hfz33_3
    try clear hfz33_4
    try clear hfz33_5
    try clear hfz35_0
    try clear hfz35_1
    try clear hfz35_2
    try clear hfz35_3
    try clear hfz35_4
    try clear hfz35_5
    try clear hfz37_0
    try clear hfz37_1
    try clear hfz37_2
    try clear hfz37_3
    try clear hfz37_4
    try clear hfz37_5
    try clear hfz39_0
    try clear hfz39_1
    try clear hfz39_2
    try clear hfz39_3
    try clear hfz39_4
    try clear hfz39_5
    obtain ⟨kq, x73_5, rfl, HA, HJ5, HO_5, HO_7, HO_9, BK187, BK188, HB⟩ := hcut
    cases kq with
    | zero => exact absurd HA.out (by simp [arrearslaw3_InterestFresh.j0])
    | succ kj5 =>
      have H := HA.out
      clear HA
      simp only [arrearslaw3_InterestFresh.j0] at H
      by_cases c40 : x73_5 = true
      · subst c40
        have H1 : (some false) = some r := by rw [if_pos rfl] at H; exact H
        clear H
        have H := H1
        clear H1
        obtain rfl := Option.some.inj H
        go_wp2
        go_ret
        exact ⟨by first | rfl | (simp [errW_none, errW_some] <;> rfl) | (simp [*, errW_none, errW_some] <;> rfl), by repeat (first | (with_reducible first | exact HB.out | apply below_alloc | apply pw_below_drewN | apply below_drew1 | refine below_set ?_ GE187.out | refine below_set ?_ GE188.out) | exact HB.out)⟩
      · replace c40 := Bool.eq_false_iff.mpr c40
        subst c40
        have H1 : (if (t192 != t200) = true then (arrearslaw3_InterestFresh.j1 kj5 t189 t193 t197 true a0_0 a0_1 a0_2 a0_3 a0_4 a0_5) else (if (t189.length : Int) = (t197.length : Int) then ((arrearslaw3_alike.f kj5 t189 t197).bind fun t202 => (if t202 = true then (if t196 = true then (arrearslaw3_InterestFresh.j1 kj5 t189 t193 t197 false a0_0 a0_1 a0_2 a0_3 a0_4 a0_5) else (arrearslaw3_InterestFresh.j1 kj5 t189 t193 t197 ((t193.length : Int) != 0) a0_0 a0_1 a0_2 a0_3 a0_4 a0_5)) else (arrearslaw3_InterestFresh.j1 kj5 t189 t193 t197 true a0_0 a0_1 a0_2 a0_3 a0_4 a0_5))) else (arrearslaw3_InterestFresh.j1 kj5 t189 t193 t197 true a0_0 a0_1 a0_2 a0_3 a0_4 a0_5))) = some r := by rw [if_neg (show ¬ (false = true) by decide)] at H; exact H
        clear H
        have H := H1
        clear H1
        have HC41 := Aside0.mk H
        clear H
        go_upto_region 6 with (fail)
        go_cut [98] (fun v98 wc => ∃ (kq : Nat) (x98_40 : Bool), v98 = .bool x98_40 ∧ Aside0 (arrearslaw3_InterestFresh.j1 kq t189 t193 t197 x98_40 a0_0 a0_1 a0_2 a0_3 a0_4 a0_5 = some r) ∧ Aside0 (kq ≤ kj5) ∧ Aside0 (Kd.R k41 41 wc w.heap.size (fun k_ => some k_ ≠ (v194 : Value).ownBlock ∧ some k_ ≠ (v198 : Value).ownBlock) v190 t189) ∧ Aside0 (Kd.R k41 41 wc w.heap.size (fun k_ => some k_ ≠ (v190 : Value).ownBlock ∧ some k_ ≠ (v198 : Value).ownBlock) v194 t193) ∧ Aside0 (Kd.R k41 41 wc w.heap.size (fun k_ => some k_ ≠ (v190 : Value).ownBlock ∧ some k_ ≠ (v194 : Value).ownBlock) v198 t197) ∧ Aside0 (wc.heap[gb187]? = some (.cells #[.int .i64 a0_0, .int .i64 a0_1, .int .i64 a0_2, .int .i64 a0_3, .int .i64 a0_4, .int .i64 a0_5] 23 (0, 0))) ∧ Aside0 (wc.heap[gb188]? = some (.cells #[.int .i64 a1_0, .int .i64 a1_1, .int .i64 a1_2, .int .i64 a1_3, .int .i64 a1_4, .int .i64 a1_5] 23 (0, 0))) ∧ Aside0 (Below w.heap.size w wc))
        case first => as_aux_lemma =>
          have H := HC41.out
          clear HC41
          by_cases c42 : (t192 != t200) = true
          · rw [if_pos c42] at H
            have c42b0 : (t192 != t200) = true := c42
            (try (have c42b1 : decide (t192 = t200) = false := by simpa using c42))
            (try (have c42b2 : (t192 == t200) = false := by simpa using c42))
            (try (have c42b3 : ¬ (t192 = t200) := by simpa using c42))
            clear c42
            (first | rw [c42b0] | (simp only [i64_w, i32_w]; rw [c42b0]) | skip)
            have H' := Aside0.mk H
            clear H
            go_wp2
            go_meet
            case rel => exact ⟨_, (true), (by first | rfl | (simp; done) | (simp [*]; done)), H', ⟨by have := HJ5.out; first | omega | exact Nat.le_refl _⟩, ⟨by (with_reducible repeat (first | apply Kd.R_alloc | apply Kd.R_drewN | apply Kd.R_drew)); exact HO_5.out⟩, ⟨by (with_reducible repeat (first | apply Kd.R_alloc | apply Kd.R_drewN | apply Kd.R_drew)); exact HO_7.out⟩, ⟨by (with_reducible repeat (first | apply Kd.R_alloc | apply Kd.R_drewN | apply Kd.R_drew)); exact HO_9.out⟩, ⟨by (with_reducible repeat (first | refine blk_drewN ?_ _ | refine blk_drew ?_ | refine blk_alloc ?_ _)); exact BK187.out⟩, ⟨by (with_reducible repeat (first | refine blk_drewN ?_ _ | refine blk_drew ?_ | refine blk_alloc ?_ _)); exact BK188.out⟩, ⟨by repeat (first | (with_reducible first | exact HB.out | apply below_alloc | apply pw_below_drewN | apply below_drew1 | refine below_set ?_ GE187.out | refine below_set ?_ GE188.out) | exact HB.out)⟩⟩
          · rw [if_neg c42] at H
            have c42b0 : (t192 != t200) = false := by simpa using c42
            (try (have c42b1 : decide (t192 = t200) = true := by simpa using c42))
            (try (have c42b2 : (t192 == t200) = true := by simpa using c42))
            clear c42
            (first | rw [c42b0] | (simp only [i64_w, i32_w]; rw [c42b0]) | skip)
            by_cases c43 : (t189.length : Int) = (t197.length : Int)
            · rw [if_pos c43] at H
              have c43b0 : ((t189.length : Int) == (t197.length : Int)) = true := beq_iff_eq.mpr c43
              have c43b1 : ((t189.length : Int) != (t197.length : Int)) = false := bne_eq_false_iff_eq.mpr c43
              have c43b2 : (t189.length == t197.length) = true := by first | simpa using c43 | (simp at c43 ⊢; omega)
              clear c43
              replace H := Option.bind_eq_some_iff.mp H
              obtain ⟨t202, A440, H⟩ := H
              replace H : (if t202 = true then (if t196 = true then (arrearslaw3_InterestFresh.j1 kj5 t189 t193 t197 false a0_0 a0_1 a0_2 a0_3 a0_4 a0_5) else (arrearslaw3_InterestFresh.j1 kj5 t189 t193 t197 ((t193.length : Int) != 0) a0_0 a0_1 a0_2 a0_3 a0_4 a0_5)) else (arrearslaw3_InterestFresh.j1 kj5 t189 t193 t197 true a0_0 a0_1 a0_2 a0_3 a0_4 a0_5)) = some r := H
              have A44 := Aside0.mk A440
              clear A440
              by_cases c45 : t202 = true
              · subst c45
                have H1 : (if t196 = true then (arrearslaw3_InterestFresh.j1 kj5 t189 t193 t197 false a0_0 a0_1 a0_2 a0_3 a0_4 a0_5) else (arrearslaw3_InterestFresh.j1 kj5 t189 t193 t197 ((t193.length : Int) != 0) a0_0 a0_1 a0_2 a0_3 a0_4 a0_5)) = some r := by rw [if_pos rfl] at H; exact H
                clear H
                have H := H1
                clear H1
                by_cases c46 : t196 = true
                · subst c46
                  have H1 : (arrearslaw3_InterestFresh.j1 kj5 t189 t193 t197 false a0_0 a0_1 a0_2 a0_3 a0_4 a0_5) = some r := by rw [if_pos rfl] at H; exact H
                  clear H
                  have H := H1
                  clear H1
                  have H' := Aside0.mk H
                  clear H
                  obtain ⟨Ao47, co47, eo47⟩ := Kd.R_slice HO_5.out
                  subst eo47
                  obtain ⟨Ao48, co48, eo48⟩ := Kd.R_slice HO_9.out
                  subst eo48
                  go_wp2_with (first | (go_at_call 9; (with_reducible refine (arrearslaw3_alike.calls kj5 _ _ t189 _ _ t197 true _ ?side1 ?side2 ?side3 ?side4 A44.out).mono ?_); (case side1 => repeat (first | exact (Kd.R_reads' HO_5.out).2.2 | (with_reducible refine Kd.C_alloc ?_ _) | (with_reducible refine Kd.C_drewN ?_ _) | (with_reducible refine Kd.C_drew ?_))); (case side2 => exact (Kd.R_reads' HO_5.out).2.1); (case side3 => repeat (first | exact (Kd.R_reads' HO_9.out).2.2 | (with_reducible refine Kd.C_alloc ?_ _) | (with_reducible refine Kd.C_drewN ?_ _) | (with_reducible refine Kd.C_drew ?_))); (case side4 => exact (Kd.R_reads' HO_9.out).2.1); rintro e w' ⟨rfl, ⟨nd, rfl⟩⟩))
                  go_meet
                  case rel => exact ⟨_, (false), (by first | rfl | (simp; done) | (simp [*]; done)), H', ⟨by have := HJ5.out; first | omega | exact Nat.le_refl _⟩, ⟨by (with_reducible repeat (first | apply Kd.R_alloc | apply Kd.R_drewN | apply Kd.R_drew)); exact HO_5.out⟩, ⟨by (with_reducible repeat (first | apply Kd.R_alloc | apply Kd.R_drewN | apply Kd.R_drew)); exact HO_7.out⟩, ⟨by (with_reducible repeat (first | apply Kd.R_alloc | apply Kd.R_drewN | apply Kd.R_drew)); exact HO_9.out⟩, ⟨by (with_reducible repeat (first | refine blk_drewN ?_ _ | refine blk_drew ?_ | refine blk_alloc ?_ _)); exact BK187.out⟩, ⟨by (with_reducible repeat (first | refine blk_drewN ?_ _ | refine blk_drew ?_ | refine blk_alloc ?_ _)); exact BK188.out⟩, ⟨by repeat (first | (with_reducible first | exact HB.out | apply below_alloc | apply pw_below_drewN | apply below_drew1 | refine below_set ?_ GE187.out | refine below_set ?_ GE188.out) | exact HB.out)⟩⟩
                · replace c46 := Bool.eq_false_iff.mpr c46
                  subst c46
                  have H1 : (arrearslaw3_InterestFresh.j1 kj5 t189 t193 t197 ((t193.length : Int) != 0) a0_0 a0_1 a0_2 a0_3 a0_4 a0_5) = some r := by rw [if_neg (show ¬ (false = true) by decide)] at H; exact H
                  clear H
                  have H := H1
                  clear H1
                  have H' := Aside0.mk H
                  clear H
                  obtain ⟨Ao49, co49, eo49⟩ := Kd.R_slice HO_5.out
                  subst eo49
                  obtain ⟨Ao50, co50, eo50⟩ := Kd.R_slice HO_9.out
                  subst eo50
                  go_wp2_with (first | (go_at_call 9; (with_reducible refine (arrearslaw3_alike.calls kj5 _ _ t189 _ _ t197 true _ ?side1 ?side2 ?side3 ?side4 A44.out).mono ?_); (case side1 => repeat (first | exact (Kd.R_reads' HO_5.out).2.2 | (with_reducible refine Kd.C_alloc ?_ _) | (with_reducible refine Kd.C_drewN ?_ _) | (with_reducible refine Kd.C_drew ?_))); (case side2 => exact (Kd.R_reads' HO_5.out).2.1); (case side3 => repeat (first | exact (Kd.R_reads' HO_9.out).2.2 | (with_reducible refine Kd.C_alloc ?_ _) | (with_reducible refine Kd.C_drewN ?_ _) | (with_reducible refine Kd.C_drew ?_))); (case side4 => exact (Kd.R_reads' HO_9.out).2.1); rintro e w' ⟨rfl, ⟨nd, rfl⟩⟩; obtain ⟨Ao51, co51, eo51⟩ := Kd.R_slice HO_7.out; subst eo51))
                  go_meet
                  case rel => exact ⟨_, (((t193.length : Int) != 0)), (by first | rfl | (simp; done) | (simp [*]; done)), H', ⟨by have := HJ5.out; first | omega | exact Nat.le_refl _⟩, ⟨by (with_reducible repeat (first | apply Kd.R_alloc | apply Kd.R_drewN | apply Kd.R_drew)); exact HO_5.out⟩, ⟨by (with_reducible repeat (first | apply Kd.R_alloc | apply Kd.R_drewN | apply Kd.R_drew)); exact HO_7.out⟩, ⟨by (with_reducible repeat (first | apply Kd.R_alloc | apply Kd.R_drewN | apply Kd.R_drew)); exact HO_9.out⟩, ⟨by (with_reducible repeat (first | refine blk_drewN ?_ _ | refine blk_drew ?_ | refine blk_alloc ?_ _)); exact BK187.out⟩, ⟨by (with_reducible repeat (first | refine blk_drewN ?_ _ | refine blk_drew ?_ | refine blk_alloc ?_ _)); exact BK188.out⟩, ⟨by repeat (first | (with_reducible first | exact HB.out | apply below_alloc | apply pw_below_drewN | apply below_drew1 | refine below_set ?_ GE187.out | refine below_set ?_ GE188.out) | exact HB.out)⟩⟩
              · replace c45 := Bool.eq_false_iff.mpr c45
                subst c45
                have H1 : (arrearslaw3_InterestFresh.j1 kj5 t189 t193 t197 true a0_0 a0_1 a0_2 a0_3 a0_4 a0_5) = some r := by rw [if_neg (show ¬ (false = true) by decide)] at H; exact H
                clear H
                have H := H1
                clear H1
                have H' := Aside0.mk H
                clear H
                obtain ⟨Ao52, co52, eo52⟩ := Kd.R_slice HO_5.out
                subst eo52
                obtain ⟨Ao53, co53, eo53⟩ := Kd.R_slice HO_9.out
                subst eo53
                go_wp2_with (first | (go_at_call 9; (with_reducible refine (arrearslaw3_alike.calls kj5 _ _ t189 _ _ t197 false _ ?side1 ?side2 ?side3 ?side4 A44.out).mono ?_); (case side1 => repeat (first | exact (Kd.R_reads' HO_5.out).2.2 | (with_reducible refine Kd.C_alloc ?_ _) | (with_reducible refine Kd.C_drewN ?_ _) | (with_reducible refine Kd.C_drew ?_))); (case side2 => exact (Kd.R_reads' HO_5.out).2.1); (case side3 => repeat (first | exact (Kd.R_reads' HO_9.out).2.2 | (with_reducible refine Kd.C_alloc ?_ _) | (with_reducible refine Kd.C_drewN ?_ _) | (with_reducible refine Kd.C_drew ?_))); (case side4 => exact (Kd.R_reads' HO_9.out).2.1); rintro e w' ⟨rfl, ⟨nd, rfl⟩⟩))
                go_meet
                case rel => exact ⟨_, (true), (by first | rfl | (simp; done) | (simp [*]; done)), H', ⟨by have := HJ5.out; first | omega | exact Nat.le_refl _⟩, ⟨by (with_reducible repeat (first | apply Kd.R_alloc | apply Kd.R_drewN | apply Kd.R_drew)); exact HO_5.out⟩, ⟨by (with_reducible repeat (first | apply Kd.R_alloc | apply Kd.R_drewN | apply Kd.R_drew)); exact HO_7.out⟩, ⟨by (with_reducible repeat (first | apply Kd.R_alloc | apply Kd.R_drewN | apply Kd.R_drew)); exact HO_9.out⟩, ⟨by (with_reducible repeat (first | refine blk_drewN ?_ _ | refine blk_drew ?_ | refine blk_alloc ?_ _)); exact BK187.out⟩, ⟨by (with_reducible repeat (first | refine blk_drewN ?_ _ | refine blk_drew ?_ | refine blk_alloc ?_ _)); exact BK188.out⟩, ⟨by repeat (first | (with_reducible first | exact HB.out | apply below_alloc | apply pw_below_drewN | apply below_drew1 | refine below_set ?_ GE187.out | refine below_set ?_ GE188.out) | exact HB.out)⟩⟩
            · rw [if_neg c43] at H
              have c43b0 : ((t189.length : Int) == (t197.length : Int)) = false := beq_eq_false_iff_ne.mpr c43
              have c43b1 : ((t189.length : Int) != (t197.length : Int)) = true := bne_iff_ne.mpr c43
              have c43b2 : (t189.length == t197.length) = false := by first | simpa using c43 | (simp at c43 ⊢; omega)
              have H' := Aside0.mk H
              clear H
              obtain ⟨Ao54, co54, eo54⟩ := Kd.R_slice HO_5.out
              subst eo54
              obtain ⟨Ao55, co55, eo55⟩ := Kd.R_slice HO_9.out
              subst eo55
              go_wp2
              go_meet
              case rel => exact ⟨_, (true), (by first | rfl | (simp; done) | (simp [*]; done)), H', ⟨by have := HJ5.out; first | omega | exact Nat.le_refl _⟩, ⟨by (with_reducible repeat (first | apply Kd.R_alloc | apply Kd.R_drewN | apply Kd.R_drew)); exact HO_5.out⟩, ⟨by (with_reducible repeat (first | apply Kd.R_alloc | apply Kd.R_drewN | apply Kd.R_drew)); exact HO_7.out⟩, ⟨by (with_reducible repeat (first | apply Kd.R_alloc | apply Kd.R_drewN | apply Kd.R_drew)); exact HO_9.out⟩, ⟨by (with_reducible repeat (first | refine blk_drewN ?_ _ | refine blk_drew ?_ | refine blk_alloc ?_ _)); exact BK187.out⟩, ⟨by (with_reducible repeat (first | refine blk_drewN ?_ _ | refine blk_drew ?_ | refine blk_alloc ?_ _)); exact BK188.out⟩, ⟨by repeat (first | (with_reducible first | exact HB.out | apply below_alloc | apply pw_below_drewN | apply below_drew1 | refine below_set ?_ GE187.out | refine below_set ?_ GE188.out) | exact HB.out)⟩⟩
        case rest => as_aux_lemma =>
          clear HC41
          try clear c1
          try clear c2
          try clear p2
          try clear c3
          try clear c4
          try clear c5
          try clear c7
          try clear c9
          try clear c16
          try clear c16b0
          try clear c17
          try clear c17b0
          try clear c19
          try clear c20
          try clear c20b0
          try clear c21
          try clear c21b0
          try clear c22
          try clear c22b0
          try clear c23
          try clear c23b0
          try clear c24
          try clear c26
          try clear c28
          try clear c30
          try clear c32
          try clear c34
          try clear c36
          try clear c38
          try clear c40
          try clear c42
          try clear c42b0
          try clear c42b1
          try clear c42b2
          try clear c43
          try clear c43b0
          try clear c43b1
          try clear c43b2
          try clear c45
          try clear c46
          try clear hcz10_0
          try clear hcz10_1
          try clear hcz10_2
          try clear hcz10_3
          try clear hcz10_4
          try clear hcz10_5
          try clear hcz12_0
          try clear hcz12_1
          try clear hcz12_2
          try clear hcz12_3
          try clear hcz12_4
          try clear hcz12_5
          try clear hcz14_0
          try clear hcz14_1
          try clear hcz14_2
          try clear hcz14_3
          try clear hcz14_4
          try clear hcz14_5
          try clear hcz25_0
          try clear hcz25_1
          try clear hcz25_2
          try clear hcz25_3
          try clear hcz25_4
          try clear hcz25_5
          try clear hcz27_0
          try clear hcz27_1
          try clear hcz27_2
          try clear hcz27_3
          try clear hcz27_4
          try clear hcz27_5
          try clear hcz29_0
          try clear hcz29_1
          try clear hcz29_2
          try clear hcz29_3
          try clear hcz29_4
          try clear hcz29_5
          try clear hcz31_0
          try clear hcz31_1
          try clear hcz31_2
          try clear hcz31_3
          try clear hcz31_4
          try clear hcz31_5
          try clear hcz33_0
          try clear hcz33_1
          try clear hcz33_2
          try clear hcz33_3
          try clear hcz33_4
          try clear hcz33_5
          try clear hcz35_0
          try clear hcz35_1
          try clear hcz35_2
          try clear hcz35_3
          try clear hcz35_4
          try clear hcz35_5
          try clear hcz37_0
          try clear hcz37_1
          try clear hcz37_2
          try clear hcz37_3
          try clear hcz37_4
          try clear hcz37_5
          try clear hcz39_0
          try clear hcz39_1
          try clear hcz39_2
          try clear hcz39_3
          try clear hcz39_4
          try clear hcz39_5
          try clear hfz10_0
          try clear hfz10_1
          try clear hfz10_2
          try clear hfz10_3
          try clear hfz10_4
          try clear hfz10_5
          try clear hfz12_0
          try clear hfz12_1
          try clear hfz12_2
          try clear hfz12_3
          try clear hfz12_4
          try clear hfz12_5
          try clear hfz14_0
          try clear hfz14_1
          try clear hfz14_2
          try clear hfz14_3
          try clear hfz14_4
          try clear hfz14_5
          try clear hfz25_0
          try clear hfz25_1
          try clear hfz25_2
          try clear hfz25_3
          try clear hfz25_4
          try clear hfz25_5
          try clear hfz27_0
          try clear hfz27_1
          try clear hfz27_2
          try clear hfz27_3
          try clear hfz27_4
          try clear hfz27_5
          try clear hfz29_0
          try clear hfz29_1
          try clear hfz29_2
          try clear hfz29_3
          try clear hfz29_4
          try clear hfz29_5
          try clear hfz31_0
          try clear hfz31_1
          try clear hfz31_2
          try clear hfz31_3
          try clear hfz31_4
          try clear hfz31_5
          try clear hfz33_0
          try clear hfz33_1
          try clear hfz33_2
          try clear hfz33_3
          try clear hfz33_4
          try clear hfz33_5
          try clear hfz35_0
          try clear hfz35_1
          try clear hfz35_2
          try clear hfz35_3
          try clear hfz35_4
          try clear hfz35_5
          try clear hfz37_0
          try clear hfz37_1
          try clear hfz37_2
          try clear hfz37_3
          try clear hfz37_4
          try clear hfz37_5
          try clear hfz39_0
          try clear hfz39_1
          try clear hfz39_2
          try clear hfz39_3
          try clear hfz39_4
          try clear hfz39_5
          try clear p2
          obtain ⟨kq, x98_40, rfl, HA, HJ40, HO_5, HO_7, HO_9, BK187, BK188, HB⟩ := hcut
          cases kq with
          | zero => exact absurd HA.out (by simp [arrearslaw3_InterestFresh.j1])
          | succ kj40 =>
            have H := HA.out
            clear HA
            simp only [arrearslaw3_InterestFresh.j1] at H
            by_cases c56 : x98_40 = true
            · subst c56
              have H1 : (some false) = some r := by rw [if_pos rfl] at H; exact H
              clear H
              have H := H1
              clear H1
              obtain rfl := Option.some.inj H
              go_wp2
              go_ret
              exact ⟨by first | rfl | (simp [errW_none, errW_some] <;> rfl) | (simp [*, errW_none, errW_some] <;> rfl), by repeat (first | (with_reducible first | exact HB.out | apply below_alloc | apply pw_below_drewN | apply below_drew1 | refine below_set ?_ GE187.out | refine below_set ?_ GE188.out) | exact HB.out)⟩
            · replace c56 := Bool.eq_false_iff.mpr c56
              subst c56
              have H1 : ((some (([] : List (S41)) : List (S41))).bind fun y203 => (if y203.length + t189.length < 4398046511104 then ((some (([] : List (S41)) : List (S41))).bind fun y209 => (if y209.length + t193.length < 4398046511104 then (arrearslaw3_InterestFresh.l0 kj40 t189 t193 t197 (y203 ++ t189) (y209 ++ t193) 0 a0_0 a0_1 a0_2 a0_3 a0_4 a0_5) else (none))) else (none))) = some r := by rw [if_neg (show ¬ (false = true) by decide)] at H; exact H
              clear H
              have H := H1
              clear H1
              obtain ⟨y203, hy203⟩ : ∃ y_ : List (S41), y_ = (([] : List (S41))) := ⟨_, rfl⟩
              replace H : (if y203.length + t189.length < 4398046511104 then ((some (([] : List (S41)) : List (S41))).bind fun y209 => (if y209.length + t193.length < 4398046511104 then (arrearslaw3_InterestFresh.l0 kj40 t189 t193 t197 (y203 ++ t189) (y209 ++ t193) 0 a0_0 a0_1 a0_2 a0_3 a0_4 a0_5) else (none))) else (none)) = some r := by first | (rw [hy203]; with_reducible exact H) | (have H2_ := (Option.bind_some _ _).symm.trans H; rw [hy203]; with_reducible exact H2_) | (have H2_ := (Option.bind_some _ _).symm.trans H; with_reducible exact H2_) | with_reducible exact H | (rw [hy203]; exact H) | exact H
              have Ny203 := Aside0.mk hy203
              clear hy203
              by_cases c57 : y203.length + t189.length < 4398046511104
              · rw [if_pos c57] at H
                have LMc57 := Aside0.mk c57
                clear c57
                obtain ⟨y206, hy206⟩ : ∃ y_ : List (S41), y_ = (y203 ++ t189) := ⟨_, rfl⟩
                replace H : ((some (([] : List (S41)) : List (S41))).bind fun y209 => (if y209.length + t193.length < 4398046511104 then (arrearslaw3_InterestFresh.l0 kj40 t189 t193 t197 y206 (y209 ++ t193) 0 a0_0 a0_1 a0_2 a0_3 a0_4 a0_5) else (none))) = some r := by first | (rw [hy206]; with_reducible exact H) | (have H2_ := (Option.bind_some _ _).symm.trans H; rw [hy206]; with_reducible exact H2_) | (have H2_ := (Option.bind_some _ _).symm.trans H; with_reducible exact H2_) | with_reducible exact H | (rw [hy206]; exact H) | exact H
                have Ny206 := Aside0.mk hy206
                clear hy206
                obtain ⟨y209, hy209⟩ : ∃ y_ : List (S41), y_ = (([] : List (S41))) := ⟨_, rfl⟩
                replace H : (if y209.length + t193.length < 4398046511104 then (arrearslaw3_InterestFresh.l0 kj40 t189 t193 t197 y206 (y209 ++ t193) 0 a0_0 a0_1 a0_2 a0_3 a0_4 a0_5) else (none)) = some r := by first | (rw [hy209]; with_reducible exact H) | (have H2_ := (Option.bind_some _ _).symm.trans H; rw [hy209]; with_reducible exact H2_) | (have H2_ := (Option.bind_some _ _).symm.trans H; with_reducible exact H2_) | with_reducible exact H | (rw [hy209]; exact H) | exact H
                have Ny209 := Aside0.mk hy209
                clear hy209
                by_cases c58 : y209.length + t193.length < 4398046511104
                · rw [if_pos c58] at H
                  have LMc58 := Aside0.mk c58
                  clear c58
                  obtain ⟨y212, hy212⟩ : ∃ y_ : List (S41), y_ = (y209 ++ t193) := ⟨_, rfl⟩
                  replace H : (arrearslaw3_InterestFresh.l0 kj40 t189 t193 t197 y206 y212 0 a0_0 a0_1 a0_2 a0_3 a0_4 a0_5) = some r := by first | (rw [hy212]; with_reducible exact H) | (have H2_ := (Option.bind_some _ _).symm.trans H; rw [hy212]; with_reducible exact H2_) | (have H2_ := (Option.bind_some _ _).symm.trans H; with_reducible exact H2_) | with_reducible exact H | (rw [hy212]; exact H) | exact H
                  have Ny212 := Aside0.mk hy212
                  clear hy212
                  have H' := Aside0.mk H
                  clear H
                  go_wp2_with (first | ((with_reducible refine gate_dst (N := 99) rfl ?_); (try (refine gate_guard (by rfl) ?_; dsimp only)); refine Kd.R_lit k41 _ 41 ?hg (N := 99) ?hd (xs := ([] : List (S41))) (inner := []) (ok := fun _ => True) (okp := fun _ => True) ?hr ?hp (fun _ hk => hk) trivial (Below.refl _ _) (Nat.le_refl _) (by simp) ?_; (case hd => rfl); (case hg => rfl); (case hr => first | (go_simp; done) | (go_simp; rfl)); (case hp => exact (Reps.none _ _)); intro v204 w59 ho60 hb hg_ hnew_; clear hg_ hnew_; (first | rw [← Ny203.out] at ho60 | (simp only [Int.reduceToNat] at ho60; rw [← Ny203.out] at ho60)); have n0_ := Aside0.mk (Kd.R_elder' (by (with_reducible repeat (first | apply Kd.R_alloc | apply Kd.R_drewN | apply Kd.R_drew)); exact HO_5.out) (Kd.R_base ho60) hb); have n1_ := Aside0.mk (Kd.R_elder' (by (with_reducible repeat (first | apply Kd.R_alloc | apply Kd.R_drewN | apply Kd.R_drew)); exact HO_7.out) (Kd.R_base ho60) hb); have n2_ := Aside0.mk (Kd.R_elder' (by (with_reducible repeat (first | apply Kd.R_alloc | apply Kd.R_drewN | apply Kd.R_drew)); exact HO_9.out) (Kd.R_base ho60) hb); have n3_ := Aside0.mk (Kd.R_lower (Kd.R_new' (Kd.R_new' (Kd.R_new' ho60 (Kd.R_lt (by (with_reducible repeat (first | apply Kd.R_alloc | apply Kd.R_drewN | apply Kd.R_drew)); exact HO_5.out))) (Kd.R_lt (by (with_reducible repeat (first | apply Kd.R_alloc | apply Kd.R_drewN | apply Kd.R_drew)); exact HO_7.out))) (Kd.R_lt (by (with_reducible repeat (first | apply Kd.R_alloc | apply Kd.R_drewN | apply Kd.R_drew)); exact HO_9.out))) (below_size (by repeat (first | (with_reducible first | exact HB.out | apply below_alloc | apply pw_below_drewN | apply below_drew1 | refine below_set ?_ GE187.out | refine below_set ?_ GE188.out) | exact HB.out)))); have n4_ := Aside0.mk (blk_below (g := gb187) (o := .cells #[.int .i64 a0_0, .int .i64 a0_1, .int .i64 a0_2, .int .i64 a0_3, .int .i64 a0_4, .int .i64 a0_5] 23 (0, 0)) (blk_of BK187.out (fun h_ => by (with_reducible repeat (first | refine blk_drewN ?_ _ | refine blk_drew ?_ | refine blk_alloc ?_ _)); exact h_)) hb); have n5_ := Aside0.mk (blk_below (g := gb188) (o := .cells #[.int .i64 a1_0, .int .i64 a1_1, .int .i64 a1_2, .int .i64 a1_3, .int .i64 a1_4, .int .i64 a1_5] 23 (0, 0)) (blk_of BK188.out (fun h_ => by (with_reducible repeat (first | refine blk_drewN ?_ _ | refine blk_drew ?_ | refine blk_alloc ?_ _)); exact h_)) hb); have n6_ := Aside0.mk (below_step (by repeat (first | (with_reducible first | exact HB.out | apply below_alloc | apply pw_below_drewN | apply below_drew1 | refine below_set ?_ GE187.out | refine below_set ?_ GE188.out) | exact HB.out)) hb); clear HO_5; clear HO_7; clear HO_9; clear BK187; clear BK188; clear HB; have HO_5 := n0_; have HO_7 := n1_; have HO_9 := n2_; have HO205 := n3_; have BK187 := n4_; have BK188 := n5_; have HB := n6_; clear n0_ n1_ n2_ n3_ n4_ n5_ n6_; clear hb ho60; obtain ⟨Ao62, co62, eo62⟩ := Kd.R_slice HO_5.out; subst eo62) | ((with_reducible refine gate_builtin (b := .append) (xs := #[.tmp 99, .tmp 100]) rfl ?_); (try (refine gate_guard (by rfl) ?_; dsimp only)); at_builtin; refine Kd.R_append_rows k41 (w0 := w) w.heap.size rfl (.tmp 99) (.tmp 100) 26 41 (.agg #[(.int .i64 0), (.int .i64 0), (.int .i64 0), (.bool false)]) 32 rfl Tryd.underlying26 info41 rfl (by decide) (by omega) v204 y203 t189 _ _ _ (fun k_ => some k_ ≠ (.slice Ao62 t189.length co62 : Value).ownBlock ∧ some k_ ≠ (v194 : Value).ownBlock ∧ some k_ ≠ (v198 : Value).ownBlock) (fun _ => False) rfl rfl ?aO ?aR (fun _ _ h => h) (fun _ h => h.elim) ?aF ?aB ?aS ?aL ?_; (case aR => repeat (first | exact (Kd.R_reads' HO_5.out).2.2 | (with_reducible refine Kd.C_alloc ?_ _) | (with_reducible refine Kd.C_drewN ?_ _) | (with_reducible refine Kd.C_drew ?_))); (case aB => exact (by repeat (first | (with_reducible first | exact HB.out | apply below_alloc | apply pw_below_drewN | apply below_drew1 | refine below_set ?_ GE187.out | refine below_set ?_ GE188.out) | exact HB.out))); (case aF => exact (fun k_ hk => ⟨Kd.fresh' (Kd.R_lt (by (with_reducible repeat (first | apply Kd.R_alloc | apply Kd.R_drewN | apply Kd.R_drew)); exact HO_5.out)) k_ hk, Kd.fresh' (Kd.R_lt (by (with_reducible repeat (first | apply Kd.R_alloc | apply Kd.R_drewN | apply Kd.R_drew)); exact HO_7.out)) k_ hk, Kd.fresh' (Kd.R_lt (by (with_reducible repeat (first | apply Kd.R_alloc | apply Kd.R_drewN | apply Kd.R_drew)); exact HO_9.out)) k_ hk⟩)); (case aO => exact (by (with_reducible repeat (first | apply Kd.R_alloc | apply Kd.R_drewN | apply Kd.R_drew)); exact Kd.R_mono HO205.out (fun _ hk => ⟨hk.1.1.2, ⟨hk.1.2, hk.2⟩⟩))); (case aS => exact (below_size (by repeat (first | (with_reducible first | exact HB.out | apply below_alloc | apply pw_below_drewN | apply below_drew1 | refine below_set ?_ GE187.out | refine below_set ?_ GE188.out) | exact HB.out)))); (case aL => have := LMc57.out; omega); intro v207 w61 ho hb hg hat; rw [← Ny206.out] at ho; have n0_ := Aside0.mk (Kd.R_after (ok := (fun k_ => some k_ ≠ (v194 : Value).ownBlock ∧ some k_ ≠ (v198 : Value).ownBlock)) (by (with_reducible repeat (first | apply Kd.R_alloc | apply Kd.R_drewN | apply Kd.R_drew)); exact HO_5.out) hg hat); have n1_ := Aside0.mk (Kd.R_after (ok := (fun k_ => some k_ ≠ (.slice Ao62 t189.length co62 : Value).ownBlock ∧ some k_ ≠ (v198 : Value).ownBlock)) (by (with_reducible repeat (first | apply Kd.R_alloc | apply Kd.R_drewN | apply Kd.R_drew)); exact HO_7.out) hg hat); have n2_ := Aside0.mk (Kd.R_after (ok := (fun k_ => some k_ ≠ (.slice Ao62 t189.length co62 : Value).ownBlock ∧ some k_ ≠ (v194 : Value).ownBlock)) (by (with_reducible repeat (first | apply Kd.R_alloc | apply Kd.R_drewN | apply Kd.R_drew)); exact HO_9.out) hg hat); have n3_ := Aside0.mk (blk_grown (g := gb187) (o := .cells #[.int .i64 a0_0, .int .i64 a0_1, .int .i64 a0_2, .int .i64 a0_3, .int .i64 a0_4, .int .i64 a0_5] 23 (0, 0)) (blk_of BK187.out (fun h_ => by (with_reducible repeat (first | refine blk_drewN ?_ _ | refine blk_drew ?_ | refine blk_alloc ?_ _)); exact h_)) hg (Kd.R_ne HO205.out BK187.out (by decide))); have n4_ := Aside0.mk (blk_grown (g := gb188) (o := .cells #[.int .i64 a1_0, .int .i64 a1_1, .int .i64 a1_2, .int .i64 a1_3, .int .i64 a1_4, .int .i64 a1_5] 23 (0, 0)) (blk_of BK188.out (fun h_ => by (with_reducible repeat (first | refine blk_drewN ?_ _ | refine blk_drew ?_ | refine blk_alloc ?_ _)); exact h_)) hg (Kd.R_ne HO205.out BK188.out (by decide))); have n5_ := Aside0.mk (hb); have n6_ := Aside0.mk (ho); clear HO_5; clear HO_7; clear HO_9; clear BK187; clear BK188; clear HB; clear HO205; have HO_5 := n0_; have HO_7 := n1_; have HO_9 := n2_; have BK187 := n3_; have BK188 := n4_; have HB := n5_; have HO208 := n6_; clear n0_ n1_ n2_ n3_ n4_ n5_ n6_; clear ho hb hg hat) | ((with_reducible refine gate_dst (N := 102) rfl ?_); (try (refine gate_guard (by rfl) ?_; dsimp only)); refine Kd.R_lit k41 _ 41 ?hg (N := 102) ?hd (xs := ([] : List (S41))) (inner := []) (ok := fun _ => True) (okp := fun _ => True) ?hr ?hp (fun _ hk => hk) trivial (Below.refl _ _) (Nat.le_refl _) (by simp) ?_; (case hd => rfl); (case hg => rfl); (case hr => first | (go_simp; done) | (go_simp; rfl)); (case hp => exact (Reps.none _ _)); intro v210 w63 ho64 hb hg_ hnew_; clear hg_ hnew_; (first | rw [← Ny209.out] at ho64 | (simp only [Int.reduceToNat] at ho64; rw [← Ny209.out] at ho64)); have n0_ := Aside0.mk (Kd.R_elder' (by (with_reducible repeat (first | apply Kd.R_alloc | apply Kd.R_drewN | apply Kd.R_drew)); exact HO_5.out) (Kd.R_base ho64) hb); have n1_ := Aside0.mk (Kd.R_elder' (by (with_reducible repeat (first | apply Kd.R_alloc | apply Kd.R_drewN | apply Kd.R_drew)); exact HO_7.out) (Kd.R_base ho64) hb); have n2_ := Aside0.mk (Kd.R_elder' (by (with_reducible repeat (first | apply Kd.R_alloc | apply Kd.R_drewN | apply Kd.R_drew)); exact HO_9.out) (Kd.R_base ho64) hb); have n3_ := Aside0.mk (Kd.R_elder' (by (with_reducible repeat (first | apply Kd.R_alloc | apply Kd.R_drewN | apply Kd.R_drew)); exact HO208.out) (Kd.R_base ho64) hb); have n4_ := Aside0.mk (Kd.R_lower (Kd.R_new' (Kd.R_new' (Kd.R_new' (Kd.R_new' ho64 (Kd.R_lt (by (with_reducible repeat (first | apply Kd.R_alloc | apply Kd.R_drewN | apply Kd.R_drew)); exact HO_5.out))) (Kd.R_lt (by (with_reducible repeat (first | apply Kd.R_alloc | apply Kd.R_drewN | apply Kd.R_drew)); exact HO_7.out))) (Kd.R_lt (by (with_reducible repeat (first | apply Kd.R_alloc | apply Kd.R_drewN | apply Kd.R_drew)); exact HO_9.out))) (Kd.R_lt (by (with_reducible repeat (first | apply Kd.R_alloc | apply Kd.R_drewN | apply Kd.R_drew)); exact HO208.out))) (below_size (by repeat (first | (with_reducible first | exact HB.out | apply below_alloc | apply pw_below_drewN | apply below_drew1 | refine below_set ?_ GE187.out | refine below_set ?_ GE188.out) | exact HB.out)))); have n5_ := Aside0.mk (blk_below (g := gb187) (o := .cells #[.int .i64 a0_0, .int .i64 a0_1, .int .i64 a0_2, .int .i64 a0_3, .int .i64 a0_4, .int .i64 a0_5] 23 (0, 0)) (blk_of BK187.out (fun h_ => by (with_reducible repeat (first | refine blk_drewN ?_ _ | refine blk_drew ?_ | refine blk_alloc ?_ _)); exact h_)) hb); have n6_ := Aside0.mk (blk_below (g := gb188) (o := .cells #[.int .i64 a1_0, .int .i64 a1_1, .int .i64 a1_2, .int .i64 a1_3, .int .i64 a1_4, .int .i64 a1_5] 23 (0, 0)) (blk_of BK188.out (fun h_ => by (with_reducible repeat (first | refine blk_drewN ?_ _ | refine blk_drew ?_ | refine blk_alloc ?_ _)); exact h_)) hb); have n7_ := Aside0.mk (below_step (by repeat (first | (with_reducible first | exact HB.out | apply below_alloc | apply pw_below_drewN | apply below_drew1 | refine below_set ?_ GE187.out | refine below_set ?_ GE188.out) | exact HB.out)) hb); clear HO_5; clear HO_7; clear HO_9; clear HO208; clear BK187; clear BK188; clear HB; have HO_5 := n0_; have HO_7 := n1_; have HO_9 := n2_; have HO208 := n3_; have HO211 := n4_; have BK187 := n5_; have BK188 := n6_; have HB := n7_; clear n0_ n1_ n2_ n3_ n4_ n5_ n6_ n7_; clear hb ho64; obtain ⟨Ao66, co66, eo66⟩ := Kd.R_slice HO_7.out; subst eo66) | ((with_reducible refine gate_builtin (b := .append) (xs := #[.tmp 102, .tmp 103]) rfl ?_); (try (refine gate_guard (by rfl) ?_; dsimp only)); at_builtin; refine Kd.R_append_rows k41 (w0 := w) w.heap.size rfl (.tmp 102) (.tmp 103) 26 41 (.agg #[(.int .i64 0), (.int .i64 0), (.int .i64 0), (.bool false)]) 32 rfl Tryd.underlying26 info41 rfl (by decide) (by omega) v210 y209 t193 _ _ _ (fun k_ => some k_ ≠ (.slice Ao62 t189.length co62 : Value).ownBlock ∧ some k_ ≠ (.slice Ao66 t193.length co66 : Value).ownBlock ∧ some k_ ≠ (v198 : Value).ownBlock ∧ some k_ ≠ (v207 : Value).ownBlock) (fun _ => False) rfl rfl ?aO ?aR (fun _ _ h => h) (fun _ h => h.elim) ?aF ?aB ?aS ?aL ?_; (case aR => repeat (first | exact (Kd.R_reads' HO_7.out).2.2 | (with_reducible refine Kd.C_alloc ?_ _) | (with_reducible refine Kd.C_drewN ?_ _) | (with_reducible refine Kd.C_drew ?_))); (case aB => exact (by repeat (first | (with_reducible first | exact HB.out | apply below_alloc | apply pw_below_drewN | apply below_drew1 | refine below_set ?_ GE187.out | refine below_set ?_ GE188.out) | exact HB.out))); (case aF => exact (fun k_ hk => ⟨Kd.fresh' (Kd.R_lt (by (with_reducible repeat (first | apply Kd.R_alloc | apply Kd.R_drewN | apply Kd.R_drew)); exact HO_5.out)) k_ hk, Kd.fresh' (Kd.R_lt (by (with_reducible repeat (first | apply Kd.R_alloc | apply Kd.R_drewN | apply Kd.R_drew)); exact HO_7.out)) k_ hk, Kd.fresh' (Kd.R_lt (by (with_reducible repeat (first | apply Kd.R_alloc | apply Kd.R_drewN | apply Kd.R_drew)); exact HO_9.out)) k_ hk, Kd.fresh' (Kd.R_lt (by (with_reducible repeat (first | apply Kd.R_alloc | apply Kd.R_drewN | apply Kd.R_drew)); exact HO208.out)) k_ hk⟩)); (case aO => exact (by (with_reducible repeat (first | apply Kd.R_alloc | apply Kd.R_drewN | apply Kd.R_drew)); exact Kd.R_mono HO211.out (fun _ hk => ⟨hk.1.1.1.2, ⟨hk.1.1.2, ⟨hk.1.2, hk.2⟩⟩⟩))); (case aS => exact (below_size (by repeat (first | (with_reducible first | exact HB.out | apply below_alloc | apply pw_below_drewN | apply below_drew1 | refine below_set ?_ GE187.out | refine below_set ?_ GE188.out) | exact HB.out)))); (case aL => have := LMc58.out; omega); intro v213 w65 ho hb hg hat; rw [← Ny212.out] at ho; have n0_ := Aside0.mk (Kd.R_after (ok := (fun k_ => some k_ ≠ (.slice Ao66 t193.length co66 : Value).ownBlock ∧ some k_ ≠ (v198 : Value).ownBlock ∧ some k_ ≠ (v207 : Value).ownBlock)) (by (with_reducible repeat (first | apply Kd.R_alloc | apply Kd.R_drewN | apply Kd.R_drew)); exact Kd.R_mono HO_5.out (fun _ hk => ⟨⟨hk.1.1.1, ⟨hk.1.1.2, hk.1.2⟩⟩, hk.2⟩)) hg hat); have n1_ := Aside0.mk (Kd.R_after (ok := (fun k_ => some k_ ≠ (.slice Ao62 t189.length co62 : Value).ownBlock ∧ some k_ ≠ (v198 : Value).ownBlock ∧ some k_ ≠ (v207 : Value).ownBlock)) (by (with_reducible repeat (first | apply Kd.R_alloc | apply Kd.R_drewN | apply Kd.R_drew)); exact Kd.R_mono HO_7.out (fun _ hk => ⟨⟨hk.1.1.1, ⟨hk.1.1.2, hk.1.2⟩⟩, hk.2⟩)) hg hat); have n2_ := Aside0.mk (Kd.R_after (ok := (fun k_ => some k_ ≠ (.slice Ao62 t189.length co62 : Value).ownBlock ∧ some k_ ≠ (.slice Ao66 t193.length co66 : Value).ownBlock ∧ some k_ ≠ (v207 : Value).ownBlock)) (by (with_reducible repeat (first | apply Kd.R_alloc | apply Kd.R_drewN | apply Kd.R_drew)); exact Kd.R_mono HO_9.out (fun _ hk => ⟨⟨hk.1.1.1, ⟨hk.1.1.2, hk.1.2⟩⟩, hk.2⟩)) hg hat); have n3_ := Aside0.mk (blk_grown (g := gb187) (o := .cells #[.int .i64 a0_0, .int .i64 a0_1, .int .i64 a0_2, .int .i64 a0_3, .int .i64 a0_4, .int .i64 a0_5] 23 (0, 0)) (blk_of BK187.out (fun h_ => by (with_reducible repeat (first | refine blk_drewN ?_ _ | refine blk_drew ?_ | refine blk_alloc ?_ _)); exact h_)) hg (Kd.R_ne HO211.out BK187.out (by decide))); have n4_ := Aside0.mk (blk_grown (g := gb188) (o := .cells #[.int .i64 a1_0, .int .i64 a1_1, .int .i64 a1_2, .int .i64 a1_3, .int .i64 a1_4, .int .i64 a1_5] 23 (0, 0)) (blk_of BK188.out (fun h_ => by (with_reducible repeat (first | refine blk_drewN ?_ _ | refine blk_drew ?_ | refine blk_alloc ?_ _)); exact h_)) hg (Kd.R_ne HO211.out BK188.out (by decide))); have n5_ := Aside0.mk (Kd.R_after (ok := (fun k_ => some k_ ≠ (.slice Ao62 t189.length co62 : Value).ownBlock ∧ some k_ ≠ (.slice Ao66 t193.length co66 : Value).ownBlock ∧ some k_ ≠ (v198 : Value).ownBlock)) (by (with_reducible repeat (first | apply Kd.R_alloc | apply Kd.R_drewN | apply Kd.R_drew)); exact HO208.out) hg hat); have n6_ := Aside0.mk (hb); have n7_ := Aside0.mk (ho); clear HO_5; clear HO_7; clear HO_9; clear BK187; clear BK188; clear HO208; clear HB; clear HO211; have HO_5 := n0_; have HO_7 := n1_; have HO_9 := n2_; have BK187 := n3_; have BK188 := n4_; have HO208 := n5_; have HB := n6_; have HO214 := n7_; clear n0_ n1_ n2_ n3_ n4_ n5_ n6_ n7_; clear ho hb hg hat))
                  go_loopg [13] kj40 (fun kq v13 w' => ∃ (x5_3 : List (S41)) (x13_3 : Int), v13 = .int .i64 x13_3 ∧ Aside0 (arrearslaw3_InterestFresh.l0 kq x5_3 t193 t197 y206 y212 x13_3 a0_0 a0_1 a0_2 a0_3 a0_4 a0_5 = some r) ∧ Aside0 (kq ≤ kj40) ∧ Aside0 (Kd.R k41 41 w' w.heap.size (fun k_ => some k_ ≠ ((.slice Ao66 t193.length co66) : Value).ownBlock ∧ some k_ ≠ (v198 : Value).ownBlock ∧ some k_ ≠ (v207 : Value).ownBlock ∧ some k_ ≠ (v213 : Value).ownBlock) (.slice Ao62 t189.length co62) x5_3) ∧ Aside0 (Kd.R k41 41 w' w.heap.size (fun k_ => some k_ ≠ ((.slice Ao62 t189.length co62) : Value).ownBlock ∧ some k_ ≠ (v198 : Value).ownBlock ∧ some k_ ≠ (v207 : Value).ownBlock ∧ some k_ ≠ (v213 : Value).ownBlock) (.slice Ao66 t193.length co66) t193) ∧ Aside0 (Kd.R k41 41 w' w.heap.size (fun k_ => some k_ ≠ ((.slice Ao62 t189.length co62) : Value).ownBlock ∧ some k_ ≠ ((.slice Ao66 t193.length co66) : Value).ownBlock ∧ some k_ ≠ (v207 : Value).ownBlock ∧ some k_ ≠ (v213 : Value).ownBlock) v198 t197) ∧ Aside0 (Kd.R k41 41 w' w.heap.size (fun k_ => some k_ ≠ ((.slice Ao62 t189.length co62) : Value).ownBlock ∧ some k_ ≠ ((.slice Ao66 t193.length co66) : Value).ownBlock ∧ some k_ ≠ (v198 : Value).ownBlock ∧ some k_ ≠ (v213 : Value).ownBlock) v207 y206) ∧ Aside0 (Kd.R k41 41 w' w.heap.size (fun k_ => some k_ ≠ ((.slice Ao62 t189.length co62) : Value).ownBlock ∧ some k_ ≠ ((.slice Ao66 t193.length co66) : Value).ownBlock ∧ some k_ ≠ (v198 : Value).ownBlock ∧ some k_ ≠ (v207 : Value).ownBlock) v213 y212) ∧ Aside0 (w'.heap[gb187]? = some (.cells #[.int .i64 a0_0, .int .i64 a0_1, .int .i64 a0_2, .int .i64 a0_3, .int .i64 a0_4, .int .i64 a0_5] 23 (0, 0))) ∧ Aside0 (w'.heap[gb188]? = some (.cells #[.int .i64 a1_0, .int .i64 a1_1, .int .i64 a1_2, .int .i64 a1_3, .int .i64 a1_4, .int .i64 a1_5] 23 (0, 0))) ∧ Aside0 (Below w.heap.size w w'))
                  case atStart => exact ⟨(t189), (0), (by first | rfl | (simp; done) | (simp [*]; done)), H', ⟨Nat.le_refl _⟩, ⟨by (with_reducible repeat (first | apply Kd.R_alloc | apply Kd.R_drewN | apply Kd.R_drew)); exact Kd.R_mono HO_5.out (fun _ hk => ⟨hk.1.1, ⟨hk.1.2.1, ⟨hk.1.2.2, hk.2⟩⟩⟩)⟩, ⟨by (with_reducible repeat (first | apply Kd.R_alloc | apply Kd.R_drewN | apply Kd.R_drew)); exact Kd.R_mono HO_7.out (fun _ hk => ⟨hk.1.1, ⟨hk.1.2.1, ⟨hk.1.2.2, hk.2⟩⟩⟩)⟩, ⟨by (with_reducible repeat (first | apply Kd.R_alloc | apply Kd.R_drewN | apply Kd.R_drew)); exact Kd.R_mono HO_9.out (fun _ hk => ⟨hk.1.1, ⟨hk.1.2.1, ⟨hk.1.2.2, hk.2⟩⟩⟩)⟩, ⟨by (with_reducible repeat (first | apply Kd.R_alloc | apply Kd.R_drewN | apply Kd.R_drew)); exact Kd.R_mono HO208.out (fun _ hk => ⟨hk.1.1, ⟨hk.1.2.1, ⟨hk.1.2.2, hk.2⟩⟩⟩)⟩, ⟨by (with_reducible repeat (first | apply Kd.R_alloc | apply Kd.R_drewN | apply Kd.R_drew)); exact HO214.out⟩, ⟨by (with_reducible repeat (first | refine blk_drewN ?_ _ | refine blk_drew ?_ | refine blk_alloc ?_ _)); exact BK187.out⟩, ⟨by (with_reducible repeat (first | refine blk_drewN ?_ _ | refine blk_drew ?_ | refine blk_alloc ?_ _)); exact BK188.out⟩, ⟨by repeat (first | (with_reducible first | exact HB.out | apply below_alloc | apply pw_below_drewN | apply below_drew1 | refine below_set ?_ GE187.out | refine below_set ?_ GE188.out) | exact HB.out)⟩⟩
                  case round => as_aux_lemma =>
                    clear H'
                    try clear c1
                    try clear c2
                    try clear p2
                    try clear c3
                    try clear c4
                    try clear c5
                    try clear c7
                    try clear c9
                    try clear c16
                    try clear c16b0
                    try clear c17
                    try clear c17b0
                    try clear c19
                    try clear c20
                    try clear c20b0
                    try clear c21
                    try clear c21b0
                    try clear c22
                    try clear c22b0
                    try clear c23
                    try clear c23b0
                    try clear c24
                    try clear c26
                    try clear c28
                    try clear c30
                    try clear c32
                    try clear c34
                    try clear c36
                    try clear c38
                    try clear c40
                    try clear c42
                    try clear c42b0
                    try clear c42b1
                    try clear c42b2
                    try clear c43
                    try clear c43b0
                    try clear c43b1
                    try clear c43b2
                    try clear c45
                    try clear c46
                    try clear c56
                    try clear c57
                    try clear c58
                    try clear hcz10_0
                    try clear hcz10_1
                    try clear hcz10_2
                    try clear hcz10_3
                    try clear hcz10_4
                    try clear hcz10_5
                    try clear hcz12_0
                    try clear hcz12_1
                    try clear hcz12_2
                    try clear hcz12_3
                    try clear hcz12_4
                    try clear hcz12_5
                    try clear hcz14_0
                    try clear hcz14_1
                    try clear hcz14_2
                    try clear hcz14_3
                    try clear hcz14_4
                    try clear hcz14_5
                    try clear hcz25_0
                    try clear hcz25_1
                    try clear hcz25_2
                    try clear hcz25_3
                    try clear hcz25_4
                    try clear hcz25_5
                    try clear hcz27_0
                    try clear hcz27_1
                    try clear hcz27_2
                    try clear hcz27_3
                    try clear hcz27_4
                    try clear hcz27_5
                    try clear hcz29_0
                    try clear hcz29_1
                    try clear hcz29_2
                    try clear hcz29_3
                    try clear hcz29_4
                    try clear hcz29_5
                    try clear hcz31_0
                    try clear hcz31_1
                    try clear hcz31_2
                    try clear hcz31_3
                    try clear hcz31_4
                    try clear hcz31_5
                    try clear hcz33_0
                    try clear hcz33_1
                    try clear hcz33_2
                    try clear hcz33_3
                    try clear hcz33_4
                    try clear hcz33_5
                    try clear hcz35_0
                    try clear hcz35_1
                    try clear hcz35_2
                    try clear hcz35_3
                    try clear hcz35_4
                    try clear hcz35_5
                    try clear hcz37_0
                    try clear hcz37_1
                    try clear hcz37_2
                    try clear hcz37_3
                    try clear hcz37_4
                    try clear hcz37_5
                    try clear hcz39_0
                    try clear hcz39_1
                    try clear hcz39_2
                    try clear hcz39_3
                    try clear hcz39_4
                    try clear hcz39_5
                    try clear hfz10_0
                    try clear hfz10_1
                    try clear hfz10_2
                    try clear hfz10_3
                    try clear hfz10_4
                    try clear hfz10_5
                    try clear hfz12_0
                    try clear hfz12_1
                    try clear hfz12_2
                    try clear hfz12_3
                    try clear hfz12_4
                    try clear hfz12_5
                    try clear hfz14_0
                    try clear hfz14_1
                    try clear hfz14_2
                    try clear hfz14_3
                    try clear hfz14_4
                    try clear hfz14_5
                    try clear hfz25_0
                    try clear hfz25_1
                    try clear hfz25_2
                    try clear hfz25_3
                    try clear hfz25_4
                    try clear hfz25_5
                    try clear hfz27_0
                    try clear hfz27_1
                    try clear hfz27_2
                    try clear hfz27_3
                    try clear hfz27_4
                    try clear hfz27_5
                    try clear hfz29_0
                    try clear hfz29_1
                    try clear hfz29_2
                    try clear hfz29_3
                    try clear hfz29_4
                    try clear hfz29_5
                    try clear hfz31_0
                    try clear hfz31_1
                    try clear hfz31_2
                    try clear hfz31_3
                    try clear hfz31_4
                    try clear hfz31_5
                    try clear hfz33_0
                    try clear hfz33_1
                    try clear hfz33_2
                    try clear hfz33_3
                    try clear hfz33_4
                    try clear hfz33_5
                    try clear hfz35_0
                    try clear hfz35_1
                    try clear hfz35_2
                    try clear hfz35_3
                    try clear hfz35_4
                    try clear hfz35_5
                    try clear hfz37_0
                    try clear hfz37_1
                    try clear hfz37_2
                    try clear hfz37_3
                    try clear hfz37_4
                    try clear hfz37_5
                    try clear hfz39_0
                    try clear hfz39_1
                    try clear hfz39_2
                    try clear hfz39_3
                    try clear hfz39_4
                    try clear hfz39_5
                    try clear p2
                    obtain ⟨x5_3, x13_3, rfl, HA, HK3, HO_5, HO_7, HO_9, HO_11, HO_12, BK187, BK188, HB⟩ := hrel
                    have hl5_3 := (Kd.R_reads' HO_5.out).1
                    rw [hl5_3] at HO_5
                    (try simp only [hl5_3])
                    (try simp only [hl5_3] at BK187)
                    (try simp only [hl5_3] at BK188)
                    (try simp only [hl5_3] at HO_7)
                    (try simp only [hl5_3] at HO_9)
                    (try simp only [hl5_3] at HO_11)
                    (try simp only [hl5_3] at HO_12)
                    cases gk with
                    | zero => exact absurd HA.out (by simp [arrearslaw3_InterestFresh.l0])
                    | succ k3 =>
                      have H := HA.out
                      clear HA
                      simp only [arrearslaw3_InterestFresh.l0] at H
                      by_cases c67 : x13_3 < (x5_3.length : Int)
                      · rw [if_pos c67] at H
                        have c67b0 : decide (x13_3 < (x5_3.length : Int)) = true := decide_eq_true c67
                        clear c67
                        by_cases c68 : 0 ≤ x13_3
                        · rw [if_pos c68] at H
                          have c68b0 : decide (0 ≤ x13_3) = true := decide_eq_true c68
                          clear c68
                          obtain ⟨y215, hy215⟩ : ∃ y_ : List (S41), y_ = (x5_3.set (x13_3 : Int).toNat (⟨(-1), (-2), (-3), true⟩ : S41)) := ⟨_, rfl⟩
                          replace H : (arrearslaw3_InterestFresh.l0 k3 y215 t193 t197 y206 y212 (wrap64 (x13_3 + 1)) a0_0 a0_1 a0_2 a0_3 a0_4 a0_5) = some r := by first | (rw [hy215]; with_reducible exact H) | (have H2_ := (Option.bind_some _ _).symm.trans H; rw [hy215]; with_reducible exact H2_) | (have H2_ := (Option.bind_some _ _).symm.trans H; with_reducible exact H2_) | with_reducible exact H | (rw [hy215]; exact H) | exact H
                          have Ny215 := Aside0.mk hy215
                          clear hy215
                          have H' := Aside0.mk H
                          clear H
                          have p69 : 0 ≤ (x13_3 : Int) := of_decide_eq_true (by first | (with_reducible assumption) | assumption)
                          have q69 : (x13_3 : Int) < ((x5_3.length : Int) : Int) := of_decide_eq_true (by first | (with_reducible assumption) | assumption)
                          obtain ⟨go69, co69, eo69, gb69, gl69, cl69, HG69⟩ := Kd.R_form HO_5.out (by omega)
                          (first | cases eo69 | (injection eo69 with ea_ en_ ec_; (first | subst ea_ | (injection ea_ with ea_; subst ea_)); subst ec_; clear en_))
                          have GB69 := Aside0.mk gb69
                          have GG69 := Aside0.mk HG69
                          clear gb69 gl69 HG69
                          obtain ⟨ce69, hcl69, hM69, hcc69, hfr69⟩ := Kd.R_elem HO_5.out z41 (x13_3 : Int) p69 q69
                          obtain rfl := k41_openM hM69
                          have hx69_0 : wr.cell? ⟨go69, (x13_3 : Int).toNat * 4, none⟩ = some (.int .i64 ((rd_T41 x5_3 x13_3).f0)) := hcc69 0 _ rfl
                          have hx69_1 : wr.cell? ⟨go69, (x13_3 : Int).toNat * 4 + 1, none⟩ = some (.int .i64 ((rd_T41 x5_3 x13_3).f1)) := hcc69 1 _ rfl
                          have hx69_2 : wr.cell? ⟨go69, (x13_3 : Int).toNat * 4 + 2, none⟩ = some (.int .i64 ((rd_T41 x5_3 x13_3).f2)) := hcc69 2 _ rfl
                          have hx69_3 : wr.cell? ⟨go69, (x13_3 : Int).toNat * 4 + 3, none⟩ = some (.bool ((rd_T41 x5_3 x13_3).f3)) := hcc69 3 _ rfl
                          have hf69_0 : wr.frozen? ⟨go69, (x13_3 : Int).toNat * 4, none⟩ = false := hfr69 0
                          have hf69_1 : wr.frozen? ⟨go69, (x13_3 : Int).toNat * 4 + 1, none⟩ = false := hfr69 1
                          have hf69_2 : wr.frozen? ⟨go69, (x13_3 : Int).toNat * 4 + 2, none⟩ = false := hfr69 2
                          have hf69_3 : wr.frozen? ⟨go69, (x13_3 : Int).toNat * 4 + 3, none⟩ = false := hfr69 3
                          clear hcl69 hcc69 hfr69 hM69
                          replace p69 := eq_true p69
                          replace q69 := eq_true q69
                          have HX70 := Aside0.mk (show Kd.R k41 41 wr w.heap.size (fun k_ => some k_ ≠ (.slice Ao66 t193.length co66 : Value).ownBlock ∧ some k_ ≠ (v198 : Value).ownBlock ∧ some k_ ≠ (v207 : Value).ownBlock ∧ some k_ ≠ (v213 : Value).ownBlock) (.slice (some ⟨go69, 0, none⟩) x5_3.length co62) x5_3 from (by (with_reducible repeat (first | apply Kd.R_alloc | apply Kd.R_drewN | apply Kd.R_drew)); exact HO_5.out))
                          obtain ⟨ce70, hcl70, hM70, hcc70, hfr70⟩ := Kd.R_elem HX70.out z41 (x13_3 : Int) (of_decide_eq_true (by first | (with_reducible assumption) | assumption)) (by have h_ : (x13_3 : Int) < ((x5_3.length : Int) : Int) := of_decide_eq_true (by first | (with_reducible assumption) | assumption); first | exact h_ | (have e_ := (Kd.R_reads' HO_5.out).1; omega) | simpa using h_)
                          obtain rfl := k41_openM hM70
                          have HP70 := Kd.R_seg HX70.out (x13_3 : Int) (of_decide_eq_true (by first | (with_reducible assumption) | assumption)) (by have h_ : (x13_3 : Int) < ((x5_3.length : Int) : Int) := of_decide_eq_true (by first | (with_reducible assumption) | assumption); first | exact h_ | (have e_ := (Kd.R_reads' HO_5.out).1; omega) | simpa using h_) (seg := [.int .i64 (-1), .int .i64 (-2), .int .i64 (-3), .bool true]) (j := 0) hcl70 hcc70 (show 4 ≤ 4 from by decide) (x' := (⟨(-1), (-2), (-3), true⟩ : S41)) (k41_mkM _ _ _ (⟨(-1), (-2), (-3), true⟩ : S41) ) (fun _ hk => hk)
                          have hx70_0 := hcc70 0 _ rfl
                          (try simp only [show (k41).sz = 4 from rfl, Nat.mul_one, Nat.add_zero] at hx70_0)
                          have hf70_0 := hfr70 0
                          (try simp only [show (k41).sz = 4 from rfl, Nat.mul_one, Nat.add_zero] at hf70_0)
                          have hx70_1 := hcc70 1 _ rfl
                          (try simp only [show (k41).sz = 4 from rfl, Nat.mul_one, Nat.add_zero] at hx70_1)
                          have hf70_1 := hfr70 1
                          (try simp only [show (k41).sz = 4 from rfl, Nat.mul_one, Nat.add_zero] at hf70_1)
                          have hx70_2 := hcc70 2 _ rfl
                          (try simp only [show (k41).sz = 4 from rfl, Nat.mul_one, Nat.add_zero] at hx70_2)
                          have hf70_2 := hfr70 2
                          (try simp only [show (k41).sz = 4 from rfl, Nat.mul_one, Nat.add_zero] at hf70_2)
                          have hx70_3 := hcc70 3 _ rfl
                          (try simp only [show (k41).sz = 4 from rfl, Nat.mul_one, Nat.add_zero] at hx70_3)
                          have hf70_3 := hfr70 3
                          (try simp only [show (k41).sz = 4 from rfl, Nat.mul_one, Nat.add_zero] at hf70_3)
                          clear hcl70 hcc70 hfr70 hM70
                          go_wp2_with (first | ((with_reducible refine gate_store (t := 41) (p := 114) rfl ?_); refine store_event (t := 41) (p := 114) (v := ?vo_w71) (w1 := ((((wr.setCell ⟨go69, (x13_3 : Int).toNat * 4, none⟩ (.int .i64 (-1))).setCell ⟨go69, (x13_3 : Int).toNat * 4 + 1, none⟩ (.int .i64 (-2))).setCell ⟨go69, (x13_3 : Int).toNat * 4 + 2, none⟩ (.int .i64 (-3))).setCell ⟨go69, (x13_3 : Int).toNat * 4 + 3, none⟩ (.bool true))) ?hg ?ho ?hn ?hr ?_; (case ho => rfl); (case hg => rfl); (case hn => rfl); (case hr => first | (go_simp; done) | (go_simp; rfl)); intro w71 hw; have hg : wr.grownBy w71 (some go69) := (by rw [hw]; exact HP70.2); have hp_ : Kd.R k41 41 w71 w.heap.size (fun k_ => some k_ ≠ (.slice Ao66 t193.length co66 : Value).ownBlock ∧ some k_ ≠ (v198 : Value).ownBlock ∧ some k_ ≠ (v207 : Value).ownBlock ∧ some k_ ≠ (v213 : Value).ownBlock) (.slice (some ⟨go69, 0, none⟩) x5_3.length co62) y215 := (by rw [hw, Ny215.out]; exact HP70.1); clear HP70; have n0_ := Aside0.mk (hp_); have n1_ := Aside0.mk (Kd.R_after (v := (.slice (some ⟨go69, 0, none⟩) x5_3.length co62)) (v1 := (.slice (some ⟨go69, 0, none⟩) x5_3.length co62)) (ok := (fun k_ => some k_ ≠ (v198 : Value).ownBlock ∧ some k_ ≠ (v207 : Value).ownBlock ∧ some k_ ≠ (v213 : Value).ownBlock)) (by (with_reducible repeat (first | apply Kd.R_alloc | apply Kd.R_drewN | apply Kd.R_drew)); exact Kd.R_mono HO_7.out (fun _ hk => ⟨⟨hk.2.1, ⟨hk.2.2.1, hk.2.2.2⟩⟩, hk.1⟩)) hg (.inl rfl)); have n2_ := Aside0.mk (Kd.R_after (v := (.slice (some ⟨go69, 0, none⟩) x5_3.length co62)) (v1 := (.slice (some ⟨go69, 0, none⟩) x5_3.length co62)) (ok := (fun k_ => some k_ ≠ (.slice Ao66 t193.length co66 : Value).ownBlock ∧ some k_ ≠ (v207 : Value).ownBlock ∧ some k_ ≠ (v213 : Value).ownBlock)) (by (with_reducible repeat (first | apply Kd.R_alloc | apply Kd.R_drewN | apply Kd.R_drew)); exact Kd.R_mono HO_9.out (fun _ hk => ⟨⟨hk.2.1, ⟨hk.2.2.1, hk.2.2.2⟩⟩, hk.1⟩)) hg (.inl rfl)); have n3_ := Aside0.mk (Kd.R_after (v := (.slice (some ⟨go69, 0, none⟩) x5_3.length co62)) (v1 := (.slice (some ⟨go69, 0, none⟩) x5_3.length co62)) (ok := (fun k_ => some k_ ≠ (.slice Ao66 t193.length co66 : Value).ownBlock ∧ some k_ ≠ (v198 : Value).ownBlock ∧ some k_ ≠ (v213 : Value).ownBlock)) (by (with_reducible repeat (first | apply Kd.R_alloc | apply Kd.R_drewN | apply Kd.R_drew)); exact Kd.R_mono HO_11.out (fun _ hk => ⟨⟨hk.2.1, ⟨hk.2.2.1, hk.2.2.2⟩⟩, hk.1⟩)) hg (.inl rfl)); have n4_ := Aside0.mk (Kd.R_after (v := (.slice (some ⟨go69, 0, none⟩) x5_3.length co62)) (v1 := (.slice (some ⟨go69, 0, none⟩) x5_3.length co62)) (ok := (fun k_ => some k_ ≠ (.slice Ao66 t193.length co66 : Value).ownBlock ∧ some k_ ≠ (v198 : Value).ownBlock ∧ some k_ ≠ (v207 : Value).ownBlock)) (by (with_reducible repeat (first | apply Kd.R_alloc | apply Kd.R_drewN | apply Kd.R_drew)); exact Kd.R_mono HO_12.out (fun _ hk => ⟨⟨hk.2.1, ⟨hk.2.2.1, hk.2.2.2⟩⟩, hk.1⟩)) hg (.inl rfl)); have n5_ := Aside0.mk (blk_grown (g := gb187) (o := .cells #[.int .i64 a0_0, .int .i64 a0_1, .int .i64 a0_2, .int .i64 a0_3, .int .i64 a0_4, .int .i64 a0_5] 23 (0, 0)) (blk_of BK187.out (fun h_ => by (with_reducible repeat (first | refine blk_drewN ?_ _ | refine blk_drew ?_ | refine blk_alloc ?_ _)); exact h_)) hg (Kd.R_ne HO_5.out BK187.out (by decide))); have n6_ := Aside0.mk (blk_grown (g := gb188) (o := .cells #[.int .i64 a1_0, .int .i64 a1_1, .int .i64 a1_2, .int .i64 a1_3, .int .i64 a1_4, .int .i64 a1_5] 23 (0, 0)) (blk_of BK188.out (fun h_ => by (with_reducible repeat (first | refine blk_drewN ?_ _ | refine blk_drew ?_ | refine blk_alloc ?_ _)); exact h_)) hg (Kd.R_ne HO_5.out BK188.out (by decide))); have n7_ := Aside0.mk ((by rw [hw]; exact below_set (below_set (below_set (below_set (HB.out) GB69.out) GB69.out) GB69.out) GB69.out : Below w.heap.size w w71)); clear HO_5; clear HO_7; clear HO_9; clear HO_11; clear HO_12; clear BK187; clear BK188; clear HB; have HO_5 := n0_; have HO_7 := n1_; have HO_9 := n2_; have HO_11 := n3_; have HO_12 := n4_; have BK187 := n5_; have BK188 := n6_; have HB := n7_; clear n0_ n1_ n2_ n3_ n4_ n5_ n6_ n7_; clear hg hw hp_))
                          (try simp only [← hl5_3])
                          go_roundg k3
                          case measure => have := HJ5.out; have := HJ40.out; have := HK3.out; omega
                          case rel => exact ⟨(y215), (wrap64 (x13_3 + 1)), (by first | rfl | (simp; done) | (simp [*]; done)), H', ⟨by have := HJ5.out; have := HJ40.out; have := HK3.out; omega⟩, ⟨by (try simp only [hl5_3]); (with_reducible repeat (first | apply Kd.R_alloc | apply Kd.R_drewN | apply Kd.R_drew)); exact HO_5.out⟩, ⟨by (try simp only [hl5_3]); (with_reducible repeat (first | apply Kd.R_alloc | apply Kd.R_drewN | apply Kd.R_drew)); exact Kd.R_mono HO_7.out (fun _ hk => ⟨hk.2, ⟨hk.1.1, ⟨hk.1.2.1, hk.1.2.2⟩⟩⟩)⟩, ⟨by (try simp only [hl5_3]); (with_reducible repeat (first | apply Kd.R_alloc | apply Kd.R_drewN | apply Kd.R_drew)); exact Kd.R_mono HO_9.out (fun _ hk => ⟨hk.2, ⟨hk.1.1, ⟨hk.1.2.1, hk.1.2.2⟩⟩⟩)⟩, ⟨by (try simp only [hl5_3]); (with_reducible repeat (first | apply Kd.R_alloc | apply Kd.R_drewN | apply Kd.R_drew)); exact Kd.R_mono HO_11.out (fun _ hk => ⟨hk.2, ⟨hk.1.1, ⟨hk.1.2.1, hk.1.2.2⟩⟩⟩)⟩, ⟨by (try simp only [hl5_3]); (with_reducible repeat (first | apply Kd.R_alloc | apply Kd.R_drewN | apply Kd.R_drew)); exact Kd.R_mono HO_12.out (fun _ hk => ⟨hk.2, ⟨hk.1.1, ⟨hk.1.2.1, hk.1.2.2⟩⟩⟩)⟩, ⟨by (try simp only [hl5_3]); (with_reducible repeat (first | refine blk_drewN ?_ _ | refine blk_drew ?_ | refine blk_alloc ?_ _)); exact BK187.out⟩, ⟨by (try simp only [hl5_3]); (with_reducible repeat (first | refine blk_drewN ?_ _ | refine blk_drew ?_ | refine blk_alloc ?_ _)); exact BK188.out⟩, ⟨by repeat (first | (with_reducible first | exact HB.out | apply below_alloc | apply pw_below_drewN | apply below_drew1 | refine below_set ?_ GE187.out | refine below_set ?_ GE188.out) | exact HB.out)⟩⟩
                        · rw [if_neg c68] at H
                          exact absurd H (by simp)
                      · rw [if_neg c67] at H
                        have c67b0 : decide (x13_3 < (x5_3.length : Int)) = false := decide_eq_false c67
                        clear c67
                        have H' := Aside0.mk H
                        clear H
                        go_wp2
                        go_loopg [14] k3 (fun kq v14 w' => ∃ (x9_4 : List (S41)) (x14_4 : Int), v14 = .int .i64 x14_4 ∧ Aside0 (arrearslaw3_InterestFresh.l1 kq x5_3 t193 x9_4 y206 y212 x14_4 a0_0 a0_1 a0_2 a0_3 a0_4 a0_5 = some r) ∧ Aside0 (kq ≤ k3) ∧ Aside0 (Kd.R k41 41 w' w.heap.size (fun k_ => some k_ ≠ ((.slice Ao66 t193.length co66) : Value).ownBlock ∧ some k_ ≠ (v198 : Value).ownBlock ∧ some k_ ≠ (v207 : Value).ownBlock ∧ some k_ ≠ (v213 : Value).ownBlock) (.slice Ao62 x5_3.length co62) x5_3) ∧ Aside0 (Kd.R k41 41 w' w.heap.size (fun k_ => some k_ ≠ ((.slice Ao62 x5_3.length co62) : Value).ownBlock ∧ some k_ ≠ (v198 : Value).ownBlock ∧ some k_ ≠ (v207 : Value).ownBlock ∧ some k_ ≠ (v213 : Value).ownBlock) (.slice Ao66 t193.length co66) t193) ∧ Aside0 (Kd.R k41 41 w' w.heap.size (fun k_ => some k_ ≠ ((.slice Ao62 x5_3.length co62) : Value).ownBlock ∧ some k_ ≠ ((.slice Ao66 t193.length co66) : Value).ownBlock ∧ some k_ ≠ (v207 : Value).ownBlock ∧ some k_ ≠ (v213 : Value).ownBlock) v198 x9_4) ∧ Aside0 (Kd.R k41 41 w' w.heap.size (fun k_ => some k_ ≠ ((.slice Ao62 x5_3.length co62) : Value).ownBlock ∧ some k_ ≠ ((.slice Ao66 t193.length co66) : Value).ownBlock ∧ some k_ ≠ (v198 : Value).ownBlock ∧ some k_ ≠ (v213 : Value).ownBlock) v207 y206) ∧ Aside0 (Kd.R k41 41 w' w.heap.size (fun k_ => some k_ ≠ ((.slice Ao62 x5_3.length co62) : Value).ownBlock ∧ some k_ ≠ ((.slice Ao66 t193.length co66) : Value).ownBlock ∧ some k_ ≠ (v198 : Value).ownBlock ∧ some k_ ≠ (v207 : Value).ownBlock) v213 y212) ∧ Aside0 (w'.heap[gb187]? = some (.cells #[.int .i64 a0_0, .int .i64 a0_1, .int .i64 a0_2, .int .i64 a0_3, .int .i64 a0_4, .int .i64 a0_5] 23 (0, 0))) ∧ Aside0 (w'.heap[gb188]? = some (.cells #[.int .i64 a1_0, .int .i64 a1_1, .int .i64 a1_2, .int .i64 a1_3, .int .i64 a1_4, .int .i64 a1_5] 23 (0, 0))) ∧ Aside0 (Below w.heap.size w w'))
                        case atStart => exact ⟨(t197), (0), (by first | rfl | (simp; done) | (simp [*]; done)), H', ⟨Nat.le_refl _⟩, ⟨by (try simp only [hl5_3]); (with_reducible repeat (first | apply Kd.R_alloc | apply Kd.R_drewN | apply Kd.R_drew)); exact HO_5.out⟩, ⟨by (try simp only [hl5_3]); (with_reducible repeat (first | apply Kd.R_alloc | apply Kd.R_drewN | apply Kd.R_drew)); exact HO_7.out⟩, ⟨by (try simp only [hl5_3]); (with_reducible repeat (first | apply Kd.R_alloc | apply Kd.R_drewN | apply Kd.R_drew)); exact HO_9.out⟩, ⟨by (try simp only [hl5_3]); (with_reducible repeat (first | apply Kd.R_alloc | apply Kd.R_drewN | apply Kd.R_drew)); exact HO_11.out⟩, ⟨by (try simp only [hl5_3]); (with_reducible repeat (first | apply Kd.R_alloc | apply Kd.R_drewN | apply Kd.R_drew)); exact HO_12.out⟩, ⟨by (try simp only [hl5_3]); (with_reducible repeat (first | refine blk_drewN ?_ _ | refine blk_drew ?_ | refine blk_alloc ?_ _)); exact BK187.out⟩, ⟨by (try simp only [hl5_3]); (with_reducible repeat (first | refine blk_drewN ?_ _ | refine blk_drew ?_ | refine blk_alloc ?_ _)); exact BK188.out⟩, ⟨by repeat (first | (with_reducible first | exact HB.out | apply below_alloc | apply pw_below_drewN | apply below_drew1 | refine below_set ?_ GE187.out | refine below_set ?_ GE188.out) | exact HB.out)⟩⟩
                        case round => as_aux_lemma =>
                          clear H'
                          try clear c1
                          try clear c2
                          try clear p2
                          try clear c3
                          try clear c4
                          try clear c5
                          try clear c6
                          try clear p6
                          try clear q6
                          try clear hx6
                          try clear hf6
                          try clear c7
                          try clear hx7
                          try clear hf7
                          try clear c9
                          try clear c16
                          try clear c16b0
                          try clear c17
                          try clear c17b0
                          try clear c19
                          try clear c20
                          try clear c20b0
                          try clear c21
                          try clear c21b0
                          try clear c22
                          try clear c22b0
                          try clear c23
                          try clear c23b0
                          try clear c24
                          try clear c26
                          try clear c28
                          try clear c30
                          try clear c32
                          try clear c34
                          try clear c36
                          try clear c38
                          try clear c40
                          try clear c42
                          try clear c42b0
                          try clear c42b1
                          try clear c42b2
                          try clear c43
                          try clear c43b0
                          try clear c43b1
                          try clear c43b2
                          try clear c45
                          try clear c46
                          try clear c56
                          try clear c57
                          try clear c58
                          try clear p64
                          try clear c67
                          try clear c67b0
                          try clear c68
                          try clear c68b0
                          try clear c69
                          try clear p69
                          try clear q69
                          try clear hx69
                          try clear hf69
                          try clear c70
                          try clear hx70
                          try clear hf70
                          try clear hcz10_0
                          try clear hcz10_1
                          try clear hcz10_2
                          try clear hcz10_3
                          try clear hcz10_4
                          try clear hcz10_5
                          try clear hcz12_0
                          try clear hcz12_1
                          try clear hcz12_2
                          try clear hcz12_3
                          try clear hcz12_4
                          try clear hcz12_5
                          try clear hcz14_0
                          try clear hcz14_1
                          try clear hcz14_2
                          try clear hcz14_3
                          try clear hcz14_4
                          try clear hcz14_5
                          try clear hcz25_0
                          try clear hcz25_1
                          try clear hcz25_2
                          try clear hcz25_3
                          try clear hcz25_4
                          try clear hcz25_5
                          try clear hcz27_0
                          try clear hcz27_1
                          try clear hcz27_2
                          try clear hcz27_3
                          try clear hcz27_4
                          try clear hcz27_5
                          try clear hcz29_0
                          try clear hcz29_1
                          try clear hcz29_2
                          try clear hcz29_3
                          try clear hcz29_4
                          try clear hcz29_5
                          try clear hcz31_0
                          try clear hcz31_1
                          try clear hcz31_2
                          try clear hcz31_3
                          try clear hcz31_4
                          try clear hcz31_5
                          try clear hcz33_0
                          try clear hcz33_1
                          try clear hcz33_2
                          try clear hcz33_3
                          try clear hcz33_4
                          try clear hcz33_5
                          try clear hcz35_0
                          try clear hcz35_1
                          try clear hcz35_2
                          try clear hcz35_3
                          try clear hcz35_4
                          try clear hcz35_5
                          try clear hcz37_0
                          try clear hcz37_1
                          try clear hcz37_2
                          try clear hcz37_3
                          try clear hcz37_4
                          try clear hcz37_5
                          try clear hcz39_0
                          try clear hcz39_1
                          try clear hcz39_2
                          try clear hcz39_3
                          try clear hcz39_4
                          try clear hcz39_5
                          try clear hfz10_0
                          try clear hfz10_1
                          try clear hfz10_2
                          try clear hfz10_3
                          try clear hfz10_4
                          try clear hfz10_5
                          try clear hfz12_0
                          try clear hfz12_1
                          try clear hfz12_2
                          try clear hfz12_3
                          try clear hfz12_4
                          try clear hfz12_5
                          try clear hfz14_0
                          try clear hfz14_1
                          try clear hfz14_2
                          try clear hfz14_3
                          try clear hfz14_4
                          try clear hfz14_5
                          try clear hfz25_0
                          try clear hfz25_1
                          try clear hfz25_2
                          try clear hfz25_3
                          try clear hfz25_4
                          try clear hfz25_5
                          try clear hfz27_0
                          try clear hfz27_1
                          try clear hfz27_2
                          try clear hfz27_3
                          try clear hfz27_4
                          try clear hfz27_5
                          try clear hfz29_0
                          try clear hfz29_1
                          try clear hfz29_2
                          try clear hfz29_3
                          try clear hfz29_4
                          try clear hfz29_5
                          try clear hfz31_0
                          try clear hfz31_1
                          try clear hfz31_2
                          try clear hfz31_3
                          try clear hfz31_4
                          try clear hfz31_5
                          try clear hfz33_0
                          try clear hfz33_1
                          try clear hfz33_2
                          try clear hfz33_3
                          try clear hfz33_4
                          try clear hfz33_5
                          try clear hfz35_0
                          try clear hfz35_1
                          try clear hfz35_2
                          try clear hfz35_3
                          try clear hfz35_4
                          try clear hfz35_5
                          try clear hfz37_0
                          try clear hfz37_1
                          try clear hfz37_2
                          try clear hfz37_3
                          try clear hfz37_4
                          try clear hfz37_5
                          try clear hfz39_0
                          try clear hfz39_1
                          try clear hfz39_2
                          try clear hfz39_3
                          try clear hfz39_4
                          try clear hfz39_5
                          try clear hx69_0
                          try clear hx69_1
                          try clear hx69_2
                          try clear hx69_3
                          try clear hx70_0
                          try clear hx70_1
                          try clear hx70_2
                          try clear hx70_3
                          try clear p2
                          try clear p69
                          try clear q69
                          obtain ⟨x9_4, x14_4, rfl, HA, HK4, HO_5, HO_7, HO_9, HO_11, HO_12, BK187, BK188, HB⟩ := hrel
                          cases gk with
                          | zero => exact absurd HA.out (by simp [arrearslaw3_InterestFresh.l1])
                          | succ k4 =>
                            have H := HA.out
                            clear HA
                            simp only [arrearslaw3_InterestFresh.l1] at H
                            by_cases c72 : x14_4 < (x9_4.length : Int)
                            · rw [if_pos c72] at H
                              have c72b0 : decide (x14_4 < (x9_4.length : Int)) = true := decide_eq_true c72
                              clear c72
                              by_cases c73 : 0 ≤ x14_4
                              · rw [if_pos c73] at H
                                have c73b0 : decide (0 ≤ x14_4) = true := decide_eq_true c73
                                clear c73
                                obtain ⟨y216, hy216⟩ : ∃ y_ : List (S41), y_ = (x9_4.set (x14_4 : Int).toNat (⟨(-5), (-6), (-7), true⟩ : S41)) := ⟨_, rfl⟩
                                replace H : (arrearslaw3_InterestFresh.l1 k4 x5_3 t193 y216 y206 y212 (wrap64 (x14_4 + 1)) a0_0 a0_1 a0_2 a0_3 a0_4 a0_5) = some r := by first | (rw [hy216]; with_reducible exact H) | (have H2_ := (Option.bind_some _ _).symm.trans H; rw [hy216]; with_reducible exact H2_) | (have H2_ := (Option.bind_some _ _).symm.trans H; with_reducible exact H2_) | with_reducible exact H | (rw [hy216]; exact H) | exact H
                                have Ny216 := Aside0.mk hy216
                                clear hy216
                                have H' := Aside0.mk H
                                clear H
                                obtain ⟨Ao75, co75, eo75⟩ := Kd.R_slice HO_9.out
                                subst eo75
                                have p74 : 0 ≤ (x14_4 : Int) := of_decide_eq_true (by first | (with_reducible assumption) | assumption)
                                have q74 : (x14_4 : Int) < ((x9_4.length : Int) : Int) := of_decide_eq_true (by first | (with_reducible assumption) | assumption)
                                obtain ⟨go74, co74, eo74, gb74, gl74, cl74, HG74⟩ := Kd.R_form HO_9.out (by omega)
                                (first | cases eo74 | (injection eo74 with ea_ en_ ec_; (first | subst ea_ | (injection ea_ with ea_; subst ea_)); subst ec_; clear en_))
                                have GB74 := Aside0.mk gb74
                                have GG74 := Aside0.mk HG74
                                clear gb74 gl74 HG74
                                obtain ⟨ce74, hcl74, hM74, hcc74, hfr74⟩ := Kd.R_elem HO_9.out z41 (x14_4 : Int) p74 q74
                                obtain rfl := k41_openM hM74
                                have hx74_0 : wr.cell? ⟨go74, (x14_4 : Int).toNat * 4, none⟩ = some (.int .i64 ((rd_T41 x9_4 x14_4).f0)) := hcc74 0 _ rfl
                                have hx74_1 : wr.cell? ⟨go74, (x14_4 : Int).toNat * 4 + 1, none⟩ = some (.int .i64 ((rd_T41 x9_4 x14_4).f1)) := hcc74 1 _ rfl
                                have hx74_2 : wr.cell? ⟨go74, (x14_4 : Int).toNat * 4 + 2, none⟩ = some (.int .i64 ((rd_T41 x9_4 x14_4).f2)) := hcc74 2 _ rfl
                                have hx74_3 : wr.cell? ⟨go74, (x14_4 : Int).toNat * 4 + 3, none⟩ = some (.bool ((rd_T41 x9_4 x14_4).f3)) := hcc74 3 _ rfl
                                have hf74_0 : wr.frozen? ⟨go74, (x14_4 : Int).toNat * 4, none⟩ = false := hfr74 0
                                have hf74_1 : wr.frozen? ⟨go74, (x14_4 : Int).toNat * 4 + 1, none⟩ = false := hfr74 1
                                have hf74_2 : wr.frozen? ⟨go74, (x14_4 : Int).toNat * 4 + 2, none⟩ = false := hfr74 2
                                have hf74_3 : wr.frozen? ⟨go74, (x14_4 : Int).toNat * 4 + 3, none⟩ = false := hfr74 3
                                clear hcl74 hcc74 hfr74 hM74
                                replace p74 := eq_true p74
                                replace q74 := eq_true q74
                                have HX76 := Aside0.mk (show Kd.R k41 41 wr w.heap.size (fun k_ => some k_ ≠ (.slice Ao62 x5_3.length co62 : Value).ownBlock ∧ some k_ ≠ (.slice Ao66 t193.length co66 : Value).ownBlock ∧ some k_ ≠ (v207 : Value).ownBlock ∧ some k_ ≠ (v213 : Value).ownBlock) (.slice (some ⟨go74, 0, none⟩) x9_4.length co75) x9_4 from (by (with_reducible repeat (first | apply Kd.R_alloc | apply Kd.R_drewN | apply Kd.R_drew)); exact HO_9.out))
                                obtain ⟨ce76, hcl76, hM76, hcc76, hfr76⟩ := Kd.R_elem HX76.out z41 (x14_4 : Int) (of_decide_eq_true (by first | (with_reducible assumption) | assumption)) (by have h_ : (x14_4 : Int) < ((x9_4.length : Int) : Int) := of_decide_eq_true (by first | (with_reducible assumption) | assumption); first | exact h_ | (have e_ := (Kd.R_reads' HO_9.out).1; omega) | simpa using h_)
                                obtain rfl := k41_openM hM76
                                have HP76 := Kd.R_seg HX76.out (x14_4 : Int) (of_decide_eq_true (by first | (with_reducible assumption) | assumption)) (by have h_ : (x14_4 : Int) < ((x9_4.length : Int) : Int) := of_decide_eq_true (by first | (with_reducible assumption) | assumption); first | exact h_ | (have e_ := (Kd.R_reads' HO_9.out).1; omega) | simpa using h_) (seg := [.int .i64 (-5), .int .i64 (-6), .int .i64 (-7), .bool true]) (j := 0) hcl76 hcc76 (show 4 ≤ 4 from by decide) (x' := (⟨(-5), (-6), (-7), true⟩ : S41)) (k41_mkM _ _ _ (⟨(-5), (-6), (-7), true⟩ : S41) ) (fun _ hk => hk)
                                have hx76_0 := hcc76 0 _ rfl
                                (try simp only [show (k41).sz = 4 from rfl, Nat.mul_one, Nat.add_zero] at hx76_0)
                                have hf76_0 := hfr76 0
                                (try simp only [show (k41).sz = 4 from rfl, Nat.mul_one, Nat.add_zero] at hf76_0)
                                have hx76_1 := hcc76 1 _ rfl
                                (try simp only [show (k41).sz = 4 from rfl, Nat.mul_one, Nat.add_zero] at hx76_1)
                                have hf76_1 := hfr76 1
                                (try simp only [show (k41).sz = 4 from rfl, Nat.mul_one, Nat.add_zero] at hf76_1)
                                have hx76_2 := hcc76 2 _ rfl
                                (try simp only [show (k41).sz = 4 from rfl, Nat.mul_one, Nat.add_zero] at hx76_2)
                                have hf76_2 := hfr76 2
                                (try simp only [show (k41).sz = 4 from rfl, Nat.mul_one, Nat.add_zero] at hf76_2)
                                have hx76_3 := hcc76 3 _ rfl
                                (try simp only [show (k41).sz = 4 from rfl, Nat.mul_one, Nat.add_zero] at hx76_3)
                                have hf76_3 := hfr76 3
                                (try simp only [show (k41).sz = 4 from rfl, Nat.mul_one, Nat.add_zero] at hf76_3)
                                clear hcl76 hcc76 hfr76 hM76
                                go_wp2_with (first | ((with_reducible refine gate_store (t := 41) (p := 124) rfl ?_); refine store_event (t := 41) (p := 124) (v := ?vo_w77) (w1 := ((((wr.setCell ⟨go74, (x14_4 : Int).toNat * 4, none⟩ (.int .i64 (-5))).setCell ⟨go74, (x14_4 : Int).toNat * 4 + 1, none⟩ (.int .i64 (-6))).setCell ⟨go74, (x14_4 : Int).toNat * 4 + 2, none⟩ (.int .i64 (-7))).setCell ⟨go74, (x14_4 : Int).toNat * 4 + 3, none⟩ (.bool true))) ?hg ?ho ?hn ?hr ?_; (case ho => rfl); (case hg => rfl); (case hn => rfl); (case hr => first | (go_simp; done) | (go_simp; rfl)); intro w77 hw; have hg : wr.grownBy w77 (some go74) := (by rw [hw]; exact HP76.2); have hp_ : Kd.R k41 41 w77 w.heap.size (fun k_ => some k_ ≠ (.slice Ao62 x5_3.length co62 : Value).ownBlock ∧ some k_ ≠ (.slice Ao66 t193.length co66 : Value).ownBlock ∧ some k_ ≠ (v207 : Value).ownBlock ∧ some k_ ≠ (v213 : Value).ownBlock) (.slice (some ⟨go74, 0, none⟩) x9_4.length co75) y216 := (by rw [hw, Ny216.out]; exact HP76.1); clear HP76; have n0_ := Aside0.mk (Kd.R_after (v := (.slice (some ⟨go74, 0, none⟩) x9_4.length co75)) (v1 := (.slice (some ⟨go74, 0, none⟩) x9_4.length co75)) (ok := (fun k_ => some k_ ≠ (.slice Ao66 t193.length co66 : Value).ownBlock ∧ some k_ ≠ (v207 : Value).ownBlock ∧ some k_ ≠ (v213 : Value).ownBlock)) (by (with_reducible repeat (first | apply Kd.R_alloc | apply Kd.R_drewN | apply Kd.R_drew)); exact Kd.R_mono HO_5.out (fun _ hk => ⟨⟨hk.1, ⟨hk.2.2.1, hk.2.2.2⟩⟩, hk.2.1⟩)) hg (.inl rfl)); have n1_ := Aside0.mk (Kd.R_after (v := (.slice (some ⟨go74, 0, none⟩) x9_4.length co75)) (v1 := (.slice (some ⟨go74, 0, none⟩) x9_4.length co75)) (ok := (fun k_ => some k_ ≠ (.slice Ao62 x5_3.length co62 : Value).ownBlock ∧ some k_ ≠ (v207 : Value).ownBlock ∧ some k_ ≠ (v213 : Value).ownBlock)) (by (with_reducible repeat (first | apply Kd.R_alloc | apply Kd.R_drewN | apply Kd.R_drew)); exact Kd.R_mono HO_7.out (fun _ hk => ⟨⟨hk.1, ⟨hk.2.2.1, hk.2.2.2⟩⟩, hk.2.1⟩)) hg (.inl rfl)); have n2_ := Aside0.mk (hp_); have n3_ := Aside0.mk (Kd.R_after (v := (.slice (some ⟨go74, 0, none⟩) x9_4.length co75)) (v1 := (.slice (some ⟨go74, 0, none⟩) x9_4.length co75)) (ok := (fun k_ => some k_ ≠ (.slice Ao62 x5_3.length co62 : Value).ownBlock ∧ some k_ ≠ (.slice Ao66 t193.length co66 : Value).ownBlock ∧ some k_ ≠ (v213 : Value).ownBlock)) (by (with_reducible repeat (first | apply Kd.R_alloc | apply Kd.R_drewN | apply Kd.R_drew)); exact Kd.R_mono HO_11.out (fun _ hk => ⟨⟨hk.1, ⟨hk.2.1, hk.2.2.2⟩⟩, hk.2.2.1⟩)) hg (.inl rfl)); have n4_ := Aside0.mk (Kd.R_after (v := (.slice (some ⟨go74, 0, none⟩) x9_4.length co75)) (v1 := (.slice (some ⟨go74, 0, none⟩) x9_4.length co75)) (ok := (fun k_ => some k_ ≠ (.slice Ao62 x5_3.length co62 : Value).ownBlock ∧ some k_ ≠ (.slice Ao66 t193.length co66 : Value).ownBlock ∧ some k_ ≠ (v207 : Value).ownBlock)) (by (with_reducible repeat (first | apply Kd.R_alloc | apply Kd.R_drewN | apply Kd.R_drew)); exact Kd.R_mono HO_12.out (fun _ hk => ⟨⟨hk.1, ⟨hk.2.1, hk.2.2.2⟩⟩, hk.2.2.1⟩)) hg (.inl rfl)); have n5_ := Aside0.mk (blk_grown (g := gb187) (o := .cells #[.int .i64 a0_0, .int .i64 a0_1, .int .i64 a0_2, .int .i64 a0_3, .int .i64 a0_4, .int .i64 a0_5] 23 (0, 0)) (blk_of BK187.out (fun h_ => by (with_reducible repeat (first | refine blk_drewN ?_ _ | refine blk_drew ?_ | refine blk_alloc ?_ _)); exact h_)) hg (Kd.R_ne HO_9.out BK187.out (by decide))); have n6_ := Aside0.mk (blk_grown (g := gb188) (o := .cells #[.int .i64 a1_0, .int .i64 a1_1, .int .i64 a1_2, .int .i64 a1_3, .int .i64 a1_4, .int .i64 a1_5] 23 (0, 0)) (blk_of BK188.out (fun h_ => by (with_reducible repeat (first | refine blk_drewN ?_ _ | refine blk_drew ?_ | refine blk_alloc ?_ _)); exact h_)) hg (Kd.R_ne HO_9.out BK188.out (by decide))); have n7_ := Aside0.mk ((by rw [hw]; exact below_set (below_set (below_set (below_set (HB.out) GB74.out) GB74.out) GB74.out) GB74.out : Below w.heap.size w w77)); clear HO_5; clear HO_7; clear HO_9; clear HO_11; clear HO_12; clear BK187; clear BK188; clear HB; have HO_5 := n0_; have HO_7 := n1_; have HO_9 := n2_; have HO_11 := n3_; have HO_12 := n4_; have BK187 := n5_; have BK188 := n6_; have HB := n7_; clear n0_ n1_ n2_ n3_ n4_ n5_ n6_ n7_; clear hg hw hp_))
                                go_roundg k4
                                case measure => have := HJ5.out; have := HJ40.out; have := HK3.out; have := HK4.out; omega
                                case rel => exact ⟨(y216), (wrap64 (x14_4 + 1)), (by first | rfl | (simp; done) | (simp [*]; done)), H', ⟨by have := HJ5.out; have := HJ40.out; have := HK3.out; have := HK4.out; omega⟩, ⟨by (try simp only [hl5_3]); (with_reducible repeat (first | apply Kd.R_alloc | apply Kd.R_drewN | apply Kd.R_drew)); exact Kd.R_mono HO_5.out (fun _ hk => ⟨hk.1.1, ⟨hk.2, ⟨hk.1.2.1, hk.1.2.2⟩⟩⟩)⟩, ⟨by (try simp only [hl5_3]); (with_reducible repeat (first | apply Kd.R_alloc | apply Kd.R_drewN | apply Kd.R_drew)); exact Kd.R_mono HO_7.out (fun _ hk => ⟨hk.1.1, ⟨hk.2, ⟨hk.1.2.1, hk.1.2.2⟩⟩⟩)⟩, ⟨by (try simp only [hl5_3]); (with_reducible repeat (first | apply Kd.R_alloc | apply Kd.R_drewN | apply Kd.R_drew)); exact HO_9.out⟩, ⟨by (try simp only [hl5_3]); (with_reducible repeat (first | apply Kd.R_alloc | apply Kd.R_drewN | apply Kd.R_drew)); exact Kd.R_mono HO_11.out (fun _ hk => ⟨hk.1.1, ⟨hk.1.2.1, ⟨hk.2, hk.1.2.2⟩⟩⟩)⟩, ⟨by (try simp only [hl5_3]); (with_reducible repeat (first | apply Kd.R_alloc | apply Kd.R_drewN | apply Kd.R_drew)); exact Kd.R_mono HO_12.out (fun _ hk => ⟨hk.1.1, ⟨hk.1.2.1, ⟨hk.2, hk.1.2.2⟩⟩⟩)⟩, ⟨by (try simp only [hl5_3]); (with_reducible repeat (first | refine blk_drewN ?_ _ | refine blk_drew ?_ | refine blk_alloc ?_ _)); exact BK187.out⟩, ⟨by (try simp only [hl5_3]); (with_reducible repeat (first | refine blk_drewN ?_ _ | refine blk_drew ?_ | refine blk_alloc ?_ _)); exact BK188.out⟩, ⟨by repeat (first | (with_reducible first | exact HB.out | apply below_alloc | apply pw_below_drewN | apply below_drew1 | refine below_set ?_ GE187.out | refine below_set ?_ GE188.out) | exact HB.out)⟩⟩
                              · rw [if_neg c73] at H
                                exact absurd H (by simp)
                            · rw [if_neg c72] at H
                              have c72b0 : decide (x14_4 < (x9_4.length : Int)) = false := decide_eq_false c72
                              clear c72
                              replace H := Option.bind_eq_some_iff.mp H
                              obtain ⟨t217, A780, H⟩ := H
                              replace H : (if t217 = true then ((arrearslaw3_goneOn.f k4 x5_3 (-4)).bind fun bt218 => (if bt218.1 = true then ((arrearslaw3_goneOn.f k4 x9_4 (-8)).bind fun bt220 => (if bt220.1 = true then ((arrearslaw3_goneOn.f k4 t193 (-9)).bind fun bt222 => (if bt222.1 = true then ((arrearslaw3_alike.f k4 bt222.2 y212).bind fun t224 => (arrearslaw3_InterestFresh.j4 k4 bt218.2 bt220.2 y206 (!t224) a0_0 a0_1 a0_2 a0_3 a0_4 a0_5)) else (arrearslaw3_InterestFresh.j4 k4 bt218.2 bt220.2 y206 true a0_0 a0_1 a0_2 a0_3 a0_4 a0_5))) else (arrearslaw3_InterestFresh.j4 k4 bt218.2 bt220.2 y206 true a0_0 a0_1 a0_2 a0_3 a0_4 a0_5))) else (arrearslaw3_InterestFresh.j4 k4 bt218.2 x9_4 y206 true a0_0 a0_1 a0_2 a0_3 a0_4 a0_5))) else (some false)) = some r := H
                              have A78 := Aside0.mk A780
                              clear A780
                              by_cases c79 : t217 = true
                              · subst c79
                                have H1 : ((arrearslaw3_goneOn.f k4 x5_3 (-4)).bind fun bt218 => (if bt218.1 = true then ((arrearslaw3_goneOn.f k4 x9_4 (-8)).bind fun bt220 => (if bt220.1 = true then ((arrearslaw3_goneOn.f k4 t193 (-9)).bind fun bt222 => (if bt222.1 = true then ((arrearslaw3_alike.f k4 bt222.2 y212).bind fun t224 => (arrearslaw3_InterestFresh.j4 k4 bt218.2 bt220.2 y206 (!t224) a0_0 a0_1 a0_2 a0_3 a0_4 a0_5)) else (arrearslaw3_InterestFresh.j4 k4 bt218.2 bt220.2 y206 true a0_0 a0_1 a0_2 a0_3 a0_4 a0_5))) else (arrearslaw3_InterestFresh.j4 k4 bt218.2 bt220.2 y206 true a0_0 a0_1 a0_2 a0_3 a0_4 a0_5))) else (arrearslaw3_InterestFresh.j4 k4 bt218.2 x9_4 y206 true a0_0 a0_1 a0_2 a0_3 a0_4 a0_5))) = some r := by rw [if_pos rfl] at H; exact H
                                clear H
                                have H := H1
                                clear H1
                                have HC80 := Aside0.mk H
                                clear H
                                obtain ⟨Ao81, co81, eo81⟩ := Kd.R_slice HO_9.out
                                subst eo81
                                obtain ⟨Ao82, co82, eo82⟩ := Kd.R_slice HO_12.out
                                subst eo82
                                go_upto_region 20 with (first | ((with_reducible refine gate_callee (f := 9) rfl ?_); refine goesL_ (some 127) rfl rfl Tryd.func9 (by kernel_rfl) rfl #[.slice Ao66 t193.length co66, .slice Ao82 y212.length co82] rfl (by (try simp only [List.map_toArray, List.map_cons, List.map_nil]); first | done | rfl | (simp only [List.length_drop, List.length_take]; rfl)) ?_; (with_reducible refine (arrearslaw3_alike.calls k4 _ _ t193 _ _ y212 true _ ?side1 ?side2 ?side3 ?side4 A78.out).mono ?_); (case side1 => repeat (first | exact (Kd.R_reads' HO_7.out).2.2 | (with_reducible refine Kd.C_alloc ?_ _) | (with_reducible refine Kd.C_drewN ?_ _) | (with_reducible refine Kd.C_drew ?_))); (case side2 => exact (Kd.R_reads' HO_7.out).2.1); (case side3 => repeat (first | exact (Kd.R_reads' HO_12.out).2.2 | (with_reducible refine Kd.C_alloc ?_ _) | (with_reducible refine Kd.C_drewN ?_ _) | (with_reducible refine Kd.C_drew ?_))); (case side4 => exact (Kd.R_reads' HO_12.out).2.1); rintro e w' ⟨rfl, ⟨nd, rfl⟩⟩; refine ⟨_, rfl, ?_⟩))
                                (try simp only [Act.put, List.setIfInBounds_toArray, List.set_cons_zero, List.set_cons_succ])
                                go_cut [147] (fun v147 wc => ∃ (kq : Nat) (x5_79 : List (S41)) (x9_79 : List (S41)) (x147_79 : Bool), v147 = .bool x147_79 ∧ Aside0 (arrearslaw3_InterestFresh.j4 kq x5_79 x9_79 y206 x147_79 a0_0 a0_1 a0_2 a0_3 a0_4 a0_5 = some r) ∧ Aside0 (kq ≤ k4) ∧ Aside0 (Kd.R k41 41 wc w.heap.size (fun k_ => some k_ ≠ ((.slice Ao81 x9_4.length co81) : Value).ownBlock ∧ some k_ ≠ (v207 : Value).ownBlock) (.slice Ao62 x5_3.length co62) x5_79) ∧ Aside0 (Kd.R k41 41 wc w.heap.size (fun k_ => some k_ ≠ ((.slice Ao62 x5_3.length co62) : Value).ownBlock ∧ some k_ ≠ (v207 : Value).ownBlock) (.slice Ao81 x9_4.length co81) x9_79) ∧ Aside0 (Kd.R k41 41 wc w.heap.size (fun k_ => some k_ ≠ ((.slice Ao62 x5_3.length co62) : Value).ownBlock ∧ some k_ ≠ ((.slice Ao81 x9_4.length co81) : Value).ownBlock) v207 y206) ∧ Aside0 (wc.heap[gb187]? = some (.cells #[.int .i64 a0_0, .int .i64 a0_1, .int .i64 a0_2, .int .i64 a0_3, .int .i64 a0_4, .int .i64 a0_5] 23 (0, 0))) ∧ Aside0 (wc.heap[gb188]? = some (.cells #[.int .i64 a1_0, .int .i64 a1_1, .int .i64 a1_2, .int .i64 a1_3, .int .i64 a1_4, .int .i64 a1_5] 23 (0, 0))) ∧ Aside0 (Below w.heap.size w wc))
                                case first => as_aux_lemma =>
                                  have H := HC80.out
                                  clear HC80
                                  replace H := Option.bind_eq_some_iff.mp H
                                  obtain ⟨⟨t218, t219⟩, A830, H⟩ := H
                                  replace H : (if t218 = true then ((arrearslaw3_goneOn.f k4 x9_4 (-8)).bind fun bt220 => (if bt220.1 = true then ((arrearslaw3_goneOn.f k4 t193 (-9)).bind fun bt222 => (if bt222.1 = true then ((arrearslaw3_alike.f k4 bt222.2 y212).bind fun t224 => (arrearslaw3_InterestFresh.j4 k4 t219 bt220.2 y206 (!t224) a0_0 a0_1 a0_2 a0_3 a0_4 a0_5)) else (arrearslaw3_InterestFresh.j4 k4 t219 bt220.2 y206 true a0_0 a0_1 a0_2 a0_3 a0_4 a0_5))) else (arrearslaw3_InterestFresh.j4 k4 t219 bt220.2 y206 true a0_0 a0_1 a0_2 a0_3 a0_4 a0_5))) else (arrearslaw3_InterestFresh.j4 k4 t219 x9_4 y206 true a0_0 a0_1 a0_2 a0_3 a0_4 a0_5)) = some r := H
                                  have A83 := Aside0.mk A830
                                  clear A830
                                  by_cases c84 : t218 = true
                                  · subst c84
                                    have H1 : ((arrearslaw3_goneOn.f k4 x9_4 (-8)).bind fun bt220 => (if bt220.1 = true then ((arrearslaw3_goneOn.f k4 t193 (-9)).bind fun bt222 => (if bt222.1 = true then ((arrearslaw3_alike.f k4 bt222.2 y212).bind fun t224 => (arrearslaw3_InterestFresh.j4 k4 t219 bt220.2 y206 (!t224) a0_0 a0_1 a0_2 a0_3 a0_4 a0_5)) else (arrearslaw3_InterestFresh.j4 k4 t219 bt220.2 y206 true a0_0 a0_1 a0_2 a0_3 a0_4 a0_5))) else (arrearslaw3_InterestFresh.j4 k4 t219 bt220.2 y206 true a0_0 a0_1 a0_2 a0_3 a0_4 a0_5))) = some r := by rw [if_pos rfl] at H; exact H
                                    clear H
                                    have H := H1
                                    clear H1
                                    replace H := Option.bind_eq_some_iff.mp H
                                    obtain ⟨⟨t220, t221⟩, A850, H⟩ := H
                                    replace H : (if t220 = true then ((arrearslaw3_goneOn.f k4 t193 (-9)).bind fun bt222 => (if bt222.1 = true then ((arrearslaw3_alike.f k4 bt222.2 y212).bind fun t224 => (arrearslaw3_InterestFresh.j4 k4 t219 t221 y206 (!t224) a0_0 a0_1 a0_2 a0_3 a0_4 a0_5)) else (arrearslaw3_InterestFresh.j4 k4 t219 t221 y206 true a0_0 a0_1 a0_2 a0_3 a0_4 a0_5))) else (arrearslaw3_InterestFresh.j4 k4 t219 t221 y206 true a0_0 a0_1 a0_2 a0_3 a0_4 a0_5)) = some r := H
                                    have A85 := Aside0.mk A850
                                    clear A850
                                    by_cases c86 : t220 = true
                                    · subst c86
                                      have H1 : ((arrearslaw3_goneOn.f k4 t193 (-9)).bind fun bt222 => (if bt222.1 = true then ((arrearslaw3_alike.f k4 bt222.2 y212).bind fun t224 => (arrearslaw3_InterestFresh.j4 k4 t219 t221 y206 (!t224) a0_0 a0_1 a0_2 a0_3 a0_4 a0_5)) else (arrearslaw3_InterestFresh.j4 k4 t219 t221 y206 true a0_0 a0_1 a0_2 a0_3 a0_4 a0_5))) = some r := by rw [if_pos rfl] at H; exact H
                                      clear H
                                      have H := H1
                                      clear H1
                                      replace H := Option.bind_eq_some_iff.mp H
                                      obtain ⟨⟨t222, t223⟩, A870, H⟩ := H
                                      replace H : (if t222 = true then ((arrearslaw3_alike.f k4 t223 y212).bind fun t224 => (arrearslaw3_InterestFresh.j4 k4 t219 t221 y206 (!t224) a0_0 a0_1 a0_2 a0_3 a0_4 a0_5)) else (arrearslaw3_InterestFresh.j4 k4 t219 t221 y206 true a0_0 a0_1 a0_2 a0_3 a0_4 a0_5)) = some r := H
                                      have A87 := Aside0.mk A870
                                      clear A870
                                      by_cases c88 : t222 = true
                                      · subst c88
                                        have H1 : ((arrearslaw3_alike.f k4 t223 y212).bind fun t224 => (arrearslaw3_InterestFresh.j4 k4 t219 t221 y206 (!t224) a0_0 a0_1 a0_2 a0_3 a0_4 a0_5)) = some r := by rw [if_pos rfl] at H; exact H
                                        clear H
                                        have H := H1
                                        clear H1
                                        replace H := Option.bind_eq_some_iff.mp H
                                        obtain ⟨t224, A890, H⟩ := H
                                        replace H : (arrearslaw3_InterestFresh.j4 k4 t219 t221 y206 (!t224) a0_0 a0_1 a0_2 a0_3 a0_4 a0_5) = some r := H
                                        have A89 := Aside0.mk A890
                                        clear A890
                                        have H' := Aside0.mk H
                                        clear H
                                        go_wp2_with (first | ((with_reducible refine gate_callee (f := 18) rfl ?_); refine goesL_ (some 130) rfl rfl Tryd.func18 (by kernel_rfl) rfl #[.slice Ao62 x5_3.length co62, .int .i64 (-4)] rfl (by (try simp only [List.map_toArray, List.map_cons, List.map_nil]); first | done | rfl | (simp only [List.length_drop, List.length_take]; rfl)) ?_; (with_reducible refine (arrearslaw3_goneOn.calls k4 (fun k_ => some k_ = (.slice Ao62 x5_3.length co62 : Value).ownBlock) (.slice Ao62 x5_3.length co62) x5_3 (-4) true t219 w _ ?side1 ?side2 A83.out).mono ?_); (case side1 => repeat (first | (with_reducible first | exact HB.out | apply below_alloc | apply pw_below_drewN | apply below_drew1 | refine below_set ?_ GE187.out | refine below_set ?_ GE188.out) | exact HB.out)); (case side2 => exact Kd.R_tight rfl HO_5.out); rintro e w90 ⟨rfl, hy0, hb, hkp⟩; refine ⟨_, rfl, ?_⟩; have n0_ := Aside0.mk (Kd.R_reok rfl hy0 (fun k_ e_ => HO_5.out.1 k_ e_)); have n1_ := Aside0.mk (Kd.R_mono (ok' := fun k_ => some k_ ≠ (.slice Ao62 x5_3.length co62 : Value).ownBlock ∧ some k_ ≠ (.slice Ao81 x9_4.length co81 : Value).ownBlock ∧ some k_ ≠ (v207 : Value).ownBlock ∧ some k_ ≠ (.slice Ao82 y212.length co82 : Value).ownBlock) (Kd.R_keptB (HO_7.out) hkp (fun k_ hk_ hs_ => (hk_.1) hs_)) (fun k_ hk_ => ⟨hk_.1.1, hk_.1.2.1, hk_.1.2.2.1, hk_.1.2.2.2⟩)); have n2_ := Aside0.mk (Kd.R_mono (ok' := fun k_ => some k_ ≠ (.slice Ao62 x5_3.length co62 : Value).ownBlock ∧ some k_ ≠ (.slice Ao66 t193.length co66 : Value).ownBlock ∧ some k_ ≠ (v207 : Value).ownBlock ∧ some k_ ≠ (.slice Ao82 y212.length co82 : Value).ownBlock) (Kd.R_keptB (HO_9.out) hkp (fun k_ hk_ hs_ => (hk_.1) hs_)) (fun k_ hk_ => ⟨hk_.1.1, hk_.1.2.1, hk_.1.2.2.1, hk_.1.2.2.2⟩)); have n3_ := Aside0.mk (Kd.R_mono (ok' := fun k_ => some k_ ≠ (.slice Ao62 x5_3.length co62 : Value).ownBlock ∧ some k_ ≠ (.slice Ao66 t193.length co66 : Value).ownBlock ∧ some k_ ≠ (.slice Ao81 x9_4.length co81 : Value).ownBlock ∧ some k_ ≠ (.slice Ao82 y212.length co82 : Value).ownBlock) (Kd.R_keptB (HO_11.out) hkp (fun k_ hk_ hs_ => (hk_.1) hs_)) (fun k_ hk_ => ⟨hk_.1.1, hk_.1.2.1, hk_.1.2.2.1, hk_.1.2.2.2⟩)); have n4_ := Aside0.mk (Kd.R_mono (ok' := fun k_ => some k_ ≠ (.slice Ao62 x5_3.length co62 : Value).ownBlock ∧ some k_ ≠ (.slice Ao66 t193.length co66 : Value).ownBlock ∧ some k_ ≠ (.slice Ao81 x9_4.length co81 : Value).ownBlock ∧ some k_ ≠ (v207 : Value).ownBlock) (Kd.R_keptB (HO_12.out) hkp (fun k_ hk_ hs_ => (hk_.1) hs_)) (fun k_ hk_ => ⟨hk_.1.1, hk_.1.2.1, hk_.1.2.2.1, hk_.1.2.2.2⟩)); have n5_ := Aside0.mk (blk_kept (blk_of BK187.out (fun h_ => by (with_reducible repeat (first | refine blk_drewN ?_ _ | refine blk_drew ?_ | refine blk_alloc ?_ _)); exact h_)) hkp (fun hs_ => (fun e_ => (Kd.R_ne HO_5.out BK187.out (by decide)) e_) hs_)); have n6_ := Aside0.mk (blk_kept (blk_of BK188.out (fun h_ => by (with_reducible repeat (first | refine blk_drewN ?_ _ | refine blk_drew ?_ | refine blk_alloc ?_ _)); exact h_)) hkp (fun hs_ => (fun e_ => (Kd.R_ne HO_5.out BK188.out (by decide)) e_) hs_)); have n7_ := Aside0.mk (hb); clear HO_5; clear HO_7; clear HO_9; clear HO_11; clear HO_12; clear BK187; clear BK188; clear HB; have HO_5 := n0_; have HO_7 := n1_; have HO_9 := n2_; have HO_11 := n3_; have HO_12 := n4_; have BK187 := n5_; have BK188 := n6_; have HB := n7_; clear n0_ n1_ n2_ n3_ n4_ n5_ n6_ n7_; (try clear hb); (try clear hkp); (try clear hy0)) | (go_at_call 18; (with_reducible refine (arrearslaw3_goneOn.calls k4 (fun k_ => some k_ = (.slice Ao81 x9_4.length co81 : Value).ownBlock) (.slice Ao81 x9_4.length co81) x9_4 (-8) true t221 w _ ?side1 ?side2 A85.out).mono ?_); (case side1 => repeat (first | (with_reducible first | exact HB.out | apply below_alloc | apply pw_below_drewN | apply below_drew1 | refine below_set ?_ GE187.out | refine below_set ?_ GE188.out) | exact HB.out)); (case side2 => exact Kd.R_tight rfl HO_9.out); rintro e w91 ⟨rfl, hy0, hb, hkp⟩; have n0_ := Aside0.mk (Kd.R_mono (ok' := fun k_ => some k_ ≠ (.slice Ao66 t193.length co66 : Value).ownBlock ∧ some k_ ≠ (.slice Ao81 x9_4.length co81 : Value).ownBlock ∧ some k_ ≠ (v207 : Value).ownBlock ∧ some k_ ≠ (.slice Ao82 y212.length co82 : Value).ownBlock) (Kd.R_keptB (HO_5.out) hkp (fun k_ hk_ hs_ => (hk_.2.1) hs_)) (fun k_ hk_ => ⟨hk_.1.1, hk_.1.2.1, hk_.1.2.2.1, hk_.1.2.2.2⟩)); have n1_ := Aside0.mk (Kd.R_mono (ok' := fun k_ => some k_ ≠ (.slice Ao62 x5_3.length co62 : Value).ownBlock ∧ some k_ ≠ (.slice Ao81 x9_4.length co81 : Value).ownBlock ∧ some k_ ≠ (v207 : Value).ownBlock ∧ some k_ ≠ (.slice Ao82 y212.length co82 : Value).ownBlock) (Kd.R_keptB (HO_7.out) hkp (fun k_ hk_ hs_ => (hk_.2.1) hs_)) (fun k_ hk_ => ⟨hk_.1.1, hk_.1.2.1, hk_.1.2.2.1, hk_.1.2.2.2⟩)); have n2_ := Aside0.mk (Kd.R_reok rfl hy0 (fun k_ e_ => HO_9.out.1 k_ e_)); have n3_ := Aside0.mk (Kd.R_mono (ok' := fun k_ => some k_ ≠ (.slice Ao62 x5_3.length co62 : Value).ownBlock ∧ some k_ ≠ (.slice Ao66 t193.length co66 : Value).ownBlock ∧ some k_ ≠ (.slice Ao81 x9_4.length co81 : Value).ownBlock ∧ some k_ ≠ (.slice Ao82 y212.length co82 : Value).ownBlock) (Kd.R_keptB (HO_11.out) hkp (fun k_ hk_ hs_ => (hk_.2.2.1) hs_)) (fun k_ hk_ => ⟨hk_.1.1, hk_.1.2.1, hk_.1.2.2.1, hk_.1.2.2.2⟩)); have n4_ := Aside0.mk (Kd.R_mono (ok' := fun k_ => some k_ ≠ (.slice Ao62 x5_3.length co62 : Value).ownBlock ∧ some k_ ≠ (.slice Ao66 t193.length co66 : Value).ownBlock ∧ some k_ ≠ (.slice Ao81 x9_4.length co81 : Value).ownBlock ∧ some k_ ≠ (v207 : Value).ownBlock) (Kd.R_keptB (HO_12.out) hkp (fun k_ hk_ hs_ => (hk_.2.2.1) hs_)) (fun k_ hk_ => ⟨hk_.1.1, hk_.1.2.1, hk_.1.2.2.1, hk_.1.2.2.2⟩)); have n5_ := Aside0.mk (blk_kept (blk_of BK187.out (fun h_ => by (with_reducible repeat (first | refine blk_drewN ?_ _ | refine blk_drew ?_ | refine blk_alloc ?_ _)); exact h_)) hkp (fun hs_ => (fun e_ => (Kd.R_ne HO_9.out BK187.out (by decide)) e_) hs_)); have n6_ := Aside0.mk (blk_kept (blk_of BK188.out (fun h_ => by (with_reducible repeat (first | refine blk_drewN ?_ _ | refine blk_drew ?_ | refine blk_alloc ?_ _)); exact h_)) hkp (fun hs_ => (fun e_ => (Kd.R_ne HO_9.out BK188.out (by decide)) e_) hs_)); have n7_ := Aside0.mk (hb); clear HO_5; clear HO_7; clear HO_9; clear HO_11; clear HO_12; clear BK187; clear BK188; clear HB; have HO_5 := n0_; have HO_7 := n1_; have HO_9 := n2_; have HO_11 := n3_; have HO_12 := n4_; have BK187 := n5_; have BK188 := n6_; have HB := n7_; clear n0_ n1_ n2_ n3_ n4_ n5_ n6_ n7_; (try clear hb); (try clear hkp); (try clear hy0)) | (go_at_call 18; (with_reducible refine (arrearslaw3_goneOn.calls k4 (fun k_ => some k_ = (.slice Ao66 t193.length co66 : Value).ownBlock) (.slice Ao66 t193.length co66) t193 (-9) true t223 w _ ?side1 ?side2 A87.out).mono ?_); (case side1 => repeat (first | (with_reducible first | exact HB.out | apply below_alloc | apply pw_below_drewN | apply below_drew1 | refine below_set ?_ GE187.out | refine below_set ?_ GE188.out) | exact HB.out)); (case side2 => exact Kd.R_tight rfl HO_7.out); rintro e w92 ⟨rfl, hy0, hb, hkp⟩; have n0_ := Aside0.mk (Kd.R_mono (ok' := fun k_ => some k_ ≠ (.slice Ao66 t193.length co66 : Value).ownBlock ∧ some k_ ≠ (.slice Ao81 x9_4.length co81 : Value).ownBlock ∧ some k_ ≠ (v207 : Value).ownBlock ∧ some k_ ≠ (.slice Ao82 y212.length co82 : Value).ownBlock) (Kd.R_keptB (HO_5.out) hkp (fun k_ hk_ hs_ => (hk_.1) hs_)) (fun k_ hk_ => ⟨hk_.1.1, hk_.1.2.1, hk_.1.2.2.1, hk_.1.2.2.2⟩)); have n1_ := Aside0.mk (Kd.R_reok rfl hy0 (fun k_ e_ => HO_7.out.1 k_ e_)); have n2_ := Aside0.mk (Kd.R_mono (ok' := fun k_ => some k_ ≠ (.slice Ao62 x5_3.length co62 : Value).ownBlock ∧ some k_ ≠ (.slice Ao66 t193.length co66 : Value).ownBlock ∧ some k_ ≠ (v207 : Value).ownBlock ∧ some k_ ≠ (.slice Ao82 y212.length co82 : Value).ownBlock) (Kd.R_keptB (HO_9.out) hkp (fun k_ hk_ hs_ => (hk_.2.1) hs_)) (fun k_ hk_ => ⟨hk_.1.1, hk_.1.2.1, hk_.1.2.2.1, hk_.1.2.2.2⟩)); have n3_ := Aside0.mk (Kd.R_mono (ok' := fun k_ => some k_ ≠ (.slice Ao62 x5_3.length co62 : Value).ownBlock ∧ some k_ ≠ (.slice Ao66 t193.length co66 : Value).ownBlock ∧ some k_ ≠ (.slice Ao81 x9_4.length co81 : Value).ownBlock ∧ some k_ ≠ (.slice Ao82 y212.length co82 : Value).ownBlock) (Kd.R_keptB (HO_11.out) hkp (fun k_ hk_ hs_ => (hk_.2.1) hs_)) (fun k_ hk_ => ⟨hk_.1.1, hk_.1.2.1, hk_.1.2.2.1, hk_.1.2.2.2⟩)); have n4_ := Aside0.mk (Kd.R_mono (ok' := fun k_ => some k_ ≠ (.slice Ao62 x5_3.length co62 : Value).ownBlock ∧ some k_ ≠ (.slice Ao66 t193.length co66 : Value).ownBlock ∧ some k_ ≠ (.slice Ao81 x9_4.length co81 : Value).ownBlock ∧ some k_ ≠ (v207 : Value).ownBlock) (Kd.R_keptB (HO_12.out) hkp (fun k_ hk_ hs_ => (hk_.2.1) hs_)) (fun k_ hk_ => ⟨hk_.1.1, hk_.1.2.1, hk_.1.2.2.1, hk_.1.2.2.2⟩)); have n5_ := Aside0.mk (blk_kept (blk_of BK187.out (fun h_ => by (with_reducible repeat (first | refine blk_drewN ?_ _ | refine blk_drew ?_ | refine blk_alloc ?_ _)); exact h_)) hkp (fun hs_ => (fun e_ => (Kd.R_ne HO_7.out BK187.out (by decide)) e_) hs_)); have n6_ := Aside0.mk (blk_kept (blk_of BK188.out (fun h_ => by (with_reducible repeat (first | refine blk_drewN ?_ _ | refine blk_drew ?_ | refine blk_alloc ?_ _)); exact h_)) hkp (fun hs_ => (fun e_ => (Kd.R_ne HO_7.out BK188.out (by decide)) e_) hs_)); have n7_ := Aside0.mk (hb); clear HO_5; clear HO_7; clear HO_9; clear HO_11; clear HO_12; clear BK187; clear BK188; clear HB; have HO_5 := n0_; have HO_7 := n1_; have HO_9 := n2_; have HO_11 := n3_; have HO_12 := n4_; have BK187 := n5_; have BK188 := n6_; have HB := n7_; clear n0_ n1_ n2_ n3_ n4_ n5_ n6_ n7_; (try clear hb); (try clear hkp); (try clear hy0)) | (go_at_call 9; refine calls_of_args (args' := #[.slice Ao66 t223.length co66, .slice Ao82 y212.length co82]) (by first | (rw [show t223.length = t193.length from (Kd.R_reads' HO_7.out).1.symm] <;> rfl) | rfl) ?_; (with_reducible refine (arrearslaw3_alike.calls k4 _ _ t223 _ _ y212 t224 _ ?side1 ?side2 ?side3 ?side4 A89.out).mono ?_); (case side1 => repeat (first | exact (Kd.R_reads' HO_7.out).2.2 | (with_reducible refine Kd.C_alloc ?_ _) | (with_reducible refine Kd.C_drewN ?_ _) | (with_reducible refine Kd.C_drew ?_))); (case side2 => rw [show t223.length = t193.length from (Kd.R_reads' HO_7.out).1.symm]; exact (Kd.R_reads' HO_7.out).2.1); (case side3 => repeat (first | exact (Kd.R_reads' HO_12.out).2.2 | (with_reducible refine Kd.C_alloc ?_ _) | (with_reducible refine Kd.C_drewN ?_ _) | (with_reducible refine Kd.C_drew ?_))); (case side4 => exact (Kd.R_reads' HO_12.out).2.1); rintro e w' ⟨rfl, ⟨nd, rfl⟩⟩))
                                        go_meet
                                        case rel => exact ⟨_, (t219), (t221), (!t224), (by first | rfl | (simp; done) | (simp [*]; done)), H', ⟨by have := HJ5.out; have := HJ40.out; have := HK3.out; have := HK4.out; first | omega | exact Nat.le_refl _⟩, ⟨by (try simp only [hl5_3]); (with_reducible repeat (first | apply Kd.R_alloc | apply Kd.R_drewN | apply Kd.R_drew)); exact Kd.R_mono HO_5.out (fun _ hk => ⟨hk.2.1, hk.2.2.1⟩)⟩, ⟨by (try simp only [hl5_3]); (with_reducible repeat (first | apply Kd.R_alloc | apply Kd.R_drewN | apply Kd.R_drew)); exact Kd.R_mono HO_9.out (fun _ hk => ⟨hk.1, hk.2.2.1⟩)⟩, ⟨by (try simp only [hl5_3]); (with_reducible repeat (first | apply Kd.R_alloc | apply Kd.R_drewN | apply Kd.R_drew)); exact Kd.R_mono HO_11.out (fun _ hk => ⟨hk.1, hk.2.2.1⟩)⟩, ⟨by (try simp only [hl5_3]); (with_reducible repeat (first | refine blk_drewN ?_ _ | refine blk_drew ?_ | refine blk_alloc ?_ _)); exact BK187.out⟩, ⟨by (try simp only [hl5_3]); (with_reducible repeat (first | refine blk_drewN ?_ _ | refine blk_drew ?_ | refine blk_alloc ?_ _)); exact BK188.out⟩, ⟨by repeat (first | (with_reducible first | exact HB.out | apply below_alloc | apply pw_below_drewN | apply below_drew1 | refine below_set ?_ GE187.out | refine below_set ?_ GE188.out) | exact HB.out)⟩⟩
                                      · replace c88 := Bool.eq_false_iff.mpr c88
                                        subst c88
                                        have H1 : (arrearslaw3_InterestFresh.j4 k4 t219 t221 y206 true a0_0 a0_1 a0_2 a0_3 a0_4 a0_5) = some r := by rw [if_neg (show ¬ (false = true) by decide)] at H; exact H
                                        clear H
                                        have H := H1
                                        clear H1
                                        have H' := Aside0.mk H
                                        clear H
                                        go_wp2_with (first | ((with_reducible refine gate_callee (f := 18) rfl ?_); refine goesL_ (some 130) rfl rfl Tryd.func18 (by kernel_rfl) rfl #[.slice Ao62 x5_3.length co62, .int .i64 (-4)] rfl (by (try simp only [List.map_toArray, List.map_cons, List.map_nil]); first | done | rfl | (simp only [List.length_drop, List.length_take]; rfl)) ?_; (with_reducible refine (arrearslaw3_goneOn.calls k4 (fun k_ => some k_ = (.slice Ao62 x5_3.length co62 : Value).ownBlock) (.slice Ao62 x5_3.length co62) x5_3 (-4) true t219 w _ ?side1 ?side2 A83.out).mono ?_); (case side1 => repeat (first | (with_reducible first | exact HB.out | apply below_alloc | apply pw_below_drewN | apply below_drew1 | refine below_set ?_ GE187.out | refine below_set ?_ GE188.out) | exact HB.out)); (case side2 => exact Kd.R_tight rfl HO_5.out); rintro e w93 ⟨rfl, hy0, hb, hkp⟩; refine ⟨_, rfl, ?_⟩; have n0_ := Aside0.mk (Kd.R_reok rfl hy0 (fun k_ e_ => HO_5.out.1 k_ e_)); have n1_ := Aside0.mk (Kd.R_mono (ok' := fun k_ => some k_ ≠ (.slice Ao62 x5_3.length co62 : Value).ownBlock ∧ some k_ ≠ (.slice Ao81 x9_4.length co81 : Value).ownBlock ∧ some k_ ≠ (v207 : Value).ownBlock ∧ some k_ ≠ (.slice Ao82 y212.length co82 : Value).ownBlock) (Kd.R_keptB (HO_7.out) hkp (fun k_ hk_ hs_ => (hk_.1) hs_)) (fun k_ hk_ => ⟨hk_.1.1, hk_.1.2.1, hk_.1.2.2.1, hk_.1.2.2.2⟩)); have n2_ := Aside0.mk (Kd.R_mono (ok' := fun k_ => some k_ ≠ (.slice Ao62 x5_3.length co62 : Value).ownBlock ∧ some k_ ≠ (.slice Ao66 t193.length co66 : Value).ownBlock ∧ some k_ ≠ (v207 : Value).ownBlock ∧ some k_ ≠ (.slice Ao82 y212.length co82 : Value).ownBlock) (Kd.R_keptB (HO_9.out) hkp (fun k_ hk_ hs_ => (hk_.1) hs_)) (fun k_ hk_ => ⟨hk_.1.1, hk_.1.2.1, hk_.1.2.2.1, hk_.1.2.2.2⟩)); have n3_ := Aside0.mk (Kd.R_mono (ok' := fun k_ => some k_ ≠ (.slice Ao62 x5_3.length co62 : Value).ownBlock ∧ some k_ ≠ (.slice Ao66 t193.length co66 : Value).ownBlock ∧ some k_ ≠ (.slice Ao81 x9_4.length co81 : Value).ownBlock ∧ some k_ ≠ (.slice Ao82 y212.length co82 : Value).ownBlock) (Kd.R_keptB (HO_11.out) hkp (fun k_ hk_ hs_ => (hk_.1) hs_)) (fun k_ hk_ => ⟨hk_.1.1, hk_.1.2.1, hk_.1.2.2.1, hk_.1.2.2.2⟩)); have n4_ := Aside0.mk (Kd.R_mono (ok' := fun k_ => some k_ ≠ (.slice Ao62 x5_3.length co62 : Value).ownBlock ∧ some k_ ≠ (.slice Ao66 t193.length co66 : Value).ownBlock ∧ some k_ ≠ (.slice Ao81 x9_4.length co81 : Value).ownBlock ∧ some k_ ≠ (v207 : Value).ownBlock) (Kd.R_keptB (HO_12.out) hkp (fun k_ hk_ hs_ => (hk_.1) hs_)) (fun k_ hk_ => ⟨hk_.1.1, hk_.1.2.1, hk_.1.2.2.1, hk_.1.2.2.2⟩)); have n5_ := Aside0.mk (blk_kept (blk_of BK187.out (fun h_ => by (with_reducible repeat (first | refine blk_drewN ?_ _ | refine blk_drew ?_ | refine blk_alloc ?_ _)); exact h_)) hkp (fun hs_ => (fun e_ => (Kd.R_ne HO_5.out BK187.out (by decide)) e_) hs_)); have n6_ := Aside0.mk (blk_kept (blk_of BK188.out (fun h_ => by (with_reducible repeat (first | refine blk_drewN ?_ _ | refine blk_drew ?_ | refine blk_alloc ?_ _)); exact h_)) hkp (fun hs_ => (fun e_ => (Kd.R_ne HO_5.out BK188.out (by decide)) e_) hs_)); have n7_ := Aside0.mk (hb); clear HO_5; clear HO_7; clear HO_9; clear HO_11; clear HO_12; clear BK187; clear BK188; clear HB; have HO_5 := n0_; have HO_7 := n1_; have HO_9 := n2_; have HO_11 := n3_; have HO_12 := n4_; have BK187 := n5_; have BK188 := n6_; have HB := n7_; clear n0_ n1_ n2_ n3_ n4_ n5_ n6_ n7_; (try clear hb); (try clear hkp); (try clear hy0)) | (go_at_call 18; (with_reducible refine (arrearslaw3_goneOn.calls k4 (fun k_ => some k_ = (.slice Ao81 x9_4.length co81 : Value).ownBlock) (.slice Ao81 x9_4.length co81) x9_4 (-8) true t221 w _ ?side1 ?side2 A85.out).mono ?_); (case side1 => repeat (first | (with_reducible first | exact HB.out | apply below_alloc | apply pw_below_drewN | apply below_drew1 | refine below_set ?_ GE187.out | refine below_set ?_ GE188.out) | exact HB.out)); (case side2 => exact Kd.R_tight rfl HO_9.out); rintro e w94 ⟨rfl, hy0, hb, hkp⟩; have n0_ := Aside0.mk (Kd.R_mono (ok' := fun k_ => some k_ ≠ (.slice Ao66 t193.length co66 : Value).ownBlock ∧ some k_ ≠ (.slice Ao81 x9_4.length co81 : Value).ownBlock ∧ some k_ ≠ (v207 : Value).ownBlock ∧ some k_ ≠ (.slice Ao82 y212.length co82 : Value).ownBlock) (Kd.R_keptB (HO_5.out) hkp (fun k_ hk_ hs_ => (hk_.2.1) hs_)) (fun k_ hk_ => ⟨hk_.1.1, hk_.1.2.1, hk_.1.2.2.1, hk_.1.2.2.2⟩)); have n1_ := Aside0.mk (Kd.R_mono (ok' := fun k_ => some k_ ≠ (.slice Ao62 x5_3.length co62 : Value).ownBlock ∧ some k_ ≠ (.slice Ao81 x9_4.length co81 : Value).ownBlock ∧ some k_ ≠ (v207 : Value).ownBlock ∧ some k_ ≠ (.slice Ao82 y212.length co82 : Value).ownBlock) (Kd.R_keptB (HO_7.out) hkp (fun k_ hk_ hs_ => (hk_.2.1) hs_)) (fun k_ hk_ => ⟨hk_.1.1, hk_.1.2.1, hk_.1.2.2.1, hk_.1.2.2.2⟩)); have n2_ := Aside0.mk (Kd.R_reok rfl hy0 (fun k_ e_ => HO_9.out.1 k_ e_)); have n3_ := Aside0.mk (Kd.R_mono (ok' := fun k_ => some k_ ≠ (.slice Ao62 x5_3.length co62 : Value).ownBlock ∧ some k_ ≠ (.slice Ao66 t193.length co66 : Value).ownBlock ∧ some k_ ≠ (.slice Ao81 x9_4.length co81 : Value).ownBlock ∧ some k_ ≠ (.slice Ao82 y212.length co82 : Value).ownBlock) (Kd.R_keptB (HO_11.out) hkp (fun k_ hk_ hs_ => (hk_.2.2.1) hs_)) (fun k_ hk_ => ⟨hk_.1.1, hk_.1.2.1, hk_.1.2.2.1, hk_.1.2.2.2⟩)); have n4_ := Aside0.mk (Kd.R_mono (ok' := fun k_ => some k_ ≠ (.slice Ao62 x5_3.length co62 : Value).ownBlock ∧ some k_ ≠ (.slice Ao66 t193.length co66 : Value).ownBlock ∧ some k_ ≠ (.slice Ao81 x9_4.length co81 : Value).ownBlock ∧ some k_ ≠ (v207 : Value).ownBlock) (Kd.R_keptB (HO_12.out) hkp (fun k_ hk_ hs_ => (hk_.2.2.1) hs_)) (fun k_ hk_ => ⟨hk_.1.1, hk_.1.2.1, hk_.1.2.2.1, hk_.1.2.2.2⟩)); have n5_ := Aside0.mk (blk_kept (blk_of BK187.out (fun h_ => by (with_reducible repeat (first | refine blk_drewN ?_ _ | refine blk_drew ?_ | refine blk_alloc ?_ _)); exact h_)) hkp (fun hs_ => (fun e_ => (Kd.R_ne HO_9.out BK187.out (by decide)) e_) hs_)); have n6_ := Aside0.mk (blk_kept (blk_of BK188.out (fun h_ => by (with_reducible repeat (first | refine blk_drewN ?_ _ | refine blk_drew ?_ | refine blk_alloc ?_ _)); exact h_)) hkp (fun hs_ => (fun e_ => (Kd.R_ne HO_9.out BK188.out (by decide)) e_) hs_)); have n7_ := Aside0.mk (hb); clear HO_5; clear HO_7; clear HO_9; clear HO_11; clear HO_12; clear BK187; clear BK188; clear HB; have HO_5 := n0_; have HO_7 := n1_; have HO_9 := n2_; have HO_11 := n3_; have HO_12 := n4_; have BK187 := n5_; have BK188 := n6_; have HB := n7_; clear n0_ n1_ n2_ n3_ n4_ n5_ n6_ n7_; (try clear hb); (try clear hkp); (try clear hy0)) | (go_at_call 18; (with_reducible refine (arrearslaw3_goneOn.calls k4 (fun k_ => some k_ = (.slice Ao66 t193.length co66 : Value).ownBlock) (.slice Ao66 t193.length co66) t193 (-9) false t223 w _ ?side1 ?side2 A87.out).mono ?_); (case side1 => repeat (first | (with_reducible first | exact HB.out | apply below_alloc | apply pw_below_drewN | apply below_drew1 | refine below_set ?_ GE187.out | refine below_set ?_ GE188.out) | exact HB.out)); (case side2 => exact Kd.R_tight rfl HO_7.out); rintro e w95 ⟨rfl, hy0, hb, hkp⟩; have n0_ := Aside0.mk (Kd.R_mono (ok' := fun k_ => some k_ ≠ (.slice Ao66 t193.length co66 : Value).ownBlock ∧ some k_ ≠ (.slice Ao81 x9_4.length co81 : Value).ownBlock ∧ some k_ ≠ (v207 : Value).ownBlock ∧ some k_ ≠ (.slice Ao82 y212.length co82 : Value).ownBlock) (Kd.R_keptB (HO_5.out) hkp (fun k_ hk_ hs_ => (hk_.1) hs_)) (fun k_ hk_ => ⟨hk_.1.1, hk_.1.2.1, hk_.1.2.2.1, hk_.1.2.2.2⟩)); have n1_ := Aside0.mk (Kd.R_reok rfl hy0 (fun k_ e_ => HO_7.out.1 k_ e_)); have n2_ := Aside0.mk (Kd.R_mono (ok' := fun k_ => some k_ ≠ (.slice Ao62 x5_3.length co62 : Value).ownBlock ∧ some k_ ≠ (.slice Ao66 t193.length co66 : Value).ownBlock ∧ some k_ ≠ (v207 : Value).ownBlock ∧ some k_ ≠ (.slice Ao82 y212.length co82 : Value).ownBlock) (Kd.R_keptB (HO_9.out) hkp (fun k_ hk_ hs_ => (hk_.2.1) hs_)) (fun k_ hk_ => ⟨hk_.1.1, hk_.1.2.1, hk_.1.2.2.1, hk_.1.2.2.2⟩)); have n3_ := Aside0.mk (Kd.R_mono (ok' := fun k_ => some k_ ≠ (.slice Ao62 x5_3.length co62 : Value).ownBlock ∧ some k_ ≠ (.slice Ao66 t193.length co66 : Value).ownBlock ∧ some k_ ≠ (.slice Ao81 x9_4.length co81 : Value).ownBlock ∧ some k_ ≠ (.slice Ao82 y212.length co82 : Value).ownBlock) (Kd.R_keptB (HO_11.out) hkp (fun k_ hk_ hs_ => (hk_.2.1) hs_)) (fun k_ hk_ => ⟨hk_.1.1, hk_.1.2.1, hk_.1.2.2.1, hk_.1.2.2.2⟩)); have n4_ := Aside0.mk (Kd.R_mono (ok' := fun k_ => some k_ ≠ (.slice Ao62 x5_3.length co62 : Value).ownBlock ∧ some k_ ≠ (.slice Ao66 t193.length co66 : Value).ownBlock ∧ some k_ ≠ (.slice Ao81 x9_4.length co81 : Value).ownBlock ∧ some k_ ≠ (v207 : Value).ownBlock) (Kd.R_keptB (HO_12.out) hkp (fun k_ hk_ hs_ => (hk_.2.1) hs_)) (fun k_ hk_ => ⟨hk_.1.1, hk_.1.2.1, hk_.1.2.2.1, hk_.1.2.2.2⟩)); have n5_ := Aside0.mk (blk_kept (blk_of BK187.out (fun h_ => by (with_reducible repeat (first | refine blk_drewN ?_ _ | refine blk_drew ?_ | refine blk_alloc ?_ _)); exact h_)) hkp (fun hs_ => (fun e_ => (Kd.R_ne HO_7.out BK187.out (by decide)) e_) hs_)); have n6_ := Aside0.mk (blk_kept (blk_of BK188.out (fun h_ => by (with_reducible repeat (first | refine blk_drewN ?_ _ | refine blk_drew ?_ | refine blk_alloc ?_ _)); exact h_)) hkp (fun hs_ => (fun e_ => (Kd.R_ne HO_7.out BK188.out (by decide)) e_) hs_)); have n7_ := Aside0.mk (hb); clear HO_5; clear HO_7; clear HO_9; clear HO_11; clear HO_12; clear BK187; clear BK188; clear HB; have HO_5 := n0_; have HO_7 := n1_; have HO_9 := n2_; have HO_11 := n3_; have HO_12 := n4_; have BK187 := n5_; have BK188 := n6_; have HB := n7_; clear n0_ n1_ n2_ n3_ n4_ n5_ n6_ n7_; (try clear hb); (try clear hkp); (try clear hy0)))
                                        go_meet
                                        case rel => exact ⟨_, (t219), (t221), (true), (by first | rfl | (simp; done) | (simp [*]; done)), H', ⟨by have := HJ5.out; have := HJ40.out; have := HK3.out; have := HK4.out; first | omega | exact Nat.le_refl _⟩, ⟨by (try simp only [hl5_3]); (with_reducible repeat (first | apply Kd.R_alloc | apply Kd.R_drewN | apply Kd.R_drew)); exact Kd.R_mono HO_5.out (fun _ hk => ⟨hk.2.1, hk.2.2.1⟩)⟩, ⟨by (try simp only [hl5_3]); (with_reducible repeat (first | apply Kd.R_alloc | apply Kd.R_drewN | apply Kd.R_drew)); exact Kd.R_mono HO_9.out (fun _ hk => ⟨hk.1, hk.2.2.1⟩)⟩, ⟨by (try simp only [hl5_3]); (with_reducible repeat (first | apply Kd.R_alloc | apply Kd.R_drewN | apply Kd.R_drew)); exact Kd.R_mono HO_11.out (fun _ hk => ⟨hk.1, hk.2.2.1⟩)⟩, ⟨by (try simp only [hl5_3]); (with_reducible repeat (first | refine blk_drewN ?_ _ | refine blk_drew ?_ | refine blk_alloc ?_ _)); exact BK187.out⟩, ⟨by (try simp only [hl5_3]); (with_reducible repeat (first | refine blk_drewN ?_ _ | refine blk_drew ?_ | refine blk_alloc ?_ _)); exact BK188.out⟩, ⟨by repeat (first | (with_reducible first | exact HB.out | apply below_alloc | apply pw_below_drewN | apply below_drew1 | refine below_set ?_ GE187.out | refine below_set ?_ GE188.out) | exact HB.out)⟩⟩
                                    · replace c86 := Bool.eq_false_iff.mpr c86
                                      subst c86
                                      have H1 : (arrearslaw3_InterestFresh.j4 k4 t219 t221 y206 true a0_0 a0_1 a0_2 a0_3 a0_4 a0_5) = some r := by rw [if_neg (show ¬ (false = true) by decide)] at H; exact H
                                      clear H
                                      have H := H1
                                      clear H1
                                      have H' := Aside0.mk H
                                      clear H
                                      go_wp2_with (first | ((with_reducible refine gate_callee (f := 18) rfl ?_); refine goesL_ (some 130) rfl rfl Tryd.func18 (by kernel_rfl) rfl #[.slice Ao62 x5_3.length co62, .int .i64 (-4)] rfl (by (try simp only [List.map_toArray, List.map_cons, List.map_nil]); first | done | rfl | (simp only [List.length_drop, List.length_take]; rfl)) ?_; (with_reducible refine (arrearslaw3_goneOn.calls k4 (fun k_ => some k_ = (.slice Ao62 x5_3.length co62 : Value).ownBlock) (.slice Ao62 x5_3.length co62) x5_3 (-4) true t219 w _ ?side1 ?side2 A83.out).mono ?_); (case side1 => repeat (first | (with_reducible first | exact HB.out | apply below_alloc | apply pw_below_drewN | apply below_drew1 | refine below_set ?_ GE187.out | refine below_set ?_ GE188.out) | exact HB.out)); (case side2 => exact Kd.R_tight rfl HO_5.out); rintro e w96 ⟨rfl, hy0, hb, hkp⟩; refine ⟨_, rfl, ?_⟩; have n0_ := Aside0.mk (Kd.R_reok rfl hy0 (fun k_ e_ => HO_5.out.1 k_ e_)); have n1_ := Aside0.mk (Kd.R_mono (ok' := fun k_ => some k_ ≠ (.slice Ao62 x5_3.length co62 : Value).ownBlock ∧ some k_ ≠ (.slice Ao81 x9_4.length co81 : Value).ownBlock ∧ some k_ ≠ (v207 : Value).ownBlock ∧ some k_ ≠ (.slice Ao82 y212.length co82 : Value).ownBlock) (Kd.R_keptB (HO_7.out) hkp (fun k_ hk_ hs_ => (hk_.1) hs_)) (fun k_ hk_ => ⟨hk_.1.1, hk_.1.2.1, hk_.1.2.2.1, hk_.1.2.2.2⟩)); have n2_ := Aside0.mk (Kd.R_mono (ok' := fun k_ => some k_ ≠ (.slice Ao62 x5_3.length co62 : Value).ownBlock ∧ some k_ ≠ (.slice Ao66 t193.length co66 : Value).ownBlock ∧ some k_ ≠ (v207 : Value).ownBlock ∧ some k_ ≠ (.slice Ao82 y212.length co82 : Value).ownBlock) (Kd.R_keptB (HO_9.out) hkp (fun k_ hk_ hs_ => (hk_.1) hs_)) (fun k_ hk_ => ⟨hk_.1.1, hk_.1.2.1, hk_.1.2.2.1, hk_.1.2.2.2⟩)); have n3_ := Aside0.mk (Kd.R_mono (ok' := fun k_ => some k_ ≠ (.slice Ao62 x5_3.length co62 : Value).ownBlock ∧ some k_ ≠ (.slice Ao66 t193.length co66 : Value).ownBlock ∧ some k_ ≠ (.slice Ao81 x9_4.length co81 : Value).ownBlock ∧ some k_ ≠ (.slice Ao82 y212.length co82 : Value).ownBlock) (Kd.R_keptB (HO_11.out) hkp (fun k_ hk_ hs_ => (hk_.1) hs_)) (fun k_ hk_ => ⟨hk_.1.1, hk_.1.2.1, hk_.1.2.2.1, hk_.1.2.2.2⟩)); have n4_ := Aside0.mk (Kd.R_mono (ok' := fun k_ => some k_ ≠ (.slice Ao62 x5_3.length co62 : Value).ownBlock ∧ some k_ ≠ (.slice Ao66 t193.length co66 : Value).ownBlock ∧ some k_ ≠ (.slice Ao81 x9_4.length co81 : Value).ownBlock ∧ some k_ ≠ (v207 : Value).ownBlock) (Kd.R_keptB (HO_12.out) hkp (fun k_ hk_ hs_ => (hk_.1) hs_)) (fun k_ hk_ => ⟨hk_.1.1, hk_.1.2.1, hk_.1.2.2.1, hk_.1.2.2.2⟩)); have n5_ := Aside0.mk (blk_kept (blk_of BK187.out (fun h_ => by (with_reducible repeat (first | refine blk_drewN ?_ _ | refine blk_drew ?_ | refine blk_alloc ?_ _)); exact h_)) hkp (fun hs_ => (fun e_ => (Kd.R_ne HO_5.out BK187.out (by decide)) e_) hs_)); have n6_ := Aside0.mk (blk_kept (blk_of BK188.out (fun h_ => by (with_reducible repeat (first | refine blk_drewN ?_ _ | refine blk_drew ?_ | refine blk_alloc ?_ _)); exact h_)) hkp (fun hs_ => (fun e_ => (Kd.R_ne HO_5.out BK188.out (by decide)) e_) hs_)); have n7_ := Aside0.mk (hb); clear HO_5; clear HO_7; clear HO_9; clear HO_11; clear HO_12; clear BK187; clear BK188; clear HB; have HO_5 := n0_; have HO_7 := n1_; have HO_9 := n2_; have HO_11 := n3_; have HO_12 := n4_; have BK187 := n5_; have BK188 := n6_; have HB := n7_; clear n0_ n1_ n2_ n3_ n4_ n5_ n6_ n7_; (try clear hb); (try clear hkp); (try clear hy0)) | (go_at_call 18; (with_reducible refine (arrearslaw3_goneOn.calls k4 (fun k_ => some k_ = (.slice Ao81 x9_4.length co81 : Value).ownBlock) (.slice Ao81 x9_4.length co81) x9_4 (-8) false t221 w _ ?side1 ?side2 A85.out).mono ?_); (case side1 => repeat (first | (with_reducible first | exact HB.out | apply below_alloc | apply pw_below_drewN | apply below_drew1 | refine below_set ?_ GE187.out | refine below_set ?_ GE188.out) | exact HB.out)); (case side2 => exact Kd.R_tight rfl HO_9.out); rintro e w97 ⟨rfl, hy0, hb, hkp⟩; have n0_ := Aside0.mk (Kd.R_mono (ok' := fun k_ => some k_ ≠ (.slice Ao66 t193.length co66 : Value).ownBlock ∧ some k_ ≠ (.slice Ao81 x9_4.length co81 : Value).ownBlock ∧ some k_ ≠ (v207 : Value).ownBlock ∧ some k_ ≠ (.slice Ao82 y212.length co82 : Value).ownBlock) (Kd.R_keptB (HO_5.out) hkp (fun k_ hk_ hs_ => (hk_.2.1) hs_)) (fun k_ hk_ => ⟨hk_.1.1, hk_.1.2.1, hk_.1.2.2.1, hk_.1.2.2.2⟩)); have n1_ := Aside0.mk (Kd.R_mono (ok' := fun k_ => some k_ ≠ (.slice Ao62 x5_3.length co62 : Value).ownBlock ∧ some k_ ≠ (.slice Ao81 x9_4.length co81 : Value).ownBlock ∧ some k_ ≠ (v207 : Value).ownBlock ∧ some k_ ≠ (.slice Ao82 y212.length co82 : Value).ownBlock) (Kd.R_keptB (HO_7.out) hkp (fun k_ hk_ hs_ => (hk_.2.1) hs_)) (fun k_ hk_ => ⟨hk_.1.1, hk_.1.2.1, hk_.1.2.2.1, hk_.1.2.2.2⟩)); have n2_ := Aside0.mk (Kd.R_reok rfl hy0 (fun k_ e_ => HO_9.out.1 k_ e_)); have n3_ := Aside0.mk (Kd.R_mono (ok' := fun k_ => some k_ ≠ (.slice Ao62 x5_3.length co62 : Value).ownBlock ∧ some k_ ≠ (.slice Ao66 t193.length co66 : Value).ownBlock ∧ some k_ ≠ (.slice Ao81 x9_4.length co81 : Value).ownBlock ∧ some k_ ≠ (.slice Ao82 y212.length co82 : Value).ownBlock) (Kd.R_keptB (HO_11.out) hkp (fun k_ hk_ hs_ => (hk_.2.2.1) hs_)) (fun k_ hk_ => ⟨hk_.1.1, hk_.1.2.1, hk_.1.2.2.1, hk_.1.2.2.2⟩)); have n4_ := Aside0.mk (Kd.R_mono (ok' := fun k_ => some k_ ≠ (.slice Ao62 x5_3.length co62 : Value).ownBlock ∧ some k_ ≠ (.slice Ao66 t193.length co66 : Value).ownBlock ∧ some k_ ≠ (.slice Ao81 x9_4.length co81 : Value).ownBlock ∧ some k_ ≠ (v207 : Value).ownBlock) (Kd.R_keptB (HO_12.out) hkp (fun k_ hk_ hs_ => (hk_.2.2.1) hs_)) (fun k_ hk_ => ⟨hk_.1.1, hk_.1.2.1, hk_.1.2.2.1, hk_.1.2.2.2⟩)); have n5_ := Aside0.mk (blk_kept (blk_of BK187.out (fun h_ => by (with_reducible repeat (first | refine blk_drewN ?_ _ | refine blk_drew ?_ | refine blk_alloc ?_ _)); exact h_)) hkp (fun hs_ => (fun e_ => (Kd.R_ne HO_9.out BK187.out (by decide)) e_) hs_)); have n6_ := Aside0.mk (blk_kept (blk_of BK188.out (fun h_ => by (with_reducible repeat (first | refine blk_drewN ?_ _ | refine blk_drew ?_ | refine blk_alloc ?_ _)); exact h_)) hkp (fun hs_ => (fun e_ => (Kd.R_ne HO_9.out BK188.out (by decide)) e_) hs_)); have n7_ := Aside0.mk (hb); clear HO_5; clear HO_7; clear HO_9; clear HO_11; clear HO_12; clear BK187; clear BK188; clear HB; have HO_5 := n0_; have HO_7 := n1_; have HO_9 := n2_; have HO_11 := n3_; have HO_12 := n4_; have BK187 := n5_; have BK188 := n6_; have HB := n7_; clear n0_ n1_ n2_ n3_ n4_ n5_ n6_ n7_; (try clear hb); (try clear hkp); (try clear hy0)))
                                      go_meet
                                      case rel => exact ⟨_, (t219), (t221), (true), (by first | rfl | (simp; done) | (simp [*]; done)), H', ⟨by have := HJ5.out; have := HJ40.out; have := HK3.out; have := HK4.out; first | omega | exact Nat.le_refl _⟩, ⟨by (try simp only [hl5_3]); (with_reducible repeat (first | apply Kd.R_alloc | apply Kd.R_drewN | apply Kd.R_drew)); exact Kd.R_mono HO_5.out (fun _ hk => ⟨hk.2.1, hk.2.2.1⟩)⟩, ⟨by (try simp only [hl5_3]); (with_reducible repeat (first | apply Kd.R_alloc | apply Kd.R_drewN | apply Kd.R_drew)); exact Kd.R_mono HO_9.out (fun _ hk => ⟨hk.1, hk.2.2.1⟩)⟩, ⟨by (try simp only [hl5_3]); (with_reducible repeat (first | apply Kd.R_alloc | apply Kd.R_drewN | apply Kd.R_drew)); exact Kd.R_mono HO_11.out (fun _ hk => ⟨hk.1, hk.2.2.1⟩)⟩, ⟨by (try simp only [hl5_3]); (with_reducible repeat (first | refine blk_drewN ?_ _ | refine blk_drew ?_ | refine blk_alloc ?_ _)); exact BK187.out⟩, ⟨by (try simp only [hl5_3]); (with_reducible repeat (first | refine blk_drewN ?_ _ | refine blk_drew ?_ | refine blk_alloc ?_ _)); exact BK188.out⟩, ⟨by repeat (first | (with_reducible first | exact HB.out | apply below_alloc | apply pw_below_drewN | apply below_drew1 | refine below_set ?_ GE187.out | refine below_set ?_ GE188.out) | exact HB.out)⟩⟩
                                  · replace c84 := Bool.eq_false_iff.mpr c84
                                    subst c84
                                    have H1 : (arrearslaw3_InterestFresh.j4 k4 t219 x9_4 y206 true a0_0 a0_1 a0_2 a0_3 a0_4 a0_5) = some r := by rw [if_neg (show ¬ (false = true) by decide)] at H; exact H
                                    clear H
                                    have H := H1
                                    clear H1
                                    have H' := Aside0.mk H
                                    clear H
                                    go_wp2_with (first | ((with_reducible refine gate_callee (f := 18) rfl ?_); refine goesL_ (some 130) rfl rfl Tryd.func18 (by kernel_rfl) rfl #[.slice Ao62 x5_3.length co62, .int .i64 (-4)] rfl (by (try simp only [List.map_toArray, List.map_cons, List.map_nil]); first | done | rfl | (simp only [List.length_drop, List.length_take]; rfl)) ?_; (with_reducible refine (arrearslaw3_goneOn.calls k4 (fun k_ => some k_ = (.slice Ao62 x5_3.length co62 : Value).ownBlock) (.slice Ao62 x5_3.length co62) x5_3 (-4) false t219 w _ ?side1 ?side2 A83.out).mono ?_); (case side1 => repeat (first | (with_reducible first | exact HB.out | apply below_alloc | apply pw_below_drewN | apply below_drew1 | refine below_set ?_ GE187.out | refine below_set ?_ GE188.out) | exact HB.out)); (case side2 => exact Kd.R_tight rfl HO_5.out); rintro e w98 ⟨rfl, hy0, hb, hkp⟩; refine ⟨_, rfl, ?_⟩; have n0_ := Aside0.mk (Kd.R_reok rfl hy0 (fun k_ e_ => HO_5.out.1 k_ e_)); have n1_ := Aside0.mk (Kd.R_mono (ok' := fun k_ => some k_ ≠ (.slice Ao62 x5_3.length co62 : Value).ownBlock ∧ some k_ ≠ (.slice Ao81 x9_4.length co81 : Value).ownBlock ∧ some k_ ≠ (v207 : Value).ownBlock ∧ some k_ ≠ (.slice Ao82 y212.length co82 : Value).ownBlock) (Kd.R_keptB (HO_7.out) hkp (fun k_ hk_ hs_ => (hk_.1) hs_)) (fun k_ hk_ => ⟨hk_.1.1, hk_.1.2.1, hk_.1.2.2.1, hk_.1.2.2.2⟩)); have n2_ := Aside0.mk (Kd.R_mono (ok' := fun k_ => some k_ ≠ (.slice Ao62 x5_3.length co62 : Value).ownBlock ∧ some k_ ≠ (.slice Ao66 t193.length co66 : Value).ownBlock ∧ some k_ ≠ (v207 : Value).ownBlock ∧ some k_ ≠ (.slice Ao82 y212.length co82 : Value).ownBlock) (Kd.R_keptB (HO_9.out) hkp (fun k_ hk_ hs_ => (hk_.1) hs_)) (fun k_ hk_ => ⟨hk_.1.1, hk_.1.2.1, hk_.1.2.2.1, hk_.1.2.2.2⟩)); have n3_ := Aside0.mk (Kd.R_mono (ok' := fun k_ => some k_ ≠ (.slice Ao62 x5_3.length co62 : Value).ownBlock ∧ some k_ ≠ (.slice Ao66 t193.length co66 : Value).ownBlock ∧ some k_ ≠ (.slice Ao81 x9_4.length co81 : Value).ownBlock ∧ some k_ ≠ (.slice Ao82 y212.length co82 : Value).ownBlock) (Kd.R_keptB (HO_11.out) hkp (fun k_ hk_ hs_ => (hk_.1) hs_)) (fun k_ hk_ => ⟨hk_.1.1, hk_.1.2.1, hk_.1.2.2.1, hk_.1.2.2.2⟩)); have n4_ := Aside0.mk (Kd.R_mono (ok' := fun k_ => some k_ ≠ (.slice Ao62 x5_3.length co62 : Value).ownBlock ∧ some k_ ≠ (.slice Ao66 t193.length co66 : Value).ownBlock ∧ some k_ ≠ (.slice Ao81 x9_4.length co81 : Value).ownBlock ∧ some k_ ≠ (v207 : Value).ownBlock) (Kd.R_keptB (HO_12.out) hkp (fun k_ hk_ hs_ => (hk_.1) hs_)) (fun k_ hk_ => ⟨hk_.1.1, hk_.1.2.1, hk_.1.2.2.1, hk_.1.2.2.2⟩)); have n5_ := Aside0.mk (blk_kept (blk_of BK187.out (fun h_ => by (with_reducible repeat (first | refine blk_drewN ?_ _ | refine blk_drew ?_ | refine blk_alloc ?_ _)); exact h_)) hkp (fun hs_ => (fun e_ => (Kd.R_ne HO_5.out BK187.out (by decide)) e_) hs_)); have n6_ := Aside0.mk (blk_kept (blk_of BK188.out (fun h_ => by (with_reducible repeat (first | refine blk_drewN ?_ _ | refine blk_drew ?_ | refine blk_alloc ?_ _)); exact h_)) hkp (fun hs_ => (fun e_ => (Kd.R_ne HO_5.out BK188.out (by decide)) e_) hs_)); have n7_ := Aside0.mk (hb); clear HO_5; clear HO_7; clear HO_9; clear HO_11; clear HO_12; clear BK187; clear BK188; clear HB; have HO_5 := n0_; have HO_7 := n1_; have HO_9 := n2_; have HO_11 := n3_; have HO_12 := n4_; have BK187 := n5_; have BK188 := n6_; have HB := n7_; clear n0_ n1_ n2_ n3_ n4_ n5_ n6_ n7_; (try clear hb); (try clear hkp); (try clear hy0)))
                                    go_meet
                                    case rel => exact ⟨_, (t219), (x9_4), (true), (by first | rfl | (simp; done) | (simp [*]; done)), H', ⟨by have := HJ5.out; have := HJ40.out; have := HK3.out; have := HK4.out; first | omega | exact Nat.le_refl _⟩, ⟨by (try simp only [hl5_3]); (with_reducible repeat (first | apply Kd.R_alloc | apply Kd.R_drewN | apply Kd.R_drew)); exact Kd.R_mono HO_5.out (fun _ hk => ⟨hk.2.1, hk.2.2.1⟩)⟩, ⟨by (try simp only [hl5_3]); (with_reducible repeat (first | apply Kd.R_alloc | apply Kd.R_drewN | apply Kd.R_drew)); exact Kd.R_mono HO_9.out (fun _ hk => ⟨hk.1, hk.2.2.1⟩)⟩, ⟨by (try simp only [hl5_3]); (with_reducible repeat (first | apply Kd.R_alloc | apply Kd.R_drewN | apply Kd.R_drew)); exact Kd.R_mono HO_11.out (fun _ hk => ⟨hk.1, hk.2.2.1⟩)⟩, ⟨by (try simp only [hl5_3]); (with_reducible repeat (first | refine blk_drewN ?_ _ | refine blk_drew ?_ | refine blk_alloc ?_ _)); exact BK187.out⟩, ⟨by (try simp only [hl5_3]); (with_reducible repeat (first | refine blk_drewN ?_ _ | refine blk_drew ?_ | refine blk_alloc ?_ _)); exact BK188.out⟩, ⟨by repeat (first | (with_reducible first | exact HB.out | apply below_alloc | apply pw_below_drewN | apply below_drew1 | refine below_set ?_ GE187.out | refine below_set ?_ GE188.out) | exact HB.out)⟩⟩
                                case rest => as_aux_lemma =>
                                  clear HC80
                                  try clear c1
                                  try clear c2
                                  try clear p2
                                  try clear c3
                                  try clear c4
                                  try clear c5
                                  try clear c6
                                  try clear p6
                                  try clear q6
                                  try clear hx6
                                  try clear hf6
                                  try clear c7
                                  try clear p7
                                  try clear q7
                                  try clear hx7
                                  try clear hf7
                                  try clear c8
                                  try clear c9
                                  try clear c16
                                  try clear c16b0
                                  try clear c17
                                  try clear c17b0
                                  try clear c18
                                  try clear c19
                                  try clear c20
                                  try clear c20b0
                                  try clear c21
                                  try clear c21b0
                                  try clear c22
                                  try clear c22b0
                                  try clear c23
                                  try clear c23b0
                                  try clear c24
                                  try clear c26
                                  try clear c28
                                  try clear c30
                                  try clear c32
                                  try clear c34
                                  try clear c36
                                  try clear c38
                                  try clear c40
                                  try clear c42
                                  try clear c42b0
                                  try clear c42b1
                                  try clear c42b2
                                  try clear c43
                                  try clear c43b0
                                  try clear c43b1
                                  try clear c43b2
                                  try clear c45
                                  try clear c46
                                  try clear c56
                                  try clear c57
                                  try clear c58
                                  try clear p64
                                  try clear c67
                                  try clear c67b0
                                  try clear c68
                                  try clear c68b0
                                  try clear c69
                                  try clear p69
                                  try clear q69
                                  try clear hx69
                                  try clear hf69
                                  try clear c70
                                  try clear hx70
                                  try clear hf70
                                  try clear c72
                                  try clear c72b0
                                  try clear c73
                                  try clear c73b0
                                  try clear c74
                                  try clear p74
                                  try clear q74
                                  try clear hx74
                                  try clear hf74
                                  try clear c76
                                  try clear hx76
                                  try clear hf76
                                  try clear c79
                                  try clear c84
                                  try clear c86
                                  try clear c88
                                  try clear hcz10_0
                                  try clear hcz10_1
                                  try clear hcz10_2
                                  try clear hcz10_3
                                  try clear hcz10_4
                                  try clear hcz10_5
                                  try clear hcz12_0
                                  try clear hcz12_1
                                  try clear hcz12_2
                                  try clear hcz12_3
                                  try clear hcz12_4
                                  try clear hcz12_5
                                  try clear hcz14_0
                                  try clear hcz14_1
                                  try clear hcz14_2
                                  try clear hcz14_3
                                  try clear hcz14_4
                                  try clear hcz14_5
                                  try clear hcz25_0
                                  try clear hcz25_1
                                  try clear hcz25_2
                                  try clear hcz25_3
                                  try clear hcz25_4
                                  try clear hcz25_5
                                  try clear hcz27_0
                                  try clear hcz27_1
                                  try clear hcz27_2
                                  try clear hcz27_3
                                  try clear hcz27_4
                                  try clear hcz27_5
                                  try clear hcz29_0
                                  try clear hcz29_1
                                  try clear hcz29_2
                                  try clear hcz29_3
                                  try clear hcz29_4
                                  try clear hcz29_5
                                  try clear hcz31_0
                                  try clear hcz31_1
                                  try clear hcz31_2
                                  try clear hcz31_3
                                  try clear hcz31_4
                                  try clear hcz31_5
                                  try clear hcz33_0
                                  try clear hcz33_1
                                  try clear hcz33_2
                                  try clear hcz33_3
                                  try clear hcz33_4
                                  try clear hcz33_5
                                  try clear hcz35_0
                                  try clear hcz35_1
                                  try clear hcz35_2
                                  try clear hcz35_3
                                  try clear hcz35_4
                                  try clear hcz35_5
                                  try clear hcz37_0
                                  try clear hcz37_1
                                  try clear hcz37_2
                                  try clear hcz37_3
                                  try clear hcz37_4
                                  try clear hcz37_5
                                  try clear hcz39_0
                                  try clear hcz39_1
                                  try clear hcz39_2
                                  try clear hcz39_3
                                  try clear hcz39_4
                                  try clear hcz39_5
                                  try clear hfz10_0
                                  try clear hfz10_1
                                  try clear hfz10_2
                                  try clear hfz10_3
                                  try clear hfz10_4
                                  try clear hfz10_5
                                  try clear hfz12_0
                                  try clear hfz12_1
                                  try clear hfz12_2
                                  try clear hfz12_3
                                  try clear hfz12_4
                                  try clear hfz12_5
                                  try clear hfz14_0
                                  try clear hfz14_1
                                  try clear hfz14_2
                                  try clear hfz14_3
                                  try clear hfz14_4
                                  try clear hfz14_5
                                  try clear hfz25_0
                                  try clear hfz25_1
                                  try clear hfz25_2
                                  try clear hfz25_3
                                  try clear hfz25_4
                                  try clear hfz25_5
                                  try clear hfz27_0
                                  try clear hfz27_1
                                  try clear hfz27_2
                                  try clear hfz27_3
                                  try clear hfz27_4
                                  try clear hfz27_5
                                  try clear hfz29_0
                                  try clear hfz29_1
                                  try clear hfz29_2
                                  try clear hfz29_3
                                  try clear hfz29_4
                                  try clear hfz29_5
                                  try clear hfz31_0
                                  try clear hfz31_1
                                  try clear hfz31_2
                                  try clear hfz31_3
                                  try clear hfz31_4
                                  try clear hfz31_5
                                  try clear hfz33_0
                                  try clear hfz33_1
                                  try clear hfz33_2
                                  try clear hfz33_3
                                  try clear hfz33_4
                                  try clear hfz33_5
                                  try clear hfz35_0
                                  try clear hfz35_1
                                  try clear hfz35_2
                                  try clear hfz35_3
                                  try clear hfz35_4
                                  try clear hfz35_5
                                  try clear hfz37_0
                                  try clear hfz37_1
                                  try clear hfz37_2
                                  try clear hfz37_3
                                  try clear hfz37_4
                                  try clear hfz37_5
                                  try clear hfz39_0
                                  try clear hfz39_1
                                  try clear hfz39_2
                                  try clear hfz39_3
                                  try clear hfz39_4
                                  try clear hfz39_5
                                  try clear hx69_0
                                  try clear hx69_1
                                  try clear hx69_2
                                  try clear hx69_3
                                  try clear hx70_0
                                  try clear hx70_1
                                  try clear hx70_2
                                  try clear hx70_3
                                  try clear hx74_0
                                  try clear hx74_1
                                  try clear hx74_2
                                  try clear hx74_3
                                  try clear hx76_0
                                  try clear hx76_1
                                  try clear hx76_2
                                  try clear hx76_3
                                  try clear p2
                                  try clear p6
                                  try clear p64
                                  try clear p69
                                  try clear p74
                                  try clear q6
                                  try clear q69
                                  try clear q74
                                  obtain ⟨kq, x5_79, x9_79, x147_79, rfl, HA, HJ79, HO_5, HO_9, HO_11, BK187, BK188, HB⟩ := hcut
                                  have hl5_79 := (Kd.R_reads' HO_5.out).1
                                  rw [hl5_79] at HO_5
                                  (try simp only [hl5_79])
                                  (try simp only [hl5_79] at BK187)
                                  (try simp only [hl5_79] at BK188)
                                  (try simp only [hl5_79] at HO_9)
                                  (try simp only [hl5_79] at HO_11)
                                  have hl9_79 := (Kd.R_reads' HO_9.out).1
                                  rw [hl9_79] at HO_9
                                  (try simp only [hl9_79])
                                  (try simp only [hl9_79] at BK187)
                                  (try simp only [hl9_79] at BK188)
                                  (try simp only [hl9_79] at HO_5)
                                  (try simp only [hl9_79] at HO_11)
                                  cases kq with
                                  | zero => exact absurd HA.out (by simp [arrearslaw3_InterestFresh.j4])
                                  | succ kj79 =>
                                    have H := HA.out
                                    clear HA
                                    simp only [arrearslaw3_InterestFresh.j4] at H
                                    by_cases c99 : x147_79 = true
                                    · subst c99
                                      have H1 : (some false) = some r := by rw [if_pos rfl] at H; exact H
                                      clear H
                                      have H := H1
                                      clear H1
                                      obtain rfl := Option.some.inj H
                                      go_wp2
                                      go_ret
                                      exact ⟨by first | rfl | (simp [errW_none, errW_some] <;> rfl) | (simp [*, errW_none, errW_some] <;> rfl), by repeat (first | (with_reducible first | exact HB.out | apply below_alloc | apply pw_below_drewN | apply below_drew1 | refine below_set ?_ GE187.out | refine below_set ?_ GE188.out) | exact HB.out)⟩
                                    · replace c99 := Bool.eq_false_iff.mpr c99
                                      subst c99
                                      have H1 : (arrearslaw3_InterestFresh.l2 kj79 x5_79 x9_79 y206 0 a0_0 a0_1 a0_2 a0_3 a0_4 a0_5) = some r := by rw [if_neg (show ¬ (false = true) by decide)] at H; exact H
                                      clear H
                                      have H := H1
                                      clear H1
                                      have H' := Aside0.mk H
                                      clear H
                                      go_wp2
                                      go_loopg [15] kj79 (fun kq v15 w' => ∃ (x15_6 : Int), v15 = .int .i64 x15_6 ∧ Aside0 (arrearslaw3_InterestFresh.l2 kq x5_79 x9_79 y206 x15_6 a0_0 a0_1 a0_2 a0_3 a0_4 a0_5 = some r) ∧ Aside0 (kq ≤ kj79) ∧ Aside0 (Kd.R k41 41 w' w.heap.size (fun k_ => some k_ ≠ ((.slice Ao81 x9_79.length co81) : Value).ownBlock ∧ some k_ ≠ (v207 : Value).ownBlock) (.slice Ao62 x5_79.length co62) x5_79) ∧ Aside0 (Kd.R k41 41 w' w.heap.size (fun k_ => some k_ ≠ ((.slice Ao62 x5_79.length co62) : Value).ownBlock ∧ some k_ ≠ (v207 : Value).ownBlock) (.slice Ao81 x9_79.length co81) x9_79) ∧ Aside0 (Kd.R k41 41 w' w.heap.size (fun k_ => some k_ ≠ ((.slice Ao62 x5_79.length co62) : Value).ownBlock ∧ some k_ ≠ ((.slice Ao81 x9_79.length co81) : Value).ownBlock) v207 y206) ∧ Aside0 (w'.heap[gb187]? = some (.cells #[.int .i64 a0_0, .int .i64 a0_1, .int .i64 a0_2, .int .i64 a0_3, .int .i64 a0_4, .int .i64 a0_5] 23 (0, 0))) ∧ Aside0 (w'.heap[gb188]? = some (.cells #[.int .i64 a1_0, .int .i64 a1_1, .int .i64 a1_2, .int .i64 a1_3, .int .i64 a1_4, .int .i64 a1_5] 23 (0, 0))) ∧ Aside0 (Below w.heap.size w w'))
                                      case atStart => exact ⟨(0), (by first | rfl | (simp; done) | (simp [*]; done)), H', ⟨Nat.le_refl _⟩, ⟨by (try simp only [hl5_3]); (try simp only [hl5_79]); (try simp only [hl9_79]); (with_reducible repeat (first | apply Kd.R_alloc | apply Kd.R_drewN | apply Kd.R_drew)); exact HO_5.out⟩, ⟨by (try simp only [hl5_3]); (try simp only [hl5_79]); (try simp only [hl9_79]); (with_reducible repeat (first | apply Kd.R_alloc | apply Kd.R_drewN | apply Kd.R_drew)); exact HO_9.out⟩, ⟨by (try simp only [hl5_3]); (try simp only [hl5_79]); (try simp only [hl9_79]); (with_reducible repeat (first | apply Kd.R_alloc | apply Kd.R_drewN | apply Kd.R_drew)); exact HO_11.out⟩, ⟨by (try simp only [hl5_3]); (try simp only [hl5_79]); (try simp only [hl9_79]); (with_reducible repeat (first | refine blk_drewN ?_ _ | refine blk_drew ?_ | refine blk_alloc ?_ _)); exact BK187.out⟩, ⟨by (try simp only [hl5_3]); (try simp only [hl5_79]); (try simp only [hl9_79]); (with_reducible repeat (first | refine blk_drewN ?_ _ | refine blk_drew ?_ | refine blk_alloc ?_ _)); exact BK188.out⟩, ⟨by repeat (first | (with_reducible first | exact HB.out | apply below_alloc | apply pw_below_drewN | apply below_drew1 | refine below_set ?_ GE187.out | refine below_set ?_ GE188.out) | exact HB.out)⟩⟩
                                      case round => as_aux_lemma =>
                                        clear H'
                                        try clear c1
                                        try clear c2
                                        try clear p2
                                        try clear c3
                                        try clear c4
                                        try clear c5
                                        try clear c6
                                        try clear p6
                                        try clear q6
                                        try clear hx6
                                        try clear hf6
                                        try clear c7
                                        try clear p7
                                        try clear q7
                                        try clear hx7
                                        try clear hf7
                                        try clear c8
                                        try clear c9
                                        try clear c16
                                        try clear c16b0
                                        try clear c17
                                        try clear c17b0
                                        try clear c18
                                        try clear c19
                                        try clear c20
                                        try clear c20b0
                                        try clear c21
                                        try clear c21b0
                                        try clear c22
                                        try clear c22b0
                                        try clear c23
                                        try clear c23b0
                                        try clear c24
                                        try clear c26
                                        try clear c28
                                        try clear c30
                                        try clear c32
                                        try clear c34
                                        try clear c36
                                        try clear c38
                                        try clear c40
                                        try clear c42
                                        try clear c42b0
                                        try clear c42b1
                                        try clear c42b2
                                        try clear c43
                                        try clear c43b0
                                        try clear c43b1
                                        try clear c43b2
                                        try clear c45
                                        try clear c46
                                        try clear c56
                                        try clear c57
                                        try clear c58
                                        try clear p64
                                        try clear c67
                                        try clear c67b0
                                        try clear c68
                                        try clear c68b0
                                        try clear c69
                                        try clear p69
                                        try clear q69
                                        try clear hx69
                                        try clear hf69
                                        try clear c70
                                        try clear hx70
                                        try clear hf70
                                        try clear c72
                                        try clear c72b0
                                        try clear c73
                                        try clear c73b0
                                        try clear c74
                                        try clear p74
                                        try clear q74
                                        try clear hx74
                                        try clear hf74
                                        try clear c76
                                        try clear hx76
                                        try clear hf76
                                        try clear c79
                                        try clear c84
                                        try clear c86
                                        try clear c88
                                        try clear c99
                                        try clear hcz10_0
                                        try clear hcz10_1
                                        try clear hcz10_2
                                        try clear hcz10_3
                                        try clear hcz10_4
                                        try clear hcz10_5
                                        try clear hcz12_0
                                        try clear hcz12_1
                                        try clear hcz12_2
                                        try clear hcz12_3
                                        try clear hcz12_4
                                        try clear hcz12_5
                                        try clear hcz14_0
                                        try clear hcz14_1
                                        try clear hcz14_2
                                        try clear hcz14_3
                                        try clear hcz14_4
                                        try clear hcz14_5
                                        try clear hcz25_0
                                        try clear hcz25_1
                                        try clear hcz25_2
                                        try clear hcz25_3
                                        try clear hcz25_4
                                        try clear hcz25_5
                                        try clear hcz27_0
                                        try clear hcz27_1
                                        try clear hcz27_2
                                        try clear hcz27_3
                                        try clear hcz27_4
                                        try clear hcz27_5
                                        try clear hcz29_0
                                        try clear hcz29_1
                                        try clear hcz29_2
                                        try clear hcz29_3
                                        try clear hcz29_4
                                        try clear hcz29_5
                                        try clear hcz31_0
                                        try clear hcz31_1
                                        try clear hcz31_2
                                        try clear hcz31_3
                                        try clear hcz31_4
                                        try clear hcz31_5
                                        try clear hcz33_0
                                        try clear hcz33_1
                                        try clear hcz33_2
                                        try clear hcz33_3
                                        try clear hcz33_4
                                        try clear hcz33_5
                                        try clear hcz35_0
                                        try clear hcz35_1
                                        try clear hcz35_2
                                        try clear hcz35_3
                                        try clear hcz35_4
                                        try clear hcz35_5
                                        try clear hcz37_0
                                        try clear hcz37_1
                                        try clear hcz37_2
                                        try clear hcz37_3
                                        try clear hcz37_4
                                        try clear hcz37_5
                                        try clear hcz39_0
                                        try clear hcz39_1
                                        try clear hcz39_2
                                        try clear hcz39_3
                                        try clear hcz39_4
                                        try clear hcz39_5
                                        try clear hfz10_0
                                        try clear hfz10_1
                                        try clear hfz10_2
                                        try clear hfz10_3
                                        try clear hfz10_4
                                        try clear hfz10_5
                                        try clear hfz12_0
                                        try clear hfz12_1
                                        try clear hfz12_2
                                        try clear hfz12_3
                                        try clear hfz12_4
                                        try clear hfz12_5
                                        try clear hfz14_0
                                        try clear hfz14_1
                                        try clear hfz14_2
                                        try clear hfz14_3
                                        try clear hfz14_4
                                        try clear hfz14_5
                                        try clear hfz25_0
                                        try clear hfz25_1
                                        try clear hfz25_2
                                        try clear hfz25_3
                                        try clear hfz25_4
                                        try clear hfz25_5
                                        try clear hfz27_0
                                        try clear hfz27_1
                                        try clear hfz27_2
                                        try clear hfz27_3
                                        try clear hfz27_4
                                        try clear hfz27_5
                                        try clear hfz29_0
                                        try clear hfz29_1
                                        try clear hfz29_2
                                        try clear hfz29_3
                                        try clear hfz29_4
                                        try clear hfz29_5
                                        try clear hfz31_0
                                        try clear hfz31_1
                                        try clear hfz31_2
                                        try clear hfz31_3
                                        try clear hfz31_4
                                        try clear hfz31_5
                                        try clear hfz33_0
                                        try clear hfz33_1
                                        try clear hfz33_2
                                        try clear hfz33_3
                                        try clear hfz33_4
                                        try clear hfz33_5
                                        try clear hfz35_0
                                        try clear hfz35_1
                                        try clear hfz35_2
                                        try clear hfz35_3
                                        try clear hfz35_4
                                        try clear hfz35_5
                                        try clear hfz37_0
                                        try clear hfz37_1
                                        try clear hfz37_2
                                        try clear hfz37_3
                                        try clear hfz37_4
                                        try clear hfz37_5
                                        try clear hfz39_0
                                        try clear hfz39_1
                                        try clear hfz39_2
                                        try clear hfz39_3
                                        try clear hfz39_4
                                        try clear hfz39_5
                                        try clear hx69_0
                                        try clear hx69_1
                                        try clear hx69_2
                                        try clear hx69_3
                                        try clear hx70_0
                                        try clear hx70_1
                                        try clear hx70_2
                                        try clear hx70_3
                                        try clear hx74_0
                                        try clear hx74_1
                                        try clear hx74_2
                                        try clear hx74_3
                                        try clear hx76_0
                                        try clear hx76_1
                                        try clear hx76_2
                                        try clear hx76_3
                                        try clear p2
                                        try clear p6
                                        try clear p64
                                        try clear p69
                                        try clear p7
                                        try clear p74
                                        try clear q6
                                        try clear q69
                                        try clear q7
                                        try clear q74
                                        obtain ⟨x15_6, rfl, HA, HK6, HO_5, HO_9, HO_11, BK187, BK188, HB⟩ := hrel
                                        cases gk with
                                        | zero => exact absurd HA.out (by simp [arrearslaw3_InterestFresh.l2])
                                        | succ k6 =>
                                          have H := HA.out
                                          clear HA
                                          simp only [arrearslaw3_InterestFresh.l2] at H
                                          by_cases c100 : x15_6 < (x5_79.length : Int)
                                          · rw [if_pos c100] at H
                                            have c100b0 : decide (x15_6 < (x5_79.length : Int)) = true := decide_eq_true c100
                                            clear c100
                                            by_cases c101 : 0 ≤ x15_6
                                            · rw [if_pos c101] at H
                                              have c101b0 : decide (0 ≤ x15_6) = true := decide_eq_true c101
                                              clear c101
                                              by_cases c102 : ((rd_T41 x5_79 x15_6).f0) = (-1)
                                              · rw [if_pos c102] at H
                                                have c102b0 : (((rd_T41 x5_79 x15_6).f0) == (-1)) = true := beq_iff_eq.mpr c102
                                                have c102b1 : (((rd_T41 x5_79 x15_6).f0) != (-1)) = false := bne_eq_false_iff_eq.mpr c102
                                                clear c102
                                                by_cases c103 : x15_6 < (x9_79.length : Int)
                                                · rw [if_pos c103] at H
                                                  have c103b0 : decide (x15_6 < (x9_79.length : Int)) = true := decide_eq_true c103
                                                  clear c103
                                                  by_cases c104 : ((rd_T41 x9_79 x15_6).f0) = (-5)
                                                  · rw [if_pos c104] at H
                                                    have c104b0 : (((rd_T41 x9_79 x15_6).f0) == (-5)) = true := beq_iff_eq.mpr c104
                                                    have c104b1 : (((rd_T41 x9_79 x15_6).f0) != (-5)) = false := bne_eq_false_iff_eq.mpr c104
                                                    clear c104
                                                    have H' := Aside0.mk H
                                                    clear H
                                                    have p225 : 0 ≤ (x15_6 : Int) := of_decide_eq_true (by first | (with_reducible assumption) | assumption)
                                                    have q225 : x15_6 < (x5_79.length : Int) := of_decide_eq_true (by first | (with_reducible assumption) | assumption)
                                                    obtain ⟨ad225, e225, hx225_0, hx225_1, hx225_2, hx225_3⟩ := at_T41 (Kd.R_reads' HO_5.out).2.2 x15_6 p225 q225
                                                    cases e225
                                                    replace p225 := eq_true p225
                                                    replace q225 := eq_true q225
                                                    have p226 : 0 ≤ (x15_6 : Int) := of_decide_eq_true (by first | (with_reducible assumption) | assumption)
                                                    have q226 : x15_6 < (x9_79.length : Int) := of_decide_eq_true (by first | (with_reducible assumption) | assumption)
                                                    obtain ⟨ad226, e226, hx226_0, hx226_1, hx226_2, hx226_3⟩ := at_T41 (Kd.R_reads' HO_9.out).2.2 x15_6 p226 q226
                                                    cases e226
                                                    replace p226 := eq_true p226
                                                    replace q226 := eq_true q226
                                                    go_wp2
                                                    go_roundg k6
                                                    case measure => have := HJ5.out; have := HJ40.out; have := HK3.out; have := HK4.out; have := HJ79.out; have := HK6.out; omega
                                                    case rel => exact ⟨(wrap64 (x15_6 + 1)), (by first | rfl | (simp; done) | (simp [*]; done)), H', ⟨by have := HJ5.out; have := HJ40.out; have := HK3.out; have := HK4.out; have := HJ79.out; have := HK6.out; omega⟩, ⟨by (try simp only [hl5_3]); (try simp only [hl5_79]); (try simp only [hl9_79]); (with_reducible repeat (first | apply Kd.R_alloc | apply Kd.R_drewN | apply Kd.R_drew)); exact HO_5.out⟩, ⟨by (try simp only [hl5_3]); (try simp only [hl5_79]); (try simp only [hl9_79]); (with_reducible repeat (first | apply Kd.R_alloc | apply Kd.R_drewN | apply Kd.R_drew)); exact HO_9.out⟩, ⟨by (try simp only [hl5_3]); (try simp only [hl5_79]); (try simp only [hl9_79]); (with_reducible repeat (first | apply Kd.R_alloc | apply Kd.R_drewN | apply Kd.R_drew)); exact HO_11.out⟩, ⟨by (try simp only [hl5_3]); (try simp only [hl5_79]); (try simp only [hl9_79]); (with_reducible repeat (first | refine blk_drewN ?_ _ | refine blk_drew ?_ | refine blk_alloc ?_ _)); exact BK187.out⟩, ⟨by (try simp only [hl5_3]); (try simp only [hl5_79]); (try simp only [hl9_79]); (with_reducible repeat (first | refine blk_drewN ?_ _ | refine blk_drew ?_ | refine blk_alloc ?_ _)); exact BK188.out⟩, ⟨by repeat (first | (with_reducible first | exact HB.out | apply below_alloc | apply pw_below_drewN | apply below_drew1 | refine below_set ?_ GE187.out | refine below_set ?_ GE188.out) | exact HB.out)⟩⟩
                                                  · rw [if_neg c104] at H
                                                    have c104b0 : (((rd_T41 x9_79 x15_6).f0) == (-5)) = false := beq_eq_false_iff_ne.mpr c104
                                                    have c104b1 : (((rd_T41 x9_79 x15_6).f0) != (-5)) = true := bne_iff_ne.mpr c104
                                                    obtain rfl := Option.some.inj H
                                                    have p225 : 0 ≤ (x15_6 : Int) := of_decide_eq_true (by first | (with_reducible assumption) | assumption)
                                                    have q225 : x15_6 < (x5_79.length : Int) := of_decide_eq_true (by first | (with_reducible assumption) | assumption)
                                                    obtain ⟨ad225, e225, hx225_0, hx225_1, hx225_2, hx225_3⟩ := at_T41 (Kd.R_reads' HO_5.out).2.2 x15_6 p225 q225
                                                    cases e225
                                                    replace p225 := eq_true p225
                                                    replace q225 := eq_true q225
                                                    have p226 : 0 ≤ (x15_6 : Int) := of_decide_eq_true (by first | (with_reducible assumption) | assumption)
                                                    have q226 : x15_6 < (x9_79.length : Int) := of_decide_eq_true (by first | (with_reducible assumption) | assumption)
                                                    obtain ⟨ad226, e226, hx226_0, hx226_1, hx226_2, hx226_3⟩ := at_T41 (Kd.R_reads' HO_9.out).2.2 x15_6 p226 q226
                                                    cases e226
                                                    replace p226 := eq_true p226
                                                    replace q226 := eq_true q226
                                                    go_wp2
                                                    go_ret
                                                    exact ⟨by first | rfl | (simp [errW_none, errW_some] <;> rfl) | (simp [*, errW_none, errW_some] <;> rfl), by repeat (first | (with_reducible first | exact HB.out | apply below_alloc | apply pw_below_drewN | apply below_drew1 | refine below_set ?_ GE187.out | refine below_set ?_ GE188.out) | exact HB.out)⟩
                                                · rw [if_neg c103] at H
                                                  exact absurd H (by simp)
                                              · rw [if_neg c102] at H
                                                have c102b0 : (((rd_T41 x5_79 x15_6).f0) == (-1)) = false := beq_eq_false_iff_ne.mpr c102
                                                have c102b1 : (((rd_T41 x5_79 x15_6).f0) != (-1)) = true := bne_iff_ne.mpr c102
                                                obtain rfl := Option.some.inj H
                                                have p225 : 0 ≤ (x15_6 : Int) := of_decide_eq_true (by first | (with_reducible assumption) | assumption)
                                                have q225 : x15_6 < (x5_79.length : Int) := of_decide_eq_true (by first | (with_reducible assumption) | assumption)
                                                obtain ⟨ad225, e225, hx225_0, hx225_1, hx225_2, hx225_3⟩ := at_T41 (Kd.R_reads' HO_5.out).2.2 x15_6 p225 q225
                                                cases e225
                                                replace p225 := eq_true p225
                                                replace q225 := eq_true q225
                                                go_wp2
                                                go_ret
                                                exact ⟨by first | rfl | (simp [errW_none, errW_some] <;> rfl) | (simp [*, errW_none, errW_some] <;> rfl), by repeat (first | (with_reducible first | exact HB.out | apply below_alloc | apply pw_below_drewN | apply below_drew1 | refine below_set ?_ GE187.out | refine below_set ?_ GE188.out) | exact HB.out)⟩
                                            · rw [if_neg c101] at H
                                              exact absurd H (by simp)
                                          · rw [if_neg c100] at H
                                            have c100b0 : decide (x15_6 < (x5_79.length : Int)) = false := decide_eq_false c100
                                            clear c100
                                            replace H := Option.bind_eq_some_iff.mp H
                                            obtain ⟨⟨t227, t230⟩, A1050, H⟩ := H
                                            replace H : ((arrearslaw3_alike.f k6 t227 y206).bind fun t231 => (some t231)) = some r := H
                                            have A105 := Aside0.mk A1050
                                            clear A1050
                                            replace H := Option.bind_eq_some_iff.mp H
                                            obtain ⟨t231, A1060, H⟩ := H
                                            replace H : (some t231) = some r := H
                                            have A106 := Aside0.mk A1060
                                            clear A1060
                                            obtain rfl := Option.some.inj H
                                            have hnb107 := NB187_188.out
                                            have hnc107 := NB188_187.out
                                            have hcz108_0 : wr.cell? ⟨gb187, 0, none⟩ = some (.int .i64 a0_0) := (blk_cell BK187.out 0).trans rfl
                                            have hcz108_1 : wr.cell? ⟨gb187, 1, none⟩ = some (.int .i64 a0_1) := (blk_cell BK187.out 1).trans rfl
                                            have hcz108_2 : wr.cell? ⟨gb187, 2, none⟩ = some (.int .i64 a0_2) := (blk_cell BK187.out 2).trans rfl
                                            have hcz108_3 : wr.cell? ⟨gb187, 3, none⟩ = some (.int .i64 a0_3) := (blk_cell BK187.out 3).trans rfl
                                            have hcz108_4 : wr.cell? ⟨gb187, 4, none⟩ = some (.int .i64 a0_4) := (blk_cell BK187.out 4).trans rfl
                                            have hcz108_5 : wr.cell? ⟨gb187, 5, none⟩ = some (.int .i64 a0_5) := (blk_cell BK187.out 5).trans rfl
                                            have hfz108_0 := blk_frozen BK187.out 0
                                            have hfz108_1 := blk_frozen BK187.out 1
                                            have hfz108_2 := blk_frozen BK187.out 2
                                            have hfz108_3 := blk_frozen BK187.out 3
                                            have hfz108_4 := blk_frozen BK187.out 4
                                            have hfz108_5 := blk_frozen BK187.out 5
                                            go_wp2_with (first | ((with_reducible refine gate_callee (f := 7) rfl ?_); refine goesL_ (some 170) rfl rfl Tryd.func7 (by kernel_rfl) rfl #[.agg #[.int .i64 a0_0, .int .i64 a0_1, .int .i64 a0_2, .int .i64 a0_3, .int .i64 a0_4, .int .i64 a0_5], .slice none 0 0] rfl (by (try simp only [List.map_toArray, List.map_cons, List.map_nil]); first | done | rfl | (simp only [List.length_drop, List.length_take]; rfl)) ?_; (refine (interest_Plan.calls k6 a0_0 a0_1 a0_2 a0_3 a0_4 a0_5 _ _ ([] : List Int) t227 t230 _ ?side1 ?side2 ?side3 A105.out).mono ?_); (case side1 => exact Kd.C_nil _ _); (case side2 => exact Nat.le_refl _); (case side3 => repeat (first | exact (Kd.C_below HRT.out HB.out) | (with_reducible refine Kd.C_alloc ?_ _) | (with_reducible refine Kd.C_drewN ?_ _) | (with_reducible refine Kd.C_drew ?_))); rintro e w109 ⟨v228, rfl, ho0, hb⟩; refine ⟨_, rfl, ?_⟩; have n0_ := Aside0.mk (Kd.R_elder' (by (with_reducible repeat (first | apply Kd.R_alloc | apply Kd.R_drewN | apply Kd.R_drew)); exact HO_5.out) (Kd.R_base ho0) hb); have n1_ := Aside0.mk (Kd.R_elder' (by (with_reducible repeat (first | apply Kd.R_alloc | apply Kd.R_drewN | apply Kd.R_drew)); exact HO_9.out) (Kd.R_base ho0) hb); have n2_ := Aside0.mk (Kd.R_elder' (by (with_reducible repeat (first | apply Kd.R_alloc | apply Kd.R_drewN | apply Kd.R_drew)); exact HO_11.out) (Kd.R_base ho0) hb); have n3_ := Aside0.mk (Kd.R_lower (Kd.R_new' (Kd.R_new' (Kd.R_new' ho0 (Kd.R_lt (by (with_reducible repeat (first | apply Kd.R_alloc | apply Kd.R_drewN | apply Kd.R_drew)); exact HO_5.out))) (Kd.R_lt (by (with_reducible repeat (first | apply Kd.R_alloc | apply Kd.R_drewN | apply Kd.R_drew)); exact HO_9.out))) (Kd.R_lt (by (with_reducible repeat (first | apply Kd.R_alloc | apply Kd.R_drewN | apply Kd.R_drew)); exact HO_11.out))) (below_size (by repeat (first | (with_reducible first | exact HB.out | apply below_alloc | apply pw_below_drewN | apply below_drew1 | refine below_set ?_ GE187.out | refine below_set ?_ GE188.out) | exact HB.out)))); have n4_ := Aside0.mk (blk_below (g := gb187) (o := .cells #[.int .i64 a0_0, .int .i64 a0_1, .int .i64 a0_2, .int .i64 a0_3, .int .i64 a0_4, .int .i64 a0_5] 23 (0, 0)) (blk_of BK187.out (fun h_ => by (with_reducible repeat (first | refine blk_drewN ?_ _ | refine blk_drew ?_ | refine blk_alloc ?_ _)); exact h_)) hb); have n5_ := Aside0.mk (blk_below (g := gb188) (o := .cells #[.int .i64 a1_0, .int .i64 a1_1, .int .i64 a1_2, .int .i64 a1_3, .int .i64 a1_4, .int .i64 a1_5] 23 (0, 0)) (blk_of BK188.out (fun h_ => by (with_reducible repeat (first | refine blk_drewN ?_ _ | refine blk_drew ?_ | refine blk_alloc ?_ _)); exact h_)) hb); have n6_ := Aside0.mk (below_step (by repeat (first | (with_reducible first | exact HB.out | apply below_alloc | apply pw_below_drewN | apply below_drew1 | refine below_set ?_ GE187.out | refine below_set ?_ GE188.out) | exact HB.out)) hb); clear HO_5; clear HO_9; clear HO_11; clear BK187; clear BK188; clear HB; have HO_5 := n0_; have HO_9 := n1_; have HO_11 := n2_; have HO229 := n3_; have BK187 := n4_; have BK188 := n5_; have HB := n6_; clear n0_ n1_ n2_ n3_ n4_ n5_ n6_; (try clear hb); (try clear hb2); (try clear hk); (try clear hi); (try clear ho0); obtain ⟨Ao110, co110, eo110⟩ := Kd.R_slice HO229.out; subst eo110; obtain ⟨Ao111, co111, eo111⟩ := Kd.R_slice HO_11.out; subst eo111) | ((with_reducible refine gate_callee (f := 9) rfl ?_); refine goesL_ (some 175) rfl rfl Tryd.func9 (by kernel_rfl) rfl #[.slice Ao110 t227.length co110, .slice Ao111 y206.length co111] rfl (by (try simp only [List.map_toArray, List.map_cons, List.map_nil]); first | done | rfl | (simp only [List.length_drop, List.length_take]; rfl)) ?_; (with_reducible refine (arrearslaw3_alike.calls k6 _ _ t227 _ _ y206 t231 _ ?side1 ?side2 ?side3 ?side4 A106.out).mono ?_); (case side1 => repeat (first | exact (Kd.R_reads' HO229.out).2.2 | (with_reducible refine Kd.C_alloc ?_ _) | (with_reducible refine Kd.C_drewN ?_ _) | (with_reducible refine Kd.C_drew ?_))); (case side2 => exact (Kd.R_reads' HO229.out).2.1); (case side3 => repeat (first | exact (Kd.R_reads' HO_11.out).2.2 | (with_reducible refine Kd.C_alloc ?_ _) | (with_reducible refine Kd.C_drewN ?_ _) | (with_reducible refine Kd.C_drew ?_))); (case side4 => exact (Kd.R_reads' HO_11.out).2.1); rintro e w' ⟨rfl, ⟨nd, rfl⟩⟩; refine ⟨_, rfl, ?_⟩))
                                            go_ret
                                            exact ⟨by first | rfl | (simp [errW_none, errW_some] <;> rfl) | (simp [*, errW_none, errW_some] <;> rfl), by repeat (first | (with_reducible first | exact HB.out | apply below_alloc | apply pw_below_drewN | apply below_drew1 | refine below_set ?_ GE187.out | refine below_set ?_ GE188.out) | exact HB.out)⟩
                              · replace c79 := Bool.eq_false_iff.mpr c79
                                subst c79
                                have H1 : (some false) = some r := by rw [if_neg (show ¬ (false = true) by decide)] at H; exact H
                                clear H
                                have H := H1
                                clear H1
                                obtain rfl := Option.some.inj H
                                obtain ⟨Ao112, co112, eo112⟩ := Kd.R_slice HO_9.out
                                subst eo112
                                obtain ⟨Ao113, co113, eo113⟩ := Kd.R_slice HO_12.out
                                subst eo113
                                go_wp2_with (first | ((with_reducible refine gate_callee (f := 9) rfl ?_); refine goesL_ (some 127) rfl rfl Tryd.func9 (by kernel_rfl) rfl #[.slice Ao66 t193.length co66, .slice Ao113 y212.length co113] rfl (by (try simp only [List.map_toArray, List.map_cons, List.map_nil]); first | done | rfl | (simp only [List.length_drop, List.length_take]; rfl)) ?_; (with_reducible refine (arrearslaw3_alike.calls k4 _ _ t193 _ _ y212 false _ ?side1 ?side2 ?side3 ?side4 A78.out).mono ?_); (case side1 => repeat (first | exact (Kd.R_reads' HO_7.out).2.2 | (with_reducible refine Kd.C_alloc ?_ _) | (with_reducible refine Kd.C_drewN ?_ _) | (with_reducible refine Kd.C_drew ?_))); (case side2 => exact (Kd.R_reads' HO_7.out).2.1); (case side3 => repeat (first | exact (Kd.R_reads' HO_12.out).2.2 | (with_reducible refine Kd.C_alloc ?_ _) | (with_reducible refine Kd.C_drewN ?_ _) | (with_reducible refine Kd.C_drew ?_))); (case side4 => exact (Kd.R_reads' HO_12.out).2.1); rintro e w' ⟨rfl, ⟨nd, rfl⟩⟩; refine ⟨_, rfl, ?_⟩))
                                go_ret
                                exact ⟨by first | rfl | (simp [errW_none, errW_some] <;> rfl) | (simp [*, errW_none, errW_some] <;> rfl), by repeat (first | (with_reducible first | exact HB.out | apply below_alloc | apply pw_below_drewN | apply below_drew1 | refine below_set ?_ GE187.out | refine below_set ?_ GE188.out) | exact HB.out)⟩
                · rw [if_neg c58] at H
                  exact absurd H (by simp)
              · rw [if_neg c57] at H
                exact absurd H (by simp)

end Go.Proofs.YtogmeijmdbgmdaaDoor.PF
