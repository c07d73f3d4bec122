-- Laid by wip/myprint.py, a driver over the kit's print, for this claim: a lemma's text, not read by a person.
import Derived.Test.YtogmeijmdbgmdaaDoorYPBx0
import Derived.Test.YtogmeijmdbgmdaaDoorYPBx1
import Derived.Test.YtogmeijmdbgmdaaDoorYPBx2
import Derived.Test.YtogmeijmdbgmdaaDoorYPBx3
import Derived.Test.YtogmeijmdbgmdaaDoorYPBx4
import Derived.Test.YtogmeijmdbgmdaaDoorYPBx8
import Derived.Test.YtogmeijmdbgmdaaDoorYPBx10
import Derived.Test.YtogmeijmdbgmdaaDoorYPBx11
import Derived.Test.YtogmeijmdbgmdaaDoorYPBx12
import Derived.Test.YtogmeijmdbgmdaaDoorYPBx13
namespace Go.Proofs.YtogmeijmdbgmdaaDoor.PB
open Go.RowKit Go.Proofs.YtogmeijmdbgmdaaDoorW.PrintWords Go.Proofs.YtogmeijmdbgmdaaDoorW.PrintLast Go.Proofs.YtogmeijmdbgmdaaDoorW.PrintMore
attribute [local go_sem] max2_int min2_int max_two min_two max_three min_three max_four min_four   -- for this text's walks alone
set_option linter.unusedVariables false
set_option linter.unusedSimpArgs false

/-! ### arrearslaw3_InterestAmortizes: function 4 -/
mutual
def arrearslaw3_InterestAmortizes.j0 : Nat → List Int → Bool → Int → Int → Int → Int → Int → Int → Option (Bool)
  | 0, _, _, _, _, _, _, _, _ => none
  | k + 1, x1, x45, x184000, x184001, x184002, x184003, x184004, x184005 => if x45 = true then (some true) else (if x184004 < 1 then (arrearslaw3_InterestAmortizes.j1 k x1 true x184000 x184001 x184002 x184003 x184004 x184005) else (if x184004 > 3640000 then (arrearslaw3_InterestAmortizes.j1 k x1 true x184000 x184001 x184002 x184003 x184004 x184005) else (arrearslaw3_InterestAmortizes.j1 k x1 (decide ((x1.length : Int) > 4)) x184000 x184001 x184002 x184003 x184004 x184005)))
def arrearslaw3_InterestAmortizes.j1 : Nat → List Int → Bool → Int → Int → Int → Int → Int → Int → Option (Bool)
  | 0, _, _, _, _, _, _, _, _ => none
  | k + 1, x1, x58, x184000, x184001, x184002, x184003, x184004, x184005 => if x58 = true then (some true) else ((arrearslaw3_copied.f k x1).bind fun t185 => (if 0 ≤ (x1.length : Int) then (if (x1.length : Int) ≤ (t185.length : Int) then ((interest_Plan.f k x184000 x184001 x184002 x184003 x184004 x184005 (t185.take ((x1.length : Int) : Int).toNat)).bind fun bt192 => (if bt192.2 = true then (if (bt192.1.length : Int) = 0 then (arrearslaw3_InterestAmortizes.j2 k x1 bt192.1 true x184000 x184001 x184002 x184003 x184004 x184005) else (arrearslaw3_InterestAmortizes.j2 k x1 bt192.1 (decide ((bt192.1.length : Int) > x184003)) x184000 x184001 x184002 x184003 x184004 x184005)) else (arrearslaw3_InterestAmortizes.j2 k x1 bt192.1 true x184000 x184001 x184002 x184003 x184004 x184005))) else (none)) else (none)))
def arrearslaw3_InterestAmortizes.j2 : Nat → List Int → List (S41) → Bool → Int → Int → Int → Int → Int → Int → Option (Bool)
  | 0, _, _, _, _, _, _, _, _, _ => none
  | k + 1, x1, x5, x82, x184000, x184001, x184002, x184003, x184004, x184005 => if x82 = true then (some false) else ((interest_Level.f k x184001 x184002 x184003).bind fun bt196 => ((calendar_Civil.f k x184004).bind fun bt198 => (if bt196.2 = true then (arrearslaw3_InterestAmortizes.j3 k x1 x5 bt196.1 (!bt198.2.2.2) x184000 x184001 x184002 x184003 x184004 x184005 bt198.1 bt198.2.1 bt198.2.2.1) else (arrearslaw3_InterestAmortizes.j3 k x1 x5 bt196.1 true x184000 x184001 x184002 x184003 x184004 x184005 bt198.1 bt198.2.1 bt198.2.2.1))))
def arrearslaw3_InterestAmortizes.j3 : Nat → List Int → List (S41) → Int → Bool → Int → Int → Int → Int → Int → Int → Int → Int → Int → Option (Bool)
  | 0, _, _, _, _, _, _, _, _, _, _, _, _, _ => none
  | k + 1, x1, x5, x7, x104, x184000, x184001, x184002, x184003, x184004, x184005, x203000, x203001, x203002 => if x104 = true then (some false) else ((interest_Month.f k x184001 x184002).bind fun bt203 => (if bt203.2 = true then (if x184000 = 2 then (if bt203.1 = 0 then (arrearslaw3_InterestAmortizes.j4 k x1 x5 x7 bt203.1 ((x5.length : Int) != 1) x184000 x184001 x184002 x184003 x184004 x184005 x203000 x203001 x203002) else (arrearslaw3_InterestAmortizes.j4 k x1 x5 x7 bt203.1 false x184000 x184001 x184002 x184003 x184004 x184005 x203000 x203001 x203002)) else (arrearslaw3_InterestAmortizes.j4 k x1 x5 x7 bt203.1 false x184000 x184001 x184002 x184003 x184004 x184005 x203000 x203001 x203002)) else (arrearslaw3_InterestAmortizes.j4 k x1 x5 x7 bt203.1 true x184000 x184001 x184002 x184003 x184004 x184005 x203000 x203001 x203002)))
def arrearslaw3_InterestAmortizes.j4 : Nat → List Int → List (S41) → Int → Int → Bool → Int → Int → Int → Int → Int → Int → Int → Int → Int → Option (Bool)
  | 0, _, _, _, _, _, _, _, _, _, _, _, _, _, _ => none
  | k + 1, x1, x5, x7, x11, x128, x184000, x184001, x184002, x184003, x184004, x184005, x203000, x203001, x203002 => if x128 = true then (some false) else (arrearslaw3_InterestAmortizes.l0 k x1 x5 x7 x11 x184001 x184004 0 x184000 x184001 x184002 x184003 x184004 x184005 x203000 x203001 x203002)
def arrearslaw3_InterestAmortizes.l0 : Nat → List Int → List (S41) → Int → Int → Int → Int → Int → Int → Int → Int → Int → Int → Int → Int → Int → Int → Option (Bool)
  | 0, _, _, _, _, _, _, _, _, _, _, _, _, _, _, _, _ => none
  | k + 1, x1, x5, x7, x11, x13, x14, x15, x184000, x184001, x184002, x184003, x184004, x184005, x203000, x203001, x203002 => if x15 < (x5.length : Int) then ((interest_Month.f k x13 x184002).bind fun bt205 => (if bt205.2 = true then (if 0 ≤ x15 then (if ((rd_T41 x5 x15).f1) = bt205.1 then (if (rd_T41 x5 x15).f3 = true then (arrearslaw3_InterestAmortizes.j6 k x1 x5 x7 x11 x13 x15 true x184000 x184001 x184002 x184003 x184004 x184005 x203000 x203001 x203002) else (if ((rd_T41 x5 x15).f0) ≤ x14 then (arrearslaw3_InterestAmortizes.j6 k x1 x5 x7 x11 x13 x15 true x184000 x184001 x184002 x184003 x184004 x184005 x203000 x203001 x203002) else (arrearslaw3_InterestAmortizes.j6 k x1 x5 x7 x11 x13 x15 (decide (x13 ≤ 0)) x184000 x184001 x184002 x184003 x184004 x184005 x203000 x203001 x203002))) else (arrearslaw3_InterestAmortizes.j6 k x1 x5 x7 x11 x13 x15 true x184000 x184001 x184002 x184003 x184004 x184005 x203000 x203001 x203002)) else (none)) else (arrearslaw3_InterestAmortizes.j6 k x1 x5 x7 x11 x13 x15 true x184000 x184001 x184002 x184003 x184004 x184005 x203000 x203001 x203002))) else (some (x13 == 0))
def arrearslaw3_InterestAmortizes.j6 : Nat → List Int → List (S41) → Int → Int → Int → Int → Bool → Int → Int → Int → Int → Int → Int → Int → Int → Int → Option (Bool)
  | 0, _, _, _, _, _, _, _, _, _, _, _, _, _, _, _, _ => none
  | k + 1, x1, x5, x7, x11, x13, x15, x176, x184000, x184001, x184002, x184003, x184004, x184005, x203000, x203001, x203002 => if x176 = true then (some false) else ((arrearslaw3_share.f x184000 x184001 x184002 x184003 x184004 x184005 x5 x15 x7).bind fun t210 => (if t210 = true then (if 0 ≤ x15 then (if x15 < (x5.length : Int) then ((arrearslaw3_turn.f x184000 x184001 x184002 x184003 x184004 x184005 x11 x15).bind fun t212 => ((arrearslaw3_timely.f k x184000 x184001 x184002 x184003 x184004 x184005 x1 x203002 ((rd_T41 x5 x15).f0) t212).bind fun t213 => (arrearslaw3_InterestAmortizes.j7 k x1 x5 x7 x11 x13 x15 (!t213) x184000 x184001 x184002 x184003 x184004 x184005 x203000 x203001 x203002))) else (none)) else (none)) else (arrearslaw3_InterestAmortizes.j7 k x1 x5 x7 x11 x13 x15 true x184000 x184001 x184002 x184003 x184004 x184005 x203000 x203001 x203002)))
def arrearslaw3_InterestAmortizes.j7 : Nat → List Int → List (S41) → Int → Int → Int → Int → Bool → Int → Int → Int → Int → Int → Int → Int → Int → Int → Option (Bool)
  | 0, _, _, _, _, _, _, _, _, _, _, _, _, _, _, _, _ => none
  | k + 1, x1, x5, x7, x11, x13, x15, x199, x184000, x184001, x184002, x184003, x184004, x184005, x203000, x203001, x203002 => if x199 = true then (some false) else (if 0 ≤ x15 then (if x15 < (x5.length : Int) then (if ((rd_T41 x5 x15).f2) < 0 then (some false) else (if ((rd_T41 x5 x15).f2) > x13 then (some false) else (arrearslaw3_InterestAmortizes.l0 k x1 x5 x7 x11 (wrap64 (x13 - ((rd_T41 x5 x15).f2))) ((rd_T41 x5 x15).f0) (wrap64 (x15 + 1)) x184000 x184001 x184002 x184003 x184004 x184005 x203000 x203001 x203002))) else (none)) else (none))
end
def arrearslaw3_InterestAmortizes.f (k : Nat) (a0_0 : Int) (a0_1 : Int) (a0_2 : Int) (a0_3 : Int) (a0_4 : Int) (a0_5 : Int) (l1 : List Int) : Option (Bool) := (arrearslaw3_lending.f a0_1 a0_2 a0_3).bind fun t184 => (if t184 = true then (if a0_0 < 0 then (arrearslaw3_InterestAmortizes.j0 k l1 true a0_0 a0_1 a0_2 a0_3 a0_4 a0_5) else (if a0_0 > 2 then (arrearslaw3_InterestAmortizes.j0 k l1 true a0_0 a0_1 a0_2 a0_3 a0_4 a0_5) else (if a0_5 < 0 then (arrearslaw3_InterestAmortizes.j0 k l1 true a0_0 a0_1 a0_2 a0_3 a0_4 a0_5) else (arrearslaw3_InterestAmortizes.j0 k l1 (decide (a0_5 > 3)) a0_0 a0_1 a0_2 a0_3 a0_4 a0_5)))) else (arrearslaw3_InterestAmortizes.j0 k l1 true a0_0 a0_1 a0_2 a0_3 a0_4 a0_5))
theorem arrearslaw3_InterestAmortizes.mono_l : ∀ k, (∀ y0 y1 y2 y3 y4 y5 y6 y7, LeO (arrearslaw3_InterestAmortizes.j0 k y0 y1 y2 y3 y4 y5 y6 y7) (arrearslaw3_InterestAmortizes.j0 (k + 1) y0 y1 y2 y3 y4 y5 y6 y7)) ∧ (∀ y0 y1 y2 y3 y4 y5 y6 y7, LeO (arrearslaw3_InterestAmortizes.j1 k y0 y1 y2 y3 y4 y5 y6 y7) (arrearslaw3_InterestAmortizes.j1 (k + 1) y0 y1 y2 y3 y4 y5 y6 y7)) ∧ (∀ y0 y1 y2 y3 y4 y5 y6 y7 y8, LeO (arrearslaw3_InterestAmortizes.j2 k y0 y1 y2 y3 y4 y5 y6 y7 y8) (arrearslaw3_InterestAmortizes.j2 (k + 1) y0 y1 y2 y3 y4 y5 y6 y7 y8)) ∧ (∀ y0 y1 y2 y3 y4 y5 y6 y7 y8 y9 y10 y11 y12, LeO (arrearslaw3_InterestAmortizes.j3 k y0 y1 y2 y3 y4 y5 y6 y7 y8 y9 y10 y11 y12) (arrearslaw3_InterestAmortizes.j3 (k + 1) y0 y1 y2 y3 y4 y5 y6 y7 y8 y9 y10 y11 y12)) ∧ (∀ y0 y1 y2 y3 y4 y5 y6 y7 y8 y9 y10 y11 y12 y13, LeO (arrearslaw3_InterestAmortizes.j4 k y0 y1 y2 y3 y4 y5 y6 y7 y8 y9 y10 y11 y12 y13) (arrearslaw3_InterestAmortizes.j4 (k + 1) y0 y1 y2 y3 y4 y5 y6 y7 y8 y9 y10 y11 y12 y13)) ∧ (∀ y0 y1 y2 y3 y4 y5 y6 y7 y8 y9 y10 y11 y12 y13 y14 y15, LeO (arrearslaw3_InterestAmortizes.l0 k y0 y1 y2 y3 y4 y5 y6 y7 y8 y9 y10 y11 y12 y13 y14 y15) (arrearslaw3_InterestAmortizes.l0 (k + 1) y0 y1 y2 y3 y4 y5 y6 y7 y8 y9 y10 y11 y12 y13 y14 y15)) ∧ (∀ y0 y1 y2 y3 y4 y5 y6 y7 y8 y9 y10 y11 y12 y13 y14 y15, LeO (arrearslaw3_InterestAmortizes.j6 k y0 y1 y2 y3 y4 y5 y6 y7 y8 y9 y10 y11 y12 y13 y14 y15) (arrearslaw3_InterestAmortizes.j6 (k + 1) y0 y1 y2 y3 y4 y5 y6 y7 y8 y9 y10 y11 y12 y13 y14 y15)) ∧ (∀ y0 y1 y2 y3 y4 y5 y6 y7 y8 y9 y10 y11 y12 y13 y14 y15, LeO (arrearslaw3_InterestAmortizes.j7 k y0 y1 y2 y3 y4 y5 y6 y7 y8 y9 y10 y11 y12 y13 y14 y15) (arrearslaw3_InterestAmortizes.j7 (k + 1) y0 y1 y2 y3 y4 y5 y6 y7 y8 y9 y10 y11 y12 y13 y14 y15))
  | 0 => ⟨fun _ _ _ _ _ _ _ _ r h => by simp [arrearslaw3_InterestAmortizes.j0] at h, fun _ _ _ _ _ _ _ _ r h => by simp [arrearslaw3_InterestAmortizes.j1] at h, fun _ _ _ _ _ _ _ _ _ r h => by simp [arrearslaw3_InterestAmortizes.j2] at h, fun _ _ _ _ _ _ _ _ _ _ _ _ _ r h => by simp [arrearslaw3_InterestAmortizes.j3] at h, fun _ _ _ _ _ _ _ _ _ _ _ _ _ _ r h => by simp [arrearslaw3_InterestAmortizes.j4] at h, fun _ _ _ _ _ _ _ _ _ _ _ _ _ _ _ _ r h => by simp [arrearslaw3_InterestAmortizes.l0] at h, fun _ _ _ _ _ _ _ _ _ _ _ _ _ _ _ _ r h => by simp [arrearslaw3_InterestAmortizes.j6] at h, fun _ _ _ _ _ _ _ _ _ _ _ _ _ _ _ _ r h => by simp [arrearslaw3_InterestAmortizes.j7] at h⟩
  | k + 1 => by
    obtain ⟨ih0, ih1, ih2, ih3, ih4, ih5, ih6, ih7⟩ := arrearslaw3_InterestAmortizes.mono_l k
    refine ⟨?_, ?_, ?_, ?_, ?_, ?_, ?_, ?_⟩
    · intro y0 y1 y2 y3 y4 y5 y6 y7
      unfold arrearslaw3_InterestAmortizes.j0
      repeat' first
      | (with_reducible exact ih0 _ _ _ _ _ _ _ _)
      | (with_reducible exact ih1 _ _ _ _ _ _ _ _)
      | (with_reducible exact ih2 _ _ _ _ _ _ _ _ _)
      | (with_reducible exact ih3 _ _ _ _ _ _ _ _ _ _ _ _ _)
      | (with_reducible exact ih4 _ _ _ _ _ _ _ _ _ _ _ _ _ _)
      | (with_reducible exact ih5 _ _ _ _ _ _ _ _ _ _ _ _ _ _ _ _)
      | (with_reducible exact ih6 _ _ _ _ _ _ _ _ _ _ _ _ _ _ _ _)
      | (with_reducible exact ih7 _ _ _ _ _ _ _ _ _ _ _ _ _ _ _ _)
      | (with_reducible exact arrearslaw3_copied.mono _ _)
      | (with_reducible exact arrearslaw3_timely.mono _ _ _ _ _ _ _ _ _ _ _)
      | (with_reducible exact calendar_Civil.mono _ _)
      | (with_reducible exact interest_Level.mono _ _ _ _)
      | (with_reducible exact interest_Month.mono _ _ _)
      | (with_reducible exact interest_Plan.mono _ _ _ _ _ _ _ _)
      | (with_reducible exact LeO.refl _)
      | (with_reducible exact LeO.none _)
      | (with_reducible refine LeO.ite ?_ ?_)
      | (with_reducible refine LeO.bind ?_ (fun _ => ?_))
      | exact ih0 _ _ _ _ _ _ _ _
      | exact ih1 _ _ _ _ _ _ _ _
      | exact ih2 _ _ _ _ _ _ _ _ _
      | exact ih3 _ _ _ _ _ _ _ _ _ _ _ _ _
      | exact ih4 _ _ _ _ _ _ _ _ _ _ _ _ _ _
      | exact ih5 _ _ _ _ _ _ _ _ _ _ _ _ _ _ _ _
      | exact ih6 _ _ _ _ _ _ _ _ _ _ _ _ _ _ _ _
      | exact ih7 _ _ _ _ _ _ _ _ _ _ _ _ _ _ _ _
      | exact arrearslaw3_copied.mono _ _
      | exact arrearslaw3_timely.mono _ _ _ _ _ _ _ _ _ _ _
      | exact calendar_Civil.mono _ _
      | exact interest_Level.mono _ _ _ _
      | exact interest_Month.mono _ _ _
      | exact interest_Plan.mono _ _ _ _ _ _ _ _
      | exact LeO.none _
      | refine LeO.ite ?_ ?_
      | refine LeO.bind ?_ (fun _ => ?_)
    · intro y0 y1 y2 y3 y4 y5 y6 y7
      unfold arrearslaw3_InterestAmortizes.j1
      repeat' first
      | (with_reducible exact ih0 _ _ _ _ _ _ _ _)
      | (with_reducible exact ih1 _ _ _ _ _ _ _ _)
      | (with_reducible exact ih2 _ _ _ _ _ _ _ _ _)
      | (with_reducible exact ih3 _ _ _ _ _ _ _ _ _ _ _ _ _)
      | (with_reducible exact ih4 _ _ _ _ _ _ _ _ _ _ _ _ _ _)
      | (with_reducible exact ih5 _ _ _ _ _ _ _ _ _ _ _ _ _ _ _ _)
      | (with_reducible exact ih6 _ _ _ _ _ _ _ _ _ _ _ _ _ _ _ _)
      | (with_reducible exact ih7 _ _ _ _ _ _ _ _ _ _ _ _ _ _ _ _)
      | (with_reducible exact arrearslaw3_copied.mono _ _)
      | (with_reducible exact arrearslaw3_timely.mono _ _ _ _ _ _ _ _ _ _ _)
      | (with_reducible exact calendar_Civil.mono _ _)
      | (with_reducible exact interest_Level.mono _ _ _ _)
      | (with_reducible exact interest_Month.mono _ _ _)
      | (with_reducible exact interest_Plan.mono _ _ _ _ _ _ _ _)
      | (with_reducible exact LeO.refl _)
      | (with_reducible exact LeO.none _)
      | (with_reducible refine LeO.ite ?_ ?_)
      | (with_reducible refine LeO.bind ?_ (fun _ => ?_))
      | exact ih0 _ _ _ _ _ _ _ _
      | exact ih1 _ _ _ _ _ _ _ _
      | exact ih2 _ _ _ _ _ _ _ _ _
      | exact ih3 _ _ _ _ _ _ _ _ _ _ _ _ _
      | exact ih4 _ _ _ _ _ _ _ _ _ _ _ _ _ _
      | exact ih5 _ _ _ _ _ _ _ _ _ _ _ _ _ _ _ _
      | exact ih6 _ _ _ _ _ _ _ _ _ _ _ _ _ _ _ _
      | exact ih7 _ _ _ _ _ _ _ _ _ _ _ _ _ _ _ _
      | exact arrearslaw3_copied.mono _ _
      | exact arrearslaw3_timely.mono _ _ _ _ _ _ _ _ _ _ _
      | exact calendar_Civil.mono _ _
      | exact interest_Level.mono _ _ _ _
      | exact interest_Month.mono _ _ _
      | exact interest_Plan.mono _ _ _ _ _ _ _ _
      | exact LeO.none _
      | refine LeO.ite ?_ ?_
      | refine LeO.bind ?_ (fun _ => ?_)
    · intro y0 y1 y2 y3 y4 y5 y6 y7 y8
      unfold arrearslaw3_InterestAmortizes.j2
      repeat' first
      | (with_reducible exact ih0 _ _ _ _ _ _ _ _)
      | (with_reducible exact ih1 _ _ _ _ _ _ _ _)
      | (with_reducible exact ih2 _ _ _ _ _ _ _ _ _)
      | (with_reducible exact ih3 _ _ _ _ _ _ _ _ _ _ _ _ _)
      | (with_reducible exact ih4 _ _ _ _ _ _ _ _ _ _ _ _ _ _)
      | (with_reducible exact ih5 _ _ _ _ _ _ _ _ _ _ _ _ _ _ _ _)
      | (with_reducible exact ih6 _ _ _ _ _ _ _ _ _ _ _ _ _ _ _ _)
      | (with_reducible exact ih7 _ _ _ _ _ _ _ _ _ _ _ _ _ _ _ _)
      | (with_reducible exact arrearslaw3_copied.mono _ _)
      | (with_reducible exact arrearslaw3_timely.mono _ _ _ _ _ _ _ _ _ _ _)
      | (with_reducible exact calendar_Civil.mono _ _)
      | (with_reducible exact interest_Level.mono _ _ _ _)
      | (with_reducible exact interest_Month.mono _ _ _)
      | (with_reducible exact interest_Plan.mono _ _ _ _ _ _ _ _)
      | (with_reducible exact LeO.refl _)
      | (with_reducible exact LeO.none _)
      | (with_reducible refine LeO.ite ?_ ?_)
      | (with_reducible refine LeO.bind ?_ (fun _ => ?_))
      | exact ih0 _ _ _ _ _ _ _ _
      | exact ih1 _ _ _ _ _ _ _ _
      | exact ih2 _ _ _ _ _ _ _ _ _
      | exact ih3 _ _ _ _ _ _ _ _ _ _ _ _ _
      | exact ih4 _ _ _ _ _ _ _ _ _ _ _ _ _ _
      | exact ih5 _ _ _ _ _ _ _ _ _ _ _ _ _ _ _ _
      | exact ih6 _ _ _ _ _ _ _ _ _ _ _ _ _ _ _ _
      | exact ih7 _ _ _ _ _ _ _ _ _ _ _ _ _ _ _ _
      | exact arrearslaw3_copied.mono _ _
      | exact arrearslaw3_timely.mono _ _ _ _ _ _ _ _ _ _ _
      | exact calendar_Civil.mono _ _
      | exact interest_Level.mono _ _ _ _
      | exact interest_Month.mono _ _ _
      | exact interest_Plan.mono _ _ _ _ _ _ _ _
      | exact LeO.none _
      | refine LeO.ite ?_ ?_
      | refine LeO.bind ?_ (fun _ => ?_)
    · intro y0 y1 y2 y3 y4 y5 y6 y7 y8 y9 y10 y11 y12
      unfold arrearslaw3_InterestAmortizes.j3
      repeat' first
      | (with_reducible exact ih0 _ _ _ _ _ _ _ _)
      | (with_reducible exact ih1 _ _ _ _ _ _ _ _)
      | (with_reducible exact ih2 _ _ _ _ _ _ _ _ _)
      | (with_reducible exact ih3 _ _ _ _ _ _ _ _ _ _ _ _ _)
      | (with_reducible exact ih4 _ _ _ _ _ _ _ _ _ _ _ _ _ _)
      | (with_reducible exact ih5 _ _ _ _ _ _ _ _ _ _ _ _ _ _ _ _)
      | (with_reducible exact ih6 _ _ _ _ _ _ _ _ _ _ _ _ _ _ _ _)
      | (with_reducible exact ih7 _ _ _ _ _ _ _ _ _ _ _ _ _ _ _ _)
      | (with_reducible exact arrearslaw3_copied.mono _ _)
      | (with_reducible exact arrearslaw3_timely.mono _ _ _ _ _ _ _ _ _ _ _)
      | (with_reducible exact calendar_Civil.mono _ _)
      | (with_reducible exact interest_Level.mono _ _ _ _)
      | (with_reducible exact interest_Month.mono _ _ _)
      | (with_reducible exact interest_Plan.mono _ _ _ _ _ _ _ _)
      | (with_reducible exact LeO.refl _)
      | (with_reducible exact LeO.none _)
      | (with_reducible refine LeO.ite ?_ ?_)
      | (with_reducible refine LeO.bind ?_ (fun _ => ?_))
      | exact ih0 _ _ _ _ _ _ _ _
      | exact ih1 _ _ _ _ _ _ _ _
      | exact ih2 _ _ _ _ _ _ _ _ _
      | exact ih3 _ _ _ _ _ _ _ _ _ _ _ _ _
      | exact ih4 _ _ _ _ _ _ _ _ _ _ _ _ _ _
      | exact ih5 _ _ _ _ _ _ _ _ _ _ _ _ _ _ _ _
      | exact ih6 _ _ _ _ _ _ _ _ _ _ _ _ _ _ _ _
      | exact ih7 _ _ _ _ _ _ _ _ _ _ _ _ _ _ _ _
      | exact arrearslaw3_copied.mono _ _
      | exact arrearslaw3_timely.mono _ _ _ _ _ _ _ _ _ _ _
      | exact calendar_Civil.mono _ _
      | exact interest_Level.mono _ _ _ _
      | exact interest_Month.mono _ _ _
      | exact interest_Plan.mono _ _ _ _ _ _ _ _
      | exact LeO.none _
      | refine LeO.ite ?_ ?_
      | refine LeO.bind ?_ (fun _ => ?_)
    · intro y0 y1 y2 y3 y4 y5 y6 y7 y8 y9 y10 y11 y12 y13
      unfold arrearslaw3_InterestAmortizes.j4
      repeat' first
      | (with_reducible exact ih0 _ _ _ _ _ _ _ _)
      | (with_reducible exact ih1 _ _ _ _ _ _ _ _)
      | (with_reducible exact ih2 _ _ _ _ _ _ _ _ _)
      | (with_reducible exact ih3 _ _ _ _ _ _ _ _ _ _ _ _ _)
      | (with_reducible exact ih4 _ _ _ _ _ _ _ _ _ _ _ _ _ _)
      | (with_reducible exact ih5 _ _ _ _ _ _ _ _ _ _ _ _ _ _ _ _)
      | (with_reducible exact ih6 _ _ _ _ _ _ _ _ _ _ _ _ _ _ _ _)
      | (with_reducible exact ih7 _ _ _ _ _ _ _ _ _ _ _ _ _ _ _ _)
      | (with_reducible exact arrearslaw3_copied.mono _ _)
      | (with_reducible exact arrearslaw3_timely.mono _ _ _ _ _ _ _ _ _ _ _)
      | (with_reducible exact calendar_Civil.mono _ _)
      | (with_reducible exact interest_Level.mono _ _ _ _)
      | (with_reducible exact interest_Month.mono _ _ _)
      | (with_reducible exact interest_Plan.mono _ _ _ _ _ _ _ _)
      | (with_reducible exact LeO.refl _)
      | (with_reducible exact LeO.none _)
      | (with_reducible refine LeO.ite ?_ ?_)
      | (with_reducible refine LeO.bind ?_ (fun _ => ?_))
      | exact ih0 _ _ _ _ _ _ _ _
      | exact ih1 _ _ _ _ _ _ _ _
      | exact ih2 _ _ _ _ _ _ _ _ _
      | exact ih3 _ _ _ _ _ _ _ _ _ _ _ _ _
      | exact ih4 _ _ _ _ _ _ _ _ _ _ _ _ _ _
      | exact ih5 _ _ _ _ _ _ _ _ _ _ _ _ _ _ _ _
      | exact ih6 _ _ _ _ _ _ _ _ _ _ _ _ _ _ _ _
      | exact ih7 _ _ _ _ _ _ _ _ _ _ _ _ _ _ _ _
      | exact arrearslaw3_copied.mono _ _
      | exact arrearslaw3_timely.mono _ _ _ _ _ _ _ _ _ _ _
      | exact calendar_Civil.mono _ _
      | exact interest_Level.mono _ _ _ _
      | exact interest_Month.mono _ _ _
      | exact interest_Plan.mono _ _ _ _ _ _ _ _
      | exact LeO.none _
      | refine LeO.ite ?_ ?_
      | refine LeO.bind ?_ (fun _ => ?_)
    · intro y0 y1 y2 y3 y4 y5 y6 y7 y8 y9 y10 y11 y12 y13 y14 y15
      unfold arrearslaw3_InterestAmortizes.l0
      repeat' first
      | (with_reducible exact ih0 _ _ _ _ _ _ _ _)
      | (with_reducible exact ih1 _ _ _ _ _ _ _ _)
      | (with_reducible exact ih2 _ _ _ _ _ _ _ _ _)
      | (with_reducible exact ih3 _ _ _ _ _ _ _ _ _ _ _ _ _)
      | (with_reducible exact ih4 _ _ _ _ _ _ _ _ _ _ _ _ _ _)
      | (with_reducible exact ih5 _ _ _ _ _ _ _ _ _ _ _ _ _ _ _ _)
      | (with_reducible exact ih6 _ _ _ _ _ _ _ _ _ _ _ _ _ _ _ _)
      | (with_reducible exact ih7 _ _ _ _ _ _ _ _ _ _ _ _ _ _ _ _)
      | (with_reducible exact arrearslaw3_copied.mono _ _)
      | (with_reducible exact arrearslaw3_timely.mono _ _ _ _ _ _ _ _ _ _ _)
      | (with_reducible exact calendar_Civil.mono _ _)
      | (with_reducible exact interest_Level.mono _ _ _ _)
      | (with_reducible exact interest_Month.mono _ _ _)
      | (with_reducible exact interest_Plan.mono _ _ _ _ _ _ _ _)
      | (with_reducible exact LeO.refl _)
      | (with_reducible exact LeO.none _)
      | (with_reducible refine LeO.ite ?_ ?_)
      | (with_reducible refine LeO.bind ?_ (fun _ => ?_))
      | exact ih0 _ _ _ _ _ _ _ _
      | exact ih1 _ _ _ _ _ _ _ _
      | exact ih2 _ _ _ _ _ _ _ _ _
      | exact ih3 _ _ _ _ _ _ _ _ _ _ _ _ _
      | exact ih4 _ _ _ _ _ _ _ _ _ _ _ _ _ _
      | exact ih5 _ _ _ _ _ _ _ _ _ _ _ _ _ _ _ _
      | exact ih6 _ _ _ _ _ _ _ _ _ _ _ _ _ _ _ _
      | exact ih7 _ _ _ _ _ _ _ _ _ _ _ _ _ _ _ _
      | exact arrearslaw3_copied.mono _ _
      | exact arrearslaw3_timely.mono _ _ _ _ _ _ _ _ _ _ _
      | exact calendar_Civil.mono _ _
      | exact interest_Level.mono _ _ _ _
      | exact interest_Month.mono _ _ _
      | exact interest_Plan.mono _ _ _ _ _ _ _ _
      | exact LeO.none _
      | refine LeO.ite ?_ ?_
      | refine LeO.bind ?_ (fun _ => ?_)
    · intro y0 y1 y2 y3 y4 y5 y6 y7 y8 y9 y10 y11 y12 y13 y14 y15
      unfold arrearslaw3_InterestAmortizes.j6
      repeat' first
      | (with_reducible exact ih0 _ _ _ _ _ _ _ _)
      | (with_reducible exact ih1 _ _ _ _ _ _ _ _)
      | (with_reducible exact ih2 _ _ _ _ _ _ _ _ _)
      | (with_reducible exact ih3 _ _ _ _ _ _ _ _ _ _ _ _ _)
      | (with_reducible exact ih4 _ _ _ _ _ _ _ _ _ _ _ _ _ _)
      | (with_reducible exact ih5 _ _ _ _ _ _ _ _ _ _ _ _ _ _ _ _)
      | (with_reducible exact ih6 _ _ _ _ _ _ _ _ _ _ _ _ _ _ _ _)
      | (with_reducible exact ih7 _ _ _ _ _ _ _ _ _ _ _ _ _ _ _ _)
      | (with_reducible exact arrearslaw3_copied.mono _ _)
      | (with_reducible exact arrearslaw3_timely.mono _ _ _ _ _ _ _ _ _ _ _)
      | (with_reducible exact calendar_Civil.mono _ _)
      | (with_reducible exact interest_Level.mono _ _ _ _)
      | (with_reducible exact interest_Month.mono _ _ _)
      | (with_reducible exact interest_Plan.mono _ _ _ _ _ _ _ _)
      | (with_reducible exact LeO.refl _)
      | (with_reducible exact LeO.none _)
      | (with_reducible refine LeO.ite ?_ ?_)
      | (with_reducible refine LeO.bind ?_ (fun _ => ?_))
      | exact ih0 _ _ _ _ _ _ _ _
      | exact ih1 _ _ _ _ _ _ _ _
      | exact ih2 _ _ _ _ _ _ _ _ _
      | exact ih3 _ _ _ _ _ _ _ _ _ _ _ _ _
      | exact ih4 _ _ _ _ _ _ _ _ _ _ _ _ _ _
      | exact ih5 _ _ _ _ _ _ _ _ _ _ _ _ _ _ _ _
      | exact ih6 _ _ _ _ _ _ _ _ _ _ _ _ _ _ _ _
      | exact ih7 _ _ _ _ _ _ _ _ _ _ _ _ _ _ _ _
      | exact arrearslaw3_copied.mono _ _
      | exact arrearslaw3_timely.mono _ _ _ _ _ _ _ _ _ _ _
      | exact calendar_Civil.mono _ _
      | exact interest_Level.mono _ _ _ _
      | exact interest_Month.mono _ _ _
      | exact interest_Plan.mono _ _ _ _ _ _ _ _
      | exact LeO.none _
      | refine LeO.ite ?_ ?_
      | refine LeO.bind ?_ (fun _ => ?_)
    · intro y0 y1 y2 y3 y4 y5 y6 y7 y8 y9 y10 y11 y12 y13 y14 y15
      unfold arrearslaw3_InterestAmortizes.j7
      repeat' first
      | (with_reducible exact ih0 _ _ _ _ _ _ _ _)
      | (with_reducible exact ih1 _ _ _ _ _ _ _ _)
      | (with_reducible exact ih2 _ _ _ _ _ _ _ _ _)
      | (with_reducible exact ih3 _ _ _ _ _ _ _ _ _ _ _ _ _)
      | (with_reducible exact ih4 _ _ _ _ _ _ _ _ _ _ _ _ _ _)
      | (with_reducible exact ih5 _ _ _ _ _ _ _ _ _ _ _ _ _ _ _ _)
      | (with_reducible exact ih6 _ _ _ _ _ _ _ _ _ _ _ _ _ _ _ _)
      | (with_reducible exact ih7 _ _ _ _ _ _ _ _ _ _ _ _ _ _ _ _)
      | (with_reducible exact arrearslaw3_copied.mono _ _)
      | (with_reducible exact arrearslaw3_timely.mono _ _ _ _ _ _ _ _ _ _ _)
      | (with_reducible exact calendar_Civil.mono _ _)
      | (with_reducible exact interest_Level.mono _ _ _ _)
      | (with_reducible exact interest_Month.mono _ _ _)
      | (with_reducible exact interest_Plan.mono _ _ _ _ _ _ _ _)
      | (with_reducible exact LeO.refl _)
      | (with_reducible exact LeO.none _)
      | (with_reducible refine LeO.ite ?_ ?_)
      | (with_reducible refine LeO.bind ?_ (fun _ => ?_))
      | exact ih0 _ _ _ _ _ _ _ _
      | exact ih1 _ _ _ _ _ _ _ _
      | exact ih2 _ _ _ _ _ _ _ _ _
      | exact ih3 _ _ _ _ _ _ _ _ _ _ _ _ _
      | exact ih4 _ _ _ _ _ _ _ _ _ _ _ _ _ _
      | exact ih5 _ _ _ _ _ _ _ _ _ _ _ _ _ _ _ _
      | exact ih6 _ _ _ _ _ _ _ _ _ _ _ _ _ _ _ _
      | exact ih7 _ _ _ _ _ _ _ _ _ _ _ _ _ _ _ _
      | exact arrearslaw3_copied.mono _ _
      | exact arrearslaw3_timely.mono _ _ _ _ _ _ _ _ _ _ _
      | exact calendar_Civil.mono _ _
      | exact interest_Level.mono _ _ _ _
      | exact interest_Month.mono _ _ _
      | exact interest_Plan.mono _ _ _ _ _ _ _ _
      | exact LeO.none _
      | refine LeO.ite ?_ ?_
      | refine LeO.bind ?_ (fun _ => ?_)
theorem arrearslaw3_InterestAmortizes.mono : ∀ a0 a1 a2 a3 a4 a5 a6 k, LeO (arrearslaw3_InterestAmortizes.f k a0 a1 a2 a3 a4 a5 a6) (arrearslaw3_InterestAmortizes.f (k + 1) a0 a1 a2 a3 a4 a5 a6) := by
  intro a0 a1 a2 a3 a4 a5 a6 k
  obtain ⟨ih0, ih1, ih2, ih3, ih4, ih5, ih6, ih7⟩ := arrearslaw3_InterestAmortizes.mono_l k
  unfold arrearslaw3_InterestAmortizes.f
  repeat' first
      | (with_reducible exact ih0 _ _ _ _ _ _ _ _)
      | (with_reducible exact ih1 _ _ _ _ _ _ _ _)
      | (with_reducible exact ih2 _ _ _ _ _ _ _ _ _)
      | (with_reducible exact ih3 _ _ _ _ _ _ _ _ _ _ _ _ _)
      | (with_reducible exact ih4 _ _ _ _ _ _ _ _ _ _ _ _ _ _)
      | (with_reducible exact ih5 _ _ _ _ _ _ _ _ _ _ _ _ _ _ _ _)
      | (with_reducible exact ih6 _ _ _ _ _ _ _ _ _ _ _ _ _ _ _ _)
      | (with_reducible exact ih7 _ _ _ _ _ _ _ _ _ _ _ _ _ _ _ _)
      | (with_reducible exact arrearslaw3_copied.mono _ _)
      | (with_reducible exact arrearslaw3_timely.mono _ _ _ _ _ _ _ _ _ _ _)
      | (with_reducible exact calendar_Civil.mono _ _)
      | (with_reducible exact interest_Level.mono _ _ _ _)
      | (with_reducible exact interest_Month.mono _ _ _)
      | (with_reducible exact interest_Plan.mono _ _ _ _ _ _ _ _)
      | (with_reducible exact LeO.refl _)
      | (with_reducible exact LeO.none _)
      | (with_reducible refine LeO.ite ?_ ?_)
      | (with_reducible refine LeO.bind ?_ (fun _ => ?_))
      | exact ih0 _ _ _ _ _ _ _ _
      | exact ih1 _ _ _ _ _ _ _ _
      | exact ih2 _ _ _ _ _ _ _ _ _
      | exact ih3 _ _ _ _ _ _ _ _ _ _ _ _ _
      | exact ih4 _ _ _ _ _ _ _ _ _ _ _ _ _ _
      | exact ih5 _ _ _ _ _ _ _ _ _ _ _ _ _ _ _ _
      | exact ih6 _ _ _ _ _ _ _ _ _ _ _ _ _ _ _ _
      | exact ih7 _ _ _ _ _ _ _ _ _ _ _ _ _ _ _ _
      | exact arrearslaw3_copied.mono _ _
      | exact arrearslaw3_timely.mono _ _ _ _ _ _ _ _ _ _ _
      | exact calendar_Civil.mono _ _
      | exact interest_Level.mono _ _ _ _
      | exact interest_Month.mono _ _ _
      | exact interest_Plan.mono _ _ _ _ _ _ _ _
      | exact LeO.none _
      | refine LeO.ite ?_ ?_
      | refine LeO.bind ?_ (fun _ => ?_)
def arrearslaw3_InterestAmortizes.T5 : Bool × List (List Nat × List Nat) := (true, [([], []), ([], []), ([1], [1]), ([], []), ([3], [3]), ([2, 4], [2, 4]), ([0, 5, 2], [0, 5]), ([6], [6]), ([7], [7]), ([7], [7]), ([8, 6, 0, 1, 2, 3, 4, 5, 6, 7, 8], [8]), ([9, 10, 0, 1, 2, 3, 4, 5, 6, 7, 8, 9, 10], [9])])
def arrearslaw3_InterestAmortizes.B5 : List Nat := [0, 0, 2, 0, 8, 30, 63, 127, 255, 255, 511, 2047]
theorem arrearslaw3_InterestAmortizes.tab5 : rtab .any (opsOf Tryd.f4 5) = arrearslaw3_InterestAmortizes.T5 := by kernel_rfl
theorem arrearslaw3_InterestAmortizes.bits5 : waitsOk arrearslaw3_InterestAmortizes.T5.2 arrearslaw3_InterestAmortizes.B5 = true := by kernel_rfl
def arrearslaw3_InterestAmortizes.T23 : Bool × List (List Nat × List Nat) := (true, [([], []), ([], []), ([], []), ([], []), ([0, 1, 2, 3], [0, 1, 2, 3]), ([4], [4]), ([5, 4], [5]), ([6], [6]), ([6], [6]), ([6], [6]), ([9, 6], [6, 9]), ([6], [6]), ([6], [6]), ([11, 12, 6], [6, 11, 12]), ([13, 6], [6, 13]), ([14, 6], [6, 14]), ([6], [6]), ([6], [6]), ([6], [6]), ([16, 17, 18, 6, 6], [6, 16, 17, 18]), ([7, 8, 10, 15, 19, 19, 6], [6, 7, 8, 10, 15, 19]), ([20, 6], [6, 20]), ([6, 21], [6, 21])])
def arrearslaw3_InterestAmortizes.B23 : List Nat := [0, 0, 0, 0, 15, 31, 63, 127, 127, 127, 639, 127, 127, 6271, 14463, 30847, 127, 127, 127, 458879, 1048575, 2097151, 4194303]
theorem arrearslaw3_InterestAmortizes.tab23 : rtab .any (opsOf Tryd.f4 23) = arrearslaw3_InterestAmortizes.T23 := by kernel_rfl
theorem arrearslaw3_InterestAmortizes.bits23 : waitsOk arrearslaw3_InterestAmortizes.T23.2 arrearslaw3_InterestAmortizes.B23 = true := by kernel_rfl
set_option maxHeartbeats 8000000 in
set_option maxRecDepth 100000 in
theorem arrearslaw3_InterestAmortizes.calls (k : Nat) (a0_0 : Int) (a0_1 : Int) (a0_2 : Int) (a0_3 : Int) (a0_4 : Int) (a0_5 : Int) (A1 : Option Addr) (c1 : Nat) (l1 : List Int) (r : Bool) (w : World) (hr1 : Kd.C (Kd.int .i64) w A1 l1.length l1) (hc1 : l1.length ≤ c1) (hrT : AheadAt w) (h : arrearslaw3_InterestAmortizes.f k a0_0 a0_1 a0_2 a0_3 a0_4 a0_5 l1 = some r) :
    Calls Tryd.prog 4 #[.agg #[.int .i64 a0_0, .int .i64 a0_1, .int .i64 a0_2, .int .i64 a0_3, .int .i64 a0_4, .int .i64 a0_5], .slice A1 l1.length c1] w fun e w' => e = .returned (.bool r) ∧ Below w.heap.size w w' := by
  have hu23 := Tryd.underlying23
  have hu36 := Tryd.underlying36
  have HRT := Aside0.mk hrT
  clear hrT
  have HR1 := Aside0.mk hr1
  have HC1 := Aside0.mk hc1
  clear hr1 hc1
  have HB := Aside0.mk (Below.refl w.heap.size w)
  have H : ((arrearslaw3_lending.f a0_1 a0_2 a0_3).bind fun t184 => (if t184 = true then (if a0_0 < 0 then (arrearslaw3_InterestAmortizes.j0 k l1 true a0_0 a0_1 a0_2 a0_3 a0_4 a0_5) else (if a0_0 > 2 then (arrearslaw3_InterestAmortizes.j0 k l1 true a0_0 a0_1 a0_2 a0_3 a0_4 a0_5) else (if a0_5 < 0 then (arrearslaw3_InterestAmortizes.j0 k l1 true a0_0 a0_1 a0_2 a0_3 a0_4 a0_5) else (arrearslaw3_InterestAmortizes.j0 k l1 (decide (a0_5 > 3)) a0_0 a0_1 a0_2 a0_3 a0_4 a0_5)))) else (arrearslaw3_InterestAmortizes.j0 k l1 true a0_0 a0_1 a0_2 a0_3 a0_4 a0_5))) = some r := h
  clear h
  have HC3 := Aside0.mk H
  clear H
  go_enter Tryd.func4, Tryd.ntmps4
  go_upto_region 1 with (first | ((with_reducible refine gate_dst (N := 2) rfl ?_); (try (refine gate_guard (by rfl) ?_; dsimp only)); refine box_event ?hg (N := 2) ?hd (cs := #[.int .i64 a0_0, .int .i64 a0_1, .int .i64 a0_2, .int .i64 a0_3, .int .i64 a0_4, .int .i64 a0_5]) (t := 23) ?hr ?_; (case hd => rfl); (case hg => rfl); (case hr => first | (go_simp; done) | (go_simp; rfl)); intro gb183 hg w4 hbox hb; have n0_ := Aside0.mk (below_step (by repeat (first | (with_reducible first | exact HB.out | apply below_alloc | apply pw_below_drewN | apply below_drew1) | exact HB.out)) hb); have n1_ := Aside0.mk (hbox); have n2_ := Aside0.mk ((by rw [hg]; exact (below_size (by repeat (first | (with_reducible first | exact HB.out | apply below_alloc | apply pw_below_drewN | apply below_drew1) | exact HB.out))) : w.heap.size ≤ gb183)); have n3_ := Aside0.mk ((by rw [hg]; exact (below_size (by repeat (first | (with_reducible first | exact HB.out | apply below_alloc | apply pw_below_drewN | apply below_drew1) | exact HB.out))) : w.heap.size ≤ gb183)); clear HB; have HB := n0_; have BK183 := n1_; have GW183 := n2_; have GE183 := n3_; clear n0_ n1_ n2_ n3_; clear hb hbox hg))
  (try simp only [Act.put, List.setIfInBounds_toArray, List.set_cons_zero, List.set_cons_succ])
  go_cut [45] (fun v45 wc => ∃ (kq : Nat) (x45_2 : Bool), v45 = .bool x45_2 ∧ Aside0 (arrearslaw3_InterestAmortizes.j0 kq l1 x45_2 a0_0 a0_1 a0_2 a0_3 a0_4 a0_5 = some r) ∧ Aside0 (kq ≤ k) ∧ Aside0 (wc.heap[gb183]? = some (.cells #[.int .i64 a0_0, .int .i64 a0_1, .int .i64 a0_2, .int .i64 a0_3, .int .i64 a0_4, .int .i64 a0_5] 23 (0, 0))) ∧ Aside0 (Below w.heap.size w wc))
  case first => as_aux_lemma =>
    have H := HC3.out
    clear HC3
    replace H := Option.bind_eq_some_iff.mp H
    obtain ⟨t184, A50, H⟩ := H
    replace H : (if t184 = true then (if a0_0 < 0 then (arrearslaw3_InterestAmortizes.j0 k l1 true a0_0 a0_1 a0_2 a0_3 a0_4 a0_5) else (if a0_0 > 2 then (arrearslaw3_InterestAmortizes.j0 k l1 true a0_0 a0_1 a0_2 a0_3 a0_4 a0_5) else (if a0_5 < 0 then (arrearslaw3_InterestAmortizes.j0 k l1 true a0_0 a0_1 a0_2 a0_3 a0_4 a0_5) else (arrearslaw3_InterestAmortizes.j0 k l1 (decide (a0_5 > 3)) a0_0 a0_1 a0_2 a0_3 a0_4 a0_5)))) else (arrearslaw3_InterestAmortizes.j0 k l1 true a0_0 a0_1 a0_2 a0_3 a0_4 a0_5)) = some r := H
    have A5 := Aside0.mk A50
    clear A50
    by_cases c6 : t184 = true
    · subst c6
      have H1 : (if a0_0 < 0 then (arrearslaw3_InterestAmortizes.j0 k l1 true a0_0 a0_1 a0_2 a0_3 a0_4 a0_5) else (if a0_0 > 2 then (arrearslaw3_InterestAmortizes.j0 k l1 true a0_0 a0_1 a0_2 a0_3 a0_4 a0_5) else (if a0_5 < 0 then (arrearslaw3_InterestAmortizes.j0 k l1 true a0_0 a0_1 a0_2 a0_3 a0_4 a0_5) else (arrearslaw3_InterestAmortizes.j0 k l1 (decide (a0_5 > 3)) a0_0 a0_1 a0_2 a0_3 a0_4 a0_5)))) = some r := by rw [if_pos rfl] at H; exact H
      clear H
      have H := H1
      clear H1
      by_cases c7 : a0_0 < 0
      · rw [if_pos c7] at H
        have c7b0 : decide (a0_0 < 0) = true := decide_eq_true c7
        clear c7
        (first | rw [c7b0] | (simp only [i64_w, i32_w]; rw [c7b0]) | skip)
        have H' := Aside0.mk H
        clear H
        have hcz8_0 : w4.cell? ⟨gb183, 0, none⟩ = some (.int .i64 a0_0) := (blk_cell BK183.out 0).trans rfl
        have hcz8_1 : w4.cell? ⟨gb183, 1, none⟩ = some (.int .i64 a0_1) := (blk_cell BK183.out 1).trans rfl
        have hcz8_2 : w4.cell? ⟨gb183, 2, none⟩ = some (.int .i64 a0_2) := (blk_cell BK183.out 2).trans rfl
        have hcz8_3 : w4.cell? ⟨gb183, 3, none⟩ = some (.int .i64 a0_3) := (blk_cell BK183.out 3).trans rfl
        have hcz8_4 : w4.cell? ⟨gb183, 4, none⟩ = some (.int .i64 a0_4) := (blk_cell BK183.out 4).trans rfl
        have hcz8_5 : w4.cell? ⟨gb183, 5, none⟩ = some (.int .i64 a0_5) := (blk_cell BK183.out 5).trans rfl
        have hfz8_0 := blk_frozen BK183.out 0
        have hfz8_1 := blk_frozen BK183.out 1
        have hfz8_2 := blk_frozen BK183.out 2
        have hfz8_3 := blk_frozen BK183.out 3
        have hfz8_4 := blk_frozen BK183.out 4
        have hfz8_5 := blk_frozen BK183.out 5
        go_wp2_with (first | ((with_reducible refine gate_callee (f := 11) rfl ?_); refine goesL_ (some 24) rfl rfl Tryd.func11 (by kernel_rfl) rfl #[.int .i64 a0_1, .int .i64 a0_2, .int .i64 a0_3] rfl (by (try simp only [List.map_toArray, List.map_cons, List.map_nil]); first | done | rfl | (simp only [List.length_drop, List.length_take]; rfl)) ?_; (with_reducible refine (arrearslaw3_lending.calls a0_1 a0_2 a0_3 true _ A5.out).mono ?_); rintro e w' ⟨rfl, ⟨nd, rfl⟩⟩; refine ⟨_, rfl, ?_⟩))
        go_meet
        case rel => exact ⟨_, (true), (by first | rfl | (simp; done) | (simp [*]; done)), H', ⟨by first | omega | exact Nat.le_refl _⟩, ⟨by (with_reducible repeat (first | refine blk_drewN ?_ _ | refine blk_drew ?_ | refine blk_alloc ?_ _)); exact BK183.out⟩, ⟨by repeat (first | (with_reducible first | exact HB.out | apply below_alloc | apply pw_below_drewN | apply below_drew1 | refine below_set ?_ GE183.out) | exact HB.out)⟩⟩
      · rw [if_neg c7] at H
        have c7b0 : decide (a0_0 < 0) = false := decide_eq_false c7
        clear c7
        (first | rw [c7b0] | (simp only [i64_w, i32_w]; rw [c7b0]) | skip)
        by_cases c9 : a0_0 > 2
        · rw [if_pos c9] at H
          have c9b0 : decide (2 < a0_0) = true := decide_eq_true c9
          clear c9
          have H' := Aside0.mk H
          clear H
          have hcz10_0 : w4.cell? ⟨gb183, 0, none⟩ = some (.int .i64 a0_0) := (blk_cell BK183.out 0).trans rfl
          have hcz10_1 : w4.cell? ⟨gb183, 1, none⟩ = some (.int .i64 a0_1) := (blk_cell BK183.out 1).trans rfl
          have hcz10_2 : w4.cell? ⟨gb183, 2, none⟩ = some (.int .i64 a0_2) := (blk_cell BK183.out 2).trans rfl
          have hcz10_3 : w4.cell? ⟨gb183, 3, none⟩ = some (.int .i64 a0_3) := (blk_cell BK183.out 3).trans rfl
          have hcz10_4 : w4.cell? ⟨gb183, 4, none⟩ = some (.int .i64 a0_4) := (blk_cell BK183.out 4).trans rfl
          have hcz10_5 : w4.cell? ⟨gb183, 5, none⟩ = some (.int .i64 a0_5) := (blk_cell BK183.out 5).trans rfl
          have hfz10_0 := blk_frozen BK183.out 0
          have hfz10_1 := blk_frozen BK183.out 1
          have hfz10_2 := blk_frozen BK183.out 2
          have hfz10_3 := blk_frozen BK183.out 3
          have hfz10_4 := blk_frozen BK183.out 4
          have hfz10_5 := blk_frozen BK183.out 5
          go_wp2_with (first | ((with_reducible refine gate_callee (f := 11) rfl ?_); refine goesL_ (some 24) rfl rfl Tryd.func11 (by kernel_rfl) rfl #[.int .i64 a0_1, .int .i64 a0_2, .int .i64 a0_3] rfl (by (try simp only [List.map_toArray, List.map_cons, List.map_nil]); first | done | rfl | (simp only [List.length_drop, List.length_take]; rfl)) ?_; (with_reducible refine (arrearslaw3_lending.calls a0_1 a0_2 a0_3 true _ A5.out).mono ?_); rintro e w' ⟨rfl, ⟨nd, rfl⟩⟩; refine ⟨_, rfl, ?_⟩))
          go_meet
          case rel => exact ⟨_, (true), (by first | rfl | (simp; done) | (simp [*]; done)), H', ⟨by first | omega | exact Nat.le_refl _⟩, ⟨by (with_reducible repeat (first | refine blk_drewN ?_ _ | refine blk_drew ?_ | refine blk_alloc ?_ _)); exact BK183.out⟩, ⟨by repeat (first | (with_reducible first | exact HB.out | apply below_alloc | apply pw_below_drewN | apply below_drew1 | refine below_set ?_ GE183.out) | exact HB.out)⟩⟩
        · rw [if_neg c9] at H
          have c9b0 : decide (2 < a0_0) = false := decide_eq_false c9
          clear c9
          by_cases c11 : a0_5 < 0
          · rw [if_pos c11] at H
            have c11b0 : decide (a0_5 < 0) = true := decide_eq_true c11
            clear c11
            have H' := Aside0.mk H
            clear H
            have hcz12_0 : w4.cell? ⟨gb183, 0, none⟩ = some (.int .i64 a0_0) := (blk_cell BK183.out 0).trans rfl
            have hcz12_1 : w4.cell? ⟨gb183, 1, none⟩ = some (.int .i64 a0_1) := (blk_cell BK183.out 1).trans rfl
            have hcz12_2 : w4.cell? ⟨gb183, 2, none⟩ = some (.int .i64 a0_2) := (blk_cell BK183.out 2).trans rfl
            have hcz12_3 : w4.cell? ⟨gb183, 3, none⟩ = some (.int .i64 a0_3) := (blk_cell BK183.out 3).trans rfl
            have hcz12_4 : w4.cell? ⟨gb183, 4, none⟩ = some (.int .i64 a0_4) := (blk_cell BK183.out 4).trans rfl
            have hcz12_5 : w4.cell? ⟨gb183, 5, none⟩ = some (.int .i64 a0_5) := (blk_cell BK183.out 5).trans rfl
            have hfz12_0 := blk_frozen BK183.out 0
            have hfz12_1 := blk_frozen BK183.out 1
            have hfz12_2 := blk_frozen BK183.out 2
            have hfz12_3 := blk_frozen BK183.out 3
            have hfz12_4 := blk_frozen BK183.out 4
            have hfz12_5 := blk_frozen BK183.out 5
            go_wp2_with (first | ((with_reducible refine gate_callee (f := 11) rfl ?_); refine goesL_ (some 24) rfl rfl Tryd.func11 (by kernel_rfl) rfl #[.int .i64 a0_1, .int .i64 a0_2, .int .i64 a0_3] rfl (by (try simp only [List.map_toArray, List.map_cons, List.map_nil]); first | done | rfl | (simp only [List.length_drop, List.length_take]; rfl)) ?_; (with_reducible refine (arrearslaw3_lending.calls a0_1 a0_2 a0_3 true _ A5.out).mono ?_); rintro e w' ⟨rfl, ⟨nd, rfl⟩⟩; refine ⟨_, rfl, ?_⟩))
            go_meet
            case rel => exact ⟨_, (true), (by first | rfl | (simp; done) | (simp [*]; done)), H', ⟨by first | omega | exact Nat.le_refl _⟩, ⟨by (with_reducible repeat (first | refine blk_drewN ?_ _ | refine blk_drew ?_ | refine blk_alloc ?_ _)); exact BK183.out⟩, ⟨by repeat (first | (with_reducible first | exact HB.out | apply below_alloc | apply pw_below_drewN | apply below_drew1 | refine below_set ?_ GE183.out) | exact HB.out)⟩⟩
          · rw [if_neg c11] at H
            have c11b0 : decide (a0_5 < 0) = false := decide_eq_false c11
            clear c11
            have H' := Aside0.mk H
            clear H
            have hcz13_0 : w4.cell? ⟨gb183, 0, none⟩ = some (.int .i64 a0_0) := (blk_cell BK183.out 0).trans rfl
            have hcz13_1 : w4.cell? ⟨gb183, 1, none⟩ = some (.int .i64 a0_1) := (blk_cell BK183.out 1).trans rfl
            have hcz13_2 : w4.cell? ⟨gb183, 2, none⟩ = some (.int .i64 a0_2) := (blk_cell BK183.out 2).trans rfl
            have hcz13_3 : w4.cell? ⟨gb183, 3, none⟩ = some (.int .i64 a0_3) := (blk_cell BK183.out 3).trans rfl
            have hcz13_4 : w4.cell? ⟨gb183, 4, none⟩ = some (.int .i64 a0_4) := (blk_cell BK183.out 4).trans rfl
            have hcz13_5 : w4.cell? ⟨gb183, 5, none⟩ = some (.int .i64 a0_5) := (blk_cell BK183.out 5).trans rfl
            have hfz13_0 := blk_frozen BK183.out 0
            have hfz13_1 := blk_frozen BK183.out 1
            have hfz13_2 := blk_frozen BK183.out 2
            have hfz13_3 := blk_frozen BK183.out 3
            have hfz13_4 := blk_frozen BK183.out 4
            have hfz13_5 := blk_frozen BK183.out 5
            go_wp2_with (first | ((with_reducible refine gate_callee (f := 11) rfl ?_); refine goesL_ (some 24) rfl rfl Tryd.func11 (by kernel_rfl) rfl #[.int .i64 a0_1, .int .i64 a0_2, .int .i64 a0_3] rfl (by (try simp only [List.map_toArray, List.map_cons, List.map_nil]); first | done | rfl | (simp only [List.length_drop, List.length_take]; rfl)) ?_; (with_reducible refine (arrearslaw3_lending.calls a0_1 a0_2 a0_3 true _ A5.out).mono ?_); rintro e w' ⟨rfl, ⟨nd, rfl⟩⟩; refine ⟨_, rfl, ?_⟩))
            go_meet
            case rel => exact ⟨_, (decide (a0_5 > 3)), (by first | rfl | (simp; done) | (simp [*]; done)), H', ⟨by first | omega | exact Nat.le_refl _⟩, ⟨by (with_reducible repeat (first | refine blk_drewN ?_ _ | refine blk_drew ?_ | refine blk_alloc ?_ _)); exact BK183.out⟩, ⟨by repeat (first | (with_reducible first | exact HB.out | apply below_alloc | apply pw_below_drewN | apply below_drew1 | refine below_set ?_ GE183.out) | exact HB.out)⟩⟩
    · replace c6 := Bool.eq_false_iff.mpr c6
      subst c6
      have H1 : (arrearslaw3_InterestAmortizes.j0 k l1 true a0_0 a0_1 a0_2 a0_3 a0_4 a0_5) = some r := by rw [if_neg (show ¬ (false = true) by decide)] at H; exact H
      clear H
      have H := H1
      clear H1
      have H' := Aside0.mk H
      clear H
      have hcz14_0 : w4.cell? ⟨gb183, 0, none⟩ = some (.int .i64 a0_0) := (blk_cell BK183.out 0).trans rfl
      have hcz14_1 : w4.cell? ⟨gb183, 1, none⟩ = some (.int .i64 a0_1) := (blk_cell BK183.out 1).trans rfl
      have hcz14_2 : w4.cell? ⟨gb183, 2, none⟩ = some (.int .i64 a0_2) := (blk_cell BK183.out 2).trans rfl
      have hcz14_3 : w4.cell? ⟨gb183, 3, none⟩ = some (.int .i64 a0_3) := (blk_cell BK183.out 3).trans rfl
      have hcz14_4 : w4.cell? ⟨gb183, 4, none⟩ = some (.int .i64 a0_4) := (blk_cell BK183.out 4).trans rfl
      have hcz14_5 : w4.cell? ⟨gb183, 5, none⟩ = some (.int .i64 a0_5) := (blk_cell BK183.out 5).trans rfl
      have hfz14_0 := blk_frozen BK183.out 0
      have hfz14_1 := blk_frozen BK183.out 1
      have hfz14_2 := blk_frozen BK183.out 2
      have hfz14_3 := blk_frozen BK183.out 3
      have hfz14_4 := blk_frozen BK183.out 4
      have hfz14_5 := blk_frozen BK183.out 5
      go_wp2_with (first | ((with_reducible refine gate_callee (f := 11) rfl ?_); refine goesL_ (some 24) rfl rfl Tryd.func11 (by kernel_rfl) rfl #[.int .i64 a0_1, .int .i64 a0_2, .int .i64 a0_3] rfl (by (try simp only [List.map_toArray, List.map_cons, List.map_nil]); first | done | rfl | (simp only [List.length_drop, List.length_take]; rfl)) ?_; (with_reducible refine (arrearslaw3_lending.calls a0_1 a0_2 a0_3 false _ A5.out).mono ?_); rintro e w' ⟨rfl, ⟨nd, rfl⟩⟩; refine ⟨_, rfl, ?_⟩))
      go_meet
      case rel => exact ⟨_, (true), (by first | rfl | (simp; done) | (simp [*]; done)), H', ⟨by first | omega | exact Nat.le_refl _⟩, ⟨by (with_reducible repeat (first | refine blk_drewN ?_ _ | refine blk_drew ?_ | refine blk_alloc ?_ _)); exact BK183.out⟩, ⟨by repeat (first | (with_reducible first | exact HB.out | apply below_alloc | apply pw_below_drewN | apply below_drew1 | refine below_set ?_ GE183.out) | exact HB.out)⟩⟩
  case rest => as_aux_lemma =>
    clear HC3
    try clear c1
    try clear p2
    try clear c4
    try clear c6
    try clear c7
    try clear c7b0
    try clear c9
    try clear c9b0
    try clear c11
    try clear c11b0
    try clear hcz10_0
    try clear hcz10_1
    try clear hcz10_2
    try clear hcz10_3
    try clear hcz10_4
    try clear hcz10_5
    try clear hcz12_0
    try clear hcz12_1
    try clear hcz12_2
    try clear hcz12_3
    try clear hcz12_4
    try clear hcz12_5
    try clear hcz13_0
    try clear hcz13_1
    try clear hcz13_2
    try clear hcz13_3
    try clear hcz13_4
    try clear hcz13_5
    try clear hcz14_0
    try clear hcz14_1
    try clear hcz14_2
    try clear hcz14_3
    try clear hcz14_4
    try clear hcz14_5
    try clear hcz8_0
    try clear hcz8_1
    try clear hcz8_2
    try clear hcz8_3
    try clear hcz8_4
    try clear hcz8_5
    try clear hfz10_0
    try clear hfz10_1
    try clear hfz10_2
    try clear hfz10_3
    try clear hfz10_4
    try clear hfz10_5
    try clear hfz12_0
    try clear hfz12_1
    try clear hfz12_2
    try clear hfz12_3
    try clear hfz12_4
    try clear hfz12_5
    try clear hfz13_0
    try clear hfz13_1
    try clear hfz13_2
    try clear hfz13_3
    try clear hfz13_4
    try clear hfz13_5
    try clear hfz14_0
    try clear hfz14_1
    try clear hfz14_2
    try clear hfz14_3
    try clear hfz14_4
    try clear hfz14_5
    try clear hfz8_0
    try clear hfz8_1
    try clear hfz8_2
    try clear hfz8_3
    try clear hfz8_4
    try clear hfz8_5
    obtain ⟨kq, x45_2, rfl, HA, HJ2, BK183, HB⟩ := hcut
    cases kq with
    | zero => exact absurd HA.out (by simp [arrearslaw3_InterestAmortizes.j0])
    | succ kj2 =>
      have H := HA.out
      clear HA
      simp only [arrearslaw3_InterestAmortizes.j0] at H
      by_cases c15 : x45_2 = true
      · subst c15
        have H1 : (some true) = some r := by rw [if_pos rfl] at H; exact H
        clear H
        have H := H1
        clear H1
        obtain rfl := Option.some.inj H
        go_wp2
        go_ret
        exact ⟨by first | rfl | (simp [errW_none, errW_some] <;> rfl) | (simp [*, errW_none, errW_some] <;> rfl), by repeat (first | (with_reducible first | exact HB.out | apply below_alloc | apply pw_below_drewN | apply below_drew1 | refine below_set ?_ GE183.out) | exact HB.out)⟩
      · replace c15 := Bool.eq_false_iff.mpr c15
        subst c15
        have H1 : (if a0_4 < 1 then (arrearslaw3_InterestAmortizes.j1 kj2 l1 true a0_0 a0_1 a0_2 a0_3 a0_4 a0_5) else (if a0_4 > 3640000 then (arrearslaw3_InterestAmortizes.j1 kj2 l1 true a0_0 a0_1 a0_2 a0_3 a0_4 a0_5) else (arrearslaw3_InterestAmortizes.j1 kj2 l1 (decide ((l1.length : Int) > 4)) a0_0 a0_1 a0_2 a0_3 a0_4 a0_5))) = some r := by rw [if_neg (show ¬ (false = true) by decide)] at H; exact H
        clear H
        have H := H1
        clear H1
        have HC16 := Aside0.mk H
        clear H
        go_upto_region 3 with (fail)
        go_cut [58] (fun v58 wc => ∃ (kq : Nat) (x58_15 : Bool), v58 = .bool x58_15 ∧ Aside0 (arrearslaw3_InterestAmortizes.j1 kq l1 x58_15 a0_0 a0_1 a0_2 a0_3 a0_4 a0_5 = some r) ∧ Aside0 (kq ≤ kj2) ∧ Aside0 (wc.heap[gb183]? = some (.cells #[.int .i64 a0_0, .int .i64 a0_1, .int .i64 a0_2, .int .i64 a0_3, .int .i64 a0_4, .int .i64 a0_5] 23 (0, 0))) ∧ Aside0 (Below w.heap.size w wc))
        case first => as_aux_lemma =>
          have H := HC16.out
          clear HC16
          by_cases c17 : a0_4 < 1
          · rw [if_pos c17] at H
            have c17b0 : decide (a0_4 < 1) = true := decide_eq_true c17
            clear c17
            (first | rw [c17b0] | (simp only [i64_w, i32_w]; rw [c17b0]) | skip)
            have H' := Aside0.mk H
            clear H
            have hcz18_0 : wc.cell? ⟨gb183, 0, none⟩ = some (.int .i64 a0_0) := (blk_cell BK183.out 0).trans rfl
            have hcz18_1 : wc.cell? ⟨gb183, 1, none⟩ = some (.int .i64 a0_1) := (blk_cell BK183.out 1).trans rfl
            have hcz18_2 : wc.cell? ⟨gb183, 2, none⟩ = some (.int .i64 a0_2) := (blk_cell BK183.out 2).trans rfl
            have hcz18_3 : wc.cell? ⟨gb183, 3, none⟩ = some (.int .i64 a0_3) := (blk_cell BK183.out 3).trans rfl
            have hcz18_4 : wc.cell? ⟨gb183, 4, none⟩ = some (.int .i64 a0_4) := (blk_cell BK183.out 4).trans rfl
            have hcz18_5 : wc.cell? ⟨gb183, 5, none⟩ = some (.int .i64 a0_5) := (blk_cell BK183.out 5).trans rfl
            have hfz18_0 := blk_frozen BK183.out 0
            have hfz18_1 := blk_frozen BK183.out 1
            have hfz18_2 := blk_frozen BK183.out 2
            have hfz18_3 := blk_frozen BK183.out 3
            have hfz18_4 := blk_frozen BK183.out 4
            have hfz18_5 := blk_frozen BK183.out 5
            go_wp2
            go_meet
            case rel => exact ⟨_, (true), (by first | rfl | (simp; done) | (simp [*]; done)), H', ⟨by have := HJ2.out; first | omega | exact Nat.le_refl _⟩, ⟨by (with_reducible repeat (first | refine blk_drewN ?_ _ | refine blk_drew ?_ | refine blk_alloc ?_ _)); exact BK183.out⟩, ⟨by repeat (first | (with_reducible first | exact HB.out | apply below_alloc | apply pw_below_drewN | apply below_drew1 | refine below_set ?_ GE183.out) | exact HB.out)⟩⟩
          · rw [if_neg c17] at H
            have c17b0 : decide (a0_4 < 1) = false := decide_eq_false c17
            clear c17
            (first | rw [c17b0] | (simp only [i64_w, i32_w]; rw [c17b0]) | skip)
            by_cases c19 : a0_4 > 3640000
            · rw [if_pos c19] at H
              have c19b0 : decide (3640000 < a0_4) = true := decide_eq_true c19
              clear c19
              have H' := Aside0.mk H
              clear H
              have hcz20_0 : wc.cell? ⟨gb183, 0, none⟩ = some (.int .i64 a0_0) := (blk_cell BK183.out 0).trans rfl
              have hcz20_1 : wc.cell? ⟨gb183, 1, none⟩ = some (.int .i64 a0_1) := (blk_cell BK183.out 1).trans rfl
              have hcz20_2 : wc.cell? ⟨gb183, 2, none⟩ = some (.int .i64 a0_2) := (blk_cell BK183.out 2).trans rfl
              have hcz20_3 : wc.cell? ⟨gb183, 3, none⟩ = some (.int .i64 a0_3) := (blk_cell BK183.out 3).trans rfl
              have hcz20_4 : wc.cell? ⟨gb183, 4, none⟩ = some (.int .i64 a0_4) := (blk_cell BK183.out 4).trans rfl
              have hcz20_5 : wc.cell? ⟨gb183, 5, none⟩ = some (.int .i64 a0_5) := (blk_cell BK183.out 5).trans rfl
              have hfz20_0 := blk_frozen BK183.out 0
              have hfz20_1 := blk_frozen BK183.out 1
              have hfz20_2 := blk_frozen BK183.out 2
              have hfz20_3 := blk_frozen BK183.out 3
              have hfz20_4 := blk_frozen BK183.out 4
              have hfz20_5 := blk_frozen BK183.out 5
              go_wp2
              go_meet
              case rel => exact ⟨_, (true), (by first | rfl | (simp; done) | (simp [*]; done)), H', ⟨by have := HJ2.out; first | omega | exact Nat.le_refl _⟩, ⟨by (with_reducible repeat (first | refine blk_drewN ?_ _ | refine blk_drew ?_ | refine blk_alloc ?_ _)); exact BK183.out⟩, ⟨by repeat (first | (with_reducible first | exact HB.out | apply below_alloc | apply pw_below_drewN | apply below_drew1 | refine below_set ?_ GE183.out) | exact HB.out)⟩⟩
            · rw [if_neg c19] at H
              have c19b0 : decide (3640000 < a0_4) = false := decide_eq_false c19
              clear c19
              have H' := Aside0.mk H
              clear H
              have hcz21_0 : wc.cell? ⟨gb183, 0, none⟩ = some (.int .i64 a0_0) := (blk_cell BK183.out 0).trans rfl
              have hcz21_1 : wc.cell? ⟨gb183, 1, none⟩ = some (.int .i64 a0_1) := (blk_cell BK183.out 1).trans rfl
              have hcz21_2 : wc.cell? ⟨gb183, 2, none⟩ = some (.int .i64 a0_2) := (blk_cell BK183.out 2).trans rfl
              have hcz21_3 : wc.cell? ⟨gb183, 3, none⟩ = some (.int .i64 a0_3) := (blk_cell BK183.out 3).trans rfl
              have hcz21_4 : wc.cell? ⟨gb183, 4, none⟩ = some (.int .i64 a0_4) := (blk_cell BK183.out 4).trans rfl
              have hcz21_5 : wc.cell? ⟨gb183, 5, none⟩ = some (.int .i64 a0_5) := (blk_cell BK183.out 5).trans rfl
              have hfz21_0 := blk_frozen BK183.out 0
              have hfz21_1 := blk_frozen BK183.out 1
              have hfz21_2 := blk_frozen BK183.out 2
              have hfz21_3 := blk_frozen BK183.out 3
              have hfz21_4 := blk_frozen BK183.out 4
              have hfz21_5 := blk_frozen BK183.out 5
              go_wp2
              go_meet
              case rel => exact ⟨_, (decide ((l1.length : Int) > 4)), (by first | rfl | (simp; done) | (simp [*]; done)), H', ⟨by have := HJ2.out; first | omega | exact Nat.le_refl _⟩, ⟨by (with_reducible repeat (first | refine blk_drewN ?_ _ | refine blk_drew ?_ | refine blk_alloc ?_ _)); exact BK183.out⟩, ⟨by repeat (first | (with_reducible first | exact HB.out | apply below_alloc | apply pw_below_drewN | apply below_drew1 | refine below_set ?_ GE183.out) | exact HB.out)⟩⟩
        case rest => as_aux_lemma =>
          clear HC16
          try clear c1
          try clear p2
          try clear c4
          try clear c6
          try clear c7
          try clear c7b0
          try clear c9
          try clear c9b0
          try clear c11
          try clear c11b0
          try clear c15
          try clear c17
          try clear c17b0
          try clear c19
          try clear c19b0
          try clear hcz10_0
          try clear hcz10_1
          try clear hcz10_2
          try clear hcz10_3
          try clear hcz10_4
          try clear hcz10_5
          try clear hcz12_0
          try clear hcz12_1
          try clear hcz12_2
          try clear hcz12_3
          try clear hcz12_4
          try clear hcz12_5
          try clear hcz13_0
          try clear hcz13_1
          try clear hcz13_2
          try clear hcz13_3
          try clear hcz13_4
          try clear hcz13_5
          try clear hcz14_0
          try clear hcz14_1
          try clear hcz14_2
          try clear hcz14_3
          try clear hcz14_4
          try clear hcz14_5
          try clear hcz18_0
          try clear hcz18_1
          try clear hcz18_2
          try clear hcz18_3
          try clear hcz18_4
          try clear hcz18_5
          try clear hcz20_0
          try clear hcz20_1
          try clear hcz20_2
          try clear hcz20_3
          try clear hcz20_4
          try clear hcz20_5
          try clear hcz21_0
          try clear hcz21_1
          try clear hcz21_2
          try clear hcz21_3
          try clear hcz21_4
          try clear hcz21_5
          try clear hcz8_0
          try clear hcz8_1
          try clear hcz8_2
          try clear hcz8_3
          try clear hcz8_4
          try clear hcz8_5
          try clear hfz10_0
          try clear hfz10_1
          try clear hfz10_2
          try clear hfz10_3
          try clear hfz10_4
          try clear hfz10_5
          try clear hfz12_0
          try clear hfz12_1
          try clear hfz12_2
          try clear hfz12_3
          try clear hfz12_4
          try clear hfz12_5
          try clear hfz13_0
          try clear hfz13_1
          try clear hfz13_2
          try clear hfz13_3
          try clear hfz13_4
          try clear hfz13_5
          try clear hfz14_0
          try clear hfz14_1
          try clear hfz14_2
          try clear hfz14_3
          try clear hfz14_4
          try clear hfz14_5
          try clear hfz18_0
          try clear hfz18_1
          try clear hfz18_2
          try clear hfz18_3
          try clear hfz18_4
          try clear hfz18_5
          try clear hfz20_0
          try clear hfz20_1
          try clear hfz20_2
          try clear hfz20_3
          try clear hfz20_4
          try clear hfz20_5
          try clear hfz21_0
          try clear hfz21_1
          try clear hfz21_2
          try clear hfz21_3
          try clear hfz21_4
          try clear hfz21_5
          try clear hfz8_0
          try clear hfz8_1
          try clear hfz8_2
          try clear hfz8_3
          try clear hfz8_4
          try clear hfz8_5
          try clear p2
          obtain ⟨kq, x58_15, rfl, HA, HJ15, BK183, HB⟩ := hcut
          cases kq with
          | zero => exact absurd HA.out (by simp [arrearslaw3_InterestAmortizes.j1])
          | succ kj15 =>
            have H := HA.out
            clear HA
            simp only [arrearslaw3_InterestAmortizes.j1] at H
            by_cases c22 : x58_15 = true
            · subst c22
              have H1 : (some true) = some r := by rw [if_pos rfl] at H; exact H
              clear H
              have H := H1
              clear H1
              obtain rfl := Option.some.inj H
              go_wp2
              go_ret
              exact ⟨by first | rfl | (simp [errW_none, errW_some] <;> rfl) | (simp [*, errW_none, errW_some] <;> rfl), by repeat (first | (with_reducible first | exact HB.out | apply below_alloc | apply pw_below_drewN | apply below_drew1 | refine below_set ?_ GE183.out) | exact HB.out)⟩
            · replace c22 := Bool.eq_false_iff.mpr c22
              subst c22
              have H1 : ((arrearslaw3_copied.f kj15 l1).bind fun t185 => (if 0 ≤ (l1.length : Int) then (if (l1.length : Int) ≤ (t185.length : Int) then ((interest_Plan.f kj15 a0_0 a0_1 a0_2 a0_3 a0_4 a0_5 (t185.take ((l1.length : Int) : Int).toNat)).bind fun bt192 => (if bt192.2 = true then (if (bt192.1.length : Int) = 0 then (arrearslaw3_InterestAmortizes.j2 kj15 l1 bt192.1 true a0_0 a0_1 a0_2 a0_3 a0_4 a0_5) else (arrearslaw3_InterestAmortizes.j2 kj15 l1 bt192.1 (decide ((bt192.1.length : Int) > a0_3)) a0_0 a0_1 a0_2 a0_3 a0_4 a0_5)) else (arrearslaw3_InterestAmortizes.j2 kj15 l1 bt192.1 true a0_0 a0_1 a0_2 a0_3 a0_4 a0_5))) else (none)) else (none))) = some r := by rw [if_neg (show ¬ (false = true) by decide)] at H; exact H
              clear H
              have H := H1
              clear H1
              replace H := Option.bind_eq_some_iff.mp H
              obtain ⟨t185, A230, H⟩ := H
              replace H : (if 0 ≤ (l1.length : Int) then (if (l1.length : Int) ≤ (t185.length : Int) then ((interest_Plan.f kj15 a0_0 a0_1 a0_2 a0_3 a0_4 a0_5 (t185.take ((l1.length : Int) : Int).toNat)).bind fun bt192 => (if bt192.2 = true then (if (bt192.1.length : Int) = 0 then (arrearslaw3_InterestAmortizes.j2 kj15 l1 bt192.1 true a0_0 a0_1 a0_2 a0_3 a0_4 a0_5) else (arrearslaw3_InterestAmortizes.j2 kj15 l1 bt192.1 (decide ((bt192.1.length : Int) > a0_3)) a0_0 a0_1 a0_2 a0_3 a0_4 a0_5)) else (arrearslaw3_InterestAmortizes.j2 kj15 l1 bt192.1 true a0_0 a0_1 a0_2 a0_3 a0_4 a0_5))) else (none)) else (none)) = some r := H
              have A23 := Aside0.mk A230
              clear A230
              by_cases c24 : 0 ≤ (l1.length : Int)
              · rw [if_pos c24] at H
                have c24b0 := eq_true c24
                have c24b1 : decide (0 ≤ (l1.length : Int)) = true := decide_eq_true c24
                clear c24
                by_cases c25 : (l1.length : Int) ≤ (t185.length : Int)
                · rw [if_pos c25] at H
                  have c25b0 := eq_true c25
                  have c25b1 : decide ((l1.length : Int) ≤ (t185.length : Int)) = true := decide_eq_true c25
                  clear c25
                  obtain ⟨y188, hy188⟩ : ∃ y_ : List Int, y_ = (t185.take ((l1.length : Int) : Int).toNat) := ⟨_, rfl⟩
                  replace H : ((interest_Plan.f kj15 a0_0 a0_1 a0_2 a0_3 a0_4 a0_5 y188).bind fun bt192 => (if bt192.2 = true then (if (bt192.1.length : Int) = 0 then (arrearslaw3_InterestAmortizes.j2 kj15 l1 bt192.1 true a0_0 a0_1 a0_2 a0_3 a0_4 a0_5) else (arrearslaw3_InterestAmortizes.j2 kj15 l1 bt192.1 (decide ((bt192.1.length : Int) > a0_3)) a0_0 a0_1 a0_2 a0_3 a0_4 a0_5)) else (arrearslaw3_InterestAmortizes.j2 kj15 l1 bt192.1 true a0_0 a0_1 a0_2 a0_3 a0_4 a0_5))) = some r := by first | (rw [hy188]; with_reducible exact H) | (have H2_ := (Option.bind_some _ _).symm.trans H; rw [hy188]; with_reducible exact H2_) | (have H2_ := (Option.bind_some _ _).symm.trans H; with_reducible exact H2_) | with_reducible exact H | (rw [hy188]; exact H) | exact H
                  have Ny188 := Aside0.mk hy188
                  clear hy188
                  replace H := Option.bind_eq_some_iff.mp H
                  obtain ⟨⟨t192, t195⟩, A260, H⟩ := H
                  replace H : (if t195 = true then (if (t192.length : Int) = 0 then (arrearslaw3_InterestAmortizes.j2 kj15 l1 t192 true a0_0 a0_1 a0_2 a0_3 a0_4 a0_5) else (arrearslaw3_InterestAmortizes.j2 kj15 l1 t192 (decide ((t192.length : Int) > a0_3)) a0_0 a0_1 a0_2 a0_3 a0_4 a0_5)) else (arrearslaw3_InterestAmortizes.j2 kj15 l1 t192 true a0_0 a0_1 a0_2 a0_3 a0_4 a0_5)) = some r := H
                  have A26 := Aside0.mk A260
                  clear A260
                  have HC27 := Aside0.mk H
                  clear H
                  try go_wp2
                  have n0_ := Aside0.mk (blk_drew BK183.out)
                  have n1_ := Aside0.mk (below_drew1 HB.out)
                  clear BK183
                  clear HB
                  have BK183 := n0_
                  have HB := n1_
                  clear n0_ n1_
                  refine start_ (n := 12) (S := fun w' => w'.cell? ⟨gb183, 0, none⟩ = some (.int .i64 a0_0) ∧ w'.cell? ⟨gb183, 1, none⟩ = some (.int .i64 a0_1) ∧ w'.cell? ⟨gb183, 2, none⟩ = some (.int .i64 a0_2) ∧ w'.cell? ⟨gb183, 3, none⟩ = some (.int .i64 a0_3) ∧ w'.cell? ⟨gb183, 4, none⟩ = some (.int .i64 a0_4) ∧ w'.cell? ⟨gb183, 5, none⟩ = some (.int .i64 a0_5)) (ds := []) #[false, false, false, false, false, false, false, false, false, false, false, false] (by kernel_rfl) rfl rfl ⟨(blk_cell BK183.out 0).trans rfl, (blk_cell BK183.out 1).trans rfl, (blk_cell BK183.out 2).trans rfl, (blk_cell BK183.out 3).trans rfl, (blk_cell BK183.out 4).trans rfl, (blk_cell BK183.out 5).trans rfl⟩ (fun hHeld => ?_); refine with_tabW arrearslaw3_InterestAmortizes.tab5 arrearslaw3_InterestAmortizes.bits5 (fun HT_ HW_ => ?_)
                  generalize wc.drew = w28 at BK183 HB hHeld ⊢
                  refine pure_ (i := 1) (N := some 61) (v := ?_) (a' := ?_) #[false, true, false, false, false, false, false, false, false, false, false, false] rfl rfl (any_of HT_.out (by kernel_rfl)) (fun _ _ _ h => h) (Or.inl ⟨by rfl, ?_⟩) ?_ ?_
                  rotate_left
                  · intro w'
                    go_simp
                    with_reducible rfl
                  rotate_left
                  · simp only [Act.put, List.setIfInBounds_toArray, List.set_cons_zero, List.set_cons_succ, i64_w, i32_w]
                    rfl
                  refine pure_ (i := 3) (N := some 63) (v := ?_) (a' := ?_) #[false, true, false, true, false, false, false, false, false, false, false, false] rfl rfl (any_of HT_.out (by kernel_rfl)) (fun _ _ _ h => h) (Or.inl ⟨by rfl, ?_⟩) ?_ ?_
                  rotate_left
                  · intro w'
                    go_simp
                    with_reducible rfl
                  rotate_left
                  · simp only [Act.put, List.setIfInBounds_toArray, List.set_cons_zero, List.set_cons_succ, i64_w, i32_w]
                    rfl
                  refine pure_ (i := 4) (N := some 64) (v := ?_) (a' := ?_) #[false, true, false, true, true, false, false, false, false, false, false, false] rfl rfl (any_of HT_.out (by kernel_rfl)) (fun _ _ _ h => h) (Or.inl ⟨by rfl, ?_⟩) ?_ ?_
                  rotate_left
                  · intro w'
                    go_simp
                    with_reducible rfl
                  rotate_left
                  · simp only [Act.put, List.setIfInBounds_toArray, List.set_cons_zero, List.set_cons_succ, i64_w, i32_w]
                    rfl
                  refine take_ (i := 0) (N := some 60) (v := ?_) (a' := ?_) #[true, true, false, true, true, false, false, false, false, false, false, false] rfl rfl (take_ofW HT_.out HW_.out (by kernel_rfl)) (fun _ _ _ h => h) (Or.inl ⟨by rfl, ?_⟩) hHeld ?_ ?_
                  rotate_left
                  · rintro w' ⟨s0, s1, s2, s3, s4, s5⟩
                    go_simp
                    with_reducible rfl
                  rotate_left
                  · simp only [Act.put, List.setIfInBounds_toArray, List.set_cons_zero, List.set_cons_succ, i64_w, i32_w]
                    rfl
                  refine one_ (i := 2) (N := some 62) #[true, true, true, true, true, false, false, false, false, false, false, false] rfl rfl (one_of HT_.out (by kernel_rfl)) (by decide) (fun K hK => ?_)
                  refine goes_ Tryd.func6 (by kernel_rfl) rfl #[.slice A1 l1.length c1] (by rfl) rfl rfl (by (try simp only [List.map_toArray, List.map_cons, List.map_nil]); first | done | rfl | (simp only [List.length_drop, List.length_take]; rfl)) ?_
                  with_reducible refine (arrearslaw3_copied.calls kj15 _ _ l1 t185 _ ?side1 ?side2 A23.out).mono ?_
                  (case side1 => repeat (first | exact (Kd.C_below HR1.out HB.out) | (with_reducible refine Kd.C_alloc ?_ _) | (with_reducible refine Kd.C_drewN ?_ _) | (with_reducible refine Kd.C_drew ?_)))
                  (case side2 => exact HC1.out)
                  rintro e w29 ⟨v186, rfl, ho0, hb⟩
                  refine ⟨_, rfl, ?_⟩
                  have n0_ := Aside0.mk (Kd.R_lower ho0 (below_size (by repeat (first | (with_reducible first | exact HB.out | apply below_alloc | apply pw_below_drewN | apply below_drew1 | refine below_set ?_ GE183.out) | exact HB.out))))
                  have n1_ := Aside0.mk (blk_below (g := gb183) (o := .cells #[.int .i64 a0_0, .int .i64 a0_1, .int .i64 a0_2, .int .i64 a0_3, .int .i64 a0_4, .int .i64 a0_5] 23 (0, 0)) (by (with_reducible repeat (first | refine blk_drewN ?_ _ | refine blk_drew ?_ | refine blk_alloc ?_ _)); exact BK183.out) hb)
                  have n2_ := Aside0.mk (below_step (by repeat (first | (with_reducible first | exact HB.out | apply below_alloc | apply pw_below_drewN | apply below_drew1 | refine below_set ?_ GE183.out) | exact HB.out)) hb)
                  clear BK183
                  clear HB
                  have HO187 := n0_
                  have BK183 := n1_
                  have HB := n2_
                  clear n0_ n1_ n2_
                  (try clear hb)
                  (try clear hb2)
                  (try clear hk)
                  (try clear hi)
                  (try clear ho0)
                  obtain ⟨Ao31, co31, eo31⟩ := Kd.R_slice HO187.out
                  (first | subst eo31 | (injection eo31 with f1_ f2_ f3_; have f4_ := f1_.symm; have f5_ := f3_.symm; clear f1_ f2_ f3_; subst f4_; subst f5_))
                  have q30 : ((l1.length : Int) : Int) ≤ ((t185.length : Int) : Int) := of_decide_eq_true (by first | (with_reducible assumption) | assumption)
                  obtain ⟨i030, hi030, _, hsz30, _⟩ := info_parts info3
                  have hroom30 : t185.length ≤ co31 := (Kd.R_reads' HO187.out).2.1
                  have hC30 : Kd.C (Kd.int .i64) _ Ao31 t185.length t185 := (Kd.R_reads' HO187.out).2.2
                  have hcut30 := cut_to (P := Tryd.prog) 24 3 .i64 Tryd.underlying24 hi030 Ao31 t185.length co31 (l1.length : Int) (of_decide_eq_true (by first | (with_reducible assumption) | assumption)) q30 hroom30
                  have hr30 := Kd.C_take (m := ((l1.length : Int) : Int).toNat) hC30 (by omega)
                  have hy30 : y188.length = ((l1.length : Int) : Int).toNat := (by rw [Ny188.out, List.length_take]; omega)
                  rw [← Ny188.out] at hr30
                  rw [← hy30] at hcut30
                  have HR191 := Aside0.mk hr30
                  have HC191 := Aside0.mk (show y188.length ≤ co31 from by omega)
                  clear hr30 hC30 hroom30 hi030 hsz30
                  have KY30 := Aside0.mk hy30
                  clear hy30
                  have KL30 := Aside0.mk (show ((l1.length : Int) : Int).toNat ≤ t185.length from by omega)
                  replace q30 := eq_true q30
                  refine hK.out _ _ ⟨(blk_cell BK183.out 0).trans rfl, (blk_cell BK183.out 1).trans rfl, (blk_cell BK183.out 2).trans rfl, (blk_cell BK183.out 3).trans rfl, (blk_cell BK183.out 4).trans rfl, (blk_cell BK183.out 5).trans rfl⟩ (fun hHeld => ?_)
                  clear hK K
                  refine norm_ (a' := ?_) ?_ ?_
                  rotate_left
                  · show Act.put _ (some 62) _ = _
                    simp only [Act.put, List.setIfInBounds_toArray, List.set_cons_zero, List.set_cons_succ, i64_w, i32_w]
                    rfl
                  refine pure_ (i := 5) (N := some 65) (v := ?_) (a' := ?_) #[true, true, true, true, true, true, false, false, false, false, false, false] rfl rfl (any_of HT_.out (by kernel_rfl)) (fun _ _ _ h => h) (Or.inl ⟨by rfl, ?_⟩) ?_ ?_
                  rotate_left
                  · intro w'
                    go_simp
                    with_reducible rfl
                  rotate_left
                  · simp only [Act.put, List.setIfInBounds_toArray, List.set_cons_zero, List.set_cons_succ, i64_w, i32_w]
                    rfl
                  refine one_ (i := 6) (N := some 66) #[true, true, true, true, true, true, true, false, false, false, false, false] rfl rfl (one_of HT_.out (by kernel_rfl)) (by decide) (fun K hK => ?_)
                  refine goes_ Tryd.func7 (by kernel_rfl) rfl #[.agg #[.int .i64 a0_0, .int .i64 a0_1, .int .i64 a0_2, .int .i64 a0_3, .int .i64 a0_4, .int .i64 a0_5], .slice Ao31 y188.length co31] (by rfl) rfl rfl (by (try simp only [List.map_toArray, List.map_cons, List.map_nil]); first | done | rfl | (simp only [List.length_drop, List.length_take]; rfl)) ?_
                  with_reducible refine (interest_Plan.calls kj15 a0_0 a0_1 a0_2 a0_3 a0_4 a0_5 _ _ y188 t192 t195 _ ?side1 ?side2 ?side3 A26.out).mono ?_
                  (case side1 => repeat (first | exact (by repeat (first | (with_reducible exact HR191.out) | (with_reducible refine Kd.C_alloc ?_ _) | (with_reducible refine Kd.C_drewN ?_ _) | (with_reducible refine Kd.C_drew ?_) | exact HR191.out)) | (with_reducible refine Kd.C_alloc ?_ _) | (with_reducible refine Kd.C_drewN ?_ _) | (with_reducible refine Kd.C_drew ?_)))
                  (case side2 => exact HC191.out)
                  (case side3 => repeat (first | exact (Kd.C_below HRT.out HB.out) | (with_reducible refine Kd.C_alloc ?_ _) | (with_reducible refine Kd.C_drewN ?_ _) | (with_reducible refine Kd.C_drew ?_)))
                  rintro e w32 ⟨v193, rfl, ho0, hb⟩
                  refine ⟨_, rfl, ?_⟩
                  have n0_ := Aside0.mk (Kd.R_below (by (with_reducible repeat (first | apply Kd.R_alloc | apply Kd.R_drewN | apply Kd.R_drew)); exact HO187.out) hb)
                  have n1_ := Aside0.mk (Kd.R_lower ho0 (below_size (by repeat (first | (with_reducible first | exact HB.out | apply below_alloc | apply pw_below_drewN | apply below_drew1 | refine below_set ?_ GE183.out) | exact HB.out))))
                  have n2_ := Aside0.mk (blk_below (g := gb183) (o := .cells #[.int .i64 a0_0, .int .i64 a0_1, .int .i64 a0_2, .int .i64 a0_3, .int .i64 a0_4, .int .i64 a0_5] 23 (0, 0)) (by (with_reducible repeat (first | refine blk_drewN ?_ _ | refine blk_drew ?_ | refine blk_alloc ?_ _)); exact BK183.out) hb)
                  have n3_ := Aside0.mk (Kd.C_below (by repeat (first | (with_reducible exact HR191.out) | (with_reducible refine Kd.C_alloc ?_ _) | (with_reducible refine Kd.C_drewN ?_ _) | (with_reducible refine Kd.C_drew ?_) | exact HR191.out)) hb)
                  have n4_ := Aside0.mk (below_step (by repeat (first | (with_reducible first | exact HB.out | apply below_alloc | apply pw_below_drewN | apply below_drew1 | refine below_set ?_ GE183.out) | exact HB.out)) hb)
                  clear HO187
                  clear BK183
                  clear HR191
                  clear HB
                  have HO187 := n0_
                  have HO194 := n1_
                  have BK183 := n2_
                  have HR191 := n3_
                  have HB := n4_
                  clear n0_ n1_ n2_ n3_ n4_
                  (try clear hb)
                  (try clear hb2)
                  (try clear hk)
                  (try clear hi)
                  (try clear ho0)
                  refine hK.out _ _ ⟨(blk_cell BK183.out 0).trans rfl, (blk_cell BK183.out 1).trans rfl, (blk_cell BK183.out 2).trans rfl, (blk_cell BK183.out 3).trans rfl, (blk_cell BK183.out 4).trans rfl, (blk_cell BK183.out 5).trans rfl⟩ (fun hHeld => ?_)
                  clear hK K
                  refine norm_ (a' := ?_) ?_ ?_
                  rotate_left
                  · show Act.put _ (some 66) _ = _
                    simp only [Act.put, List.setIfInBounds_toArray, List.set_cons_zero, List.set_cons_succ, i64_w, i32_w]
                    rfl
                  refine pure_ (i := 7) (N := some 59) (v := ?_) (a' := ?_) #[true, true, true, true, true, true, true, true, false, false, false, false] rfl rfl (any_of HT_.out (by kernel_rfl)) (fun _ _ _ h => h) (Or.inl ⟨by rfl, ?_⟩) ?_ ?_
                  rotate_left
                  · intro w'
                    go_simp
                    with_reducible rfl
                  rotate_left
                  · simp only [Act.put, List.setIfInBounds_toArray, List.set_cons_zero, List.set_cons_succ, i64_w, i32_w]
                    rfl
                  refine pure_ (i := 8) (N := some 67) (v := ?_) (a' := ?_) #[true, true, true, true, true, true, true, true, true, false, false, false] rfl rfl (any_of HT_.out (by kernel_rfl)) (fun _ _ _ h => h) (Or.inl ⟨by rfl, ?_⟩) ?_ ?_
                  rotate_left
                  · intro w'
                    go_simp
                    with_reducible rfl
                  rotate_left
                  · simp only [Act.put, List.setIfInBounds_toArray, List.set_cons_zero, List.set_cons_succ, i64_w, i32_w]
                    rfl
                  refine pure_ (i := 9) (N := some 68) (v := ?_) (a' := ?_) #[true, true, true, true, true, true, true, true, true, true, false, false] rfl rfl (any_of HT_.out (by kernel_rfl)) (fun _ _ _ h => h) (Or.inl ⟨by rfl, ?_⟩) ?_ ?_
                  rotate_left
                  · intro w'
                    go_simp
                    with_reducible rfl
                  rotate_left
                  · simp only [Act.put, List.setIfInBounds_toArray, List.set_cons_zero, List.set_cons_succ, i64_w, i32_w]
                    rfl
                  refine pure_ (i := 10) (N := some 5) (v := ?_) (a' := ?_) #[true, true, true, true, true, true, true, true, true, true, true, false] rfl rfl (any_of HT_.out (by kernel_rfl)) (fun _ _ _ h => h) (Or.inl ⟨by rfl, ?_⟩) ?_ ?_
                  rotate_left
                  · intro w'
                    go_simp
                    with_reducible rfl
                  rotate_left
                  · simp only [Act.put, List.setIfInBounds_toArray, List.set_cons_zero, List.set_cons_succ, i64_w, i32_w]
                    rfl
                  refine pure_ (i := 11) (N := some 6) (v := ?_) (a' := ?_) #[true, true, true, true, true, true, true, true, true, true, true, true] rfl rfl (any_of HT_.out (by kernel_rfl)) (fun _ _ _ h => h) (Or.inl ⟨by rfl, ?_⟩) ?_ ?_
                  rotate_left
                  · intro w'
                    go_simp
                    with_reducible rfl
                  rotate_left
                  · simp only [Act.put, List.setIfInBounds_toArray, List.set_cons_zero, List.set_cons_succ, i64_w, i32_w]
                    rfl
                  refine done_ (done_of HT_.out (by kernel_rfl)) ?_
                  go_upto_region 6 with (fail)
                  go_cut [82] (fun v82 wc => ∃ (kq : Nat) (x82_26 : Bool), v82 = .bool x82_26 ∧ Aside0 (arrearslaw3_InterestAmortizes.j2 kq l1 t192 x82_26 a0_0 a0_1 a0_2 a0_3 a0_4 a0_5 = some r) ∧ Aside0 (kq ≤ kj15) ∧ Aside0 (Kd.R k41 41 wc w.heap.size (fun _ => True) v193 t192) ∧ Aside0 (wc.heap[gb183]? = some (.cells #[.int .i64 a0_0, .int .i64 a0_1, .int .i64 a0_2, .int .i64 a0_3, .int .i64 a0_4, .int .i64 a0_5] 23 (0, 0))) ∧ Aside0 (Kd.C (Kd.int .i64) wc Ao31 y188.length y188) ∧ Aside0 (Below w.heap.size w wc))
                  case first => as_aux_lemma =>
                    have H := HC27.out
                    clear HC27
                    by_cases c33 : t195 = true
                    · subst c33
                      have H1 : (if (t192.length : Int) = 0 then (arrearslaw3_InterestAmortizes.j2 kj15 l1 t192 true a0_0 a0_1 a0_2 a0_3 a0_4 a0_5) else (arrearslaw3_InterestAmortizes.j2 kj15 l1 t192 (decide ((t192.length : Int) > a0_3)) a0_0 a0_1 a0_2 a0_3 a0_4 a0_5)) = some r := by rw [if_pos rfl] at H; exact H
                      clear H
                      have H := H1
                      clear H1
                      by_cases c34 : (t192.length : Int) = 0
                      · rw [if_pos c34] at H
                        have c34b0 : ((t192.length : Int) == 0) = true := beq_iff_eq.mpr c34
                        have c34b1 : ((t192.length : Int) != 0) = false := bne_eq_false_iff_eq.mpr c34
                        clear c34
                        (first | rw [c34b0] | (simp only [i64_w, i32_w]; rw [c34b0]) | skip)
                        have H' := Aside0.mk H
                        clear H
                        obtain ⟨Ao35, co35, eo35⟩ := Kd.R_slice HO194.out
                        subst eo35
                        go_wp2
                        go_meet
                        case rel => exact ⟨_, (true), (by first | rfl | (simp; done) | (simp [*]; done)), H', ⟨by have := HJ2.out; have := HJ15.out; first | omega | exact Nat.le_refl _⟩, ⟨by (with_reducible repeat (first | apply Kd.R_alloc | apply Kd.R_drewN | apply Kd.R_drew)); exact HO194.out⟩, ⟨by (with_reducible repeat (first | refine blk_drewN ?_ _ | refine blk_drew ?_ | refine blk_alloc ?_ _)); exact BK183.out⟩, ⟨by repeat (first | (with_reducible exact HR191.out) | (with_reducible refine Kd.C_alloc ?_ _) | (with_reducible refine Kd.C_drewN ?_ _) | (with_reducible refine Kd.C_drew ?_) | exact HR191.out)⟩, ⟨by repeat (first | (with_reducible first | exact HB.out | apply below_alloc | apply pw_below_drewN | apply below_drew1 | refine below_set ?_ GE183.out) | exact HB.out)⟩⟩
                      · rw [if_neg c34] at H
                        have c34b0 : ((t192.length : Int) == 0) = false := beq_eq_false_iff_ne.mpr c34
                        have c34b1 : ((t192.length : Int) != 0) = true := bne_iff_ne.mpr c34
                        have c34b2 : ¬ (t192 = []) := fun h_ => c34 (by rw [h_]; rfl)
                        (first | rw [c34b0] | (simp only [i64_w, i32_w]; rw [c34b0]) | skip)
                        have H' := Aside0.mk H
                        clear H
                        obtain ⟨Ao36, co36, eo36⟩ := Kd.R_slice HO194.out
                        subst eo36
                        have hcz37_0 : w32.cell? ⟨gb183, 0, none⟩ = some (.int .i64 a0_0) := (blk_cell BK183.out 0).trans rfl
                        have hcz37_1 : w32.cell? ⟨gb183, 1, none⟩ = some (.int .i64 a0_1) := (blk_cell BK183.out 1).trans rfl
                        have hcz37_2 : w32.cell? ⟨gb183, 2, none⟩ = some (.int .i64 a0_2) := (blk_cell BK183.out 2).trans rfl
                        have hcz37_3 : w32.cell? ⟨gb183, 3, none⟩ = some (.int .i64 a0_3) := (blk_cell BK183.out 3).trans rfl
                        have hcz37_4 : w32.cell? ⟨gb183, 4, none⟩ = some (.int .i64 a0_4) := (blk_cell BK183.out 4).trans rfl
                        have hcz37_5 : w32.cell? ⟨gb183, 5, none⟩ = some (.int .i64 a0_5) := (blk_cell BK183.out 5).trans rfl
                        have hfz37_0 := blk_frozen BK183.out 0
                        have hfz37_1 := blk_frozen BK183.out 1
                        have hfz37_2 := blk_frozen BK183.out 2
                        have hfz37_3 := blk_frozen BK183.out 3
                        have hfz37_4 := blk_frozen BK183.out 4
                        have hfz37_5 := blk_frozen BK183.out 5
                        go_wp2
                        go_meet
                        case rel => exact ⟨_, (decide ((t192.length : Int) > a0_3)), (by first | rfl | (simp; done) | (simp [*]; done)), H', ⟨by have := HJ2.out; have := HJ15.out; first | omega | exact Nat.le_refl _⟩, ⟨by (with_reducible repeat (first | apply Kd.R_alloc | apply Kd.R_drewN | apply Kd.R_drew)); exact HO194.out⟩, ⟨by (with_reducible repeat (first | refine blk_drewN ?_ _ | refine blk_drew ?_ | refine blk_alloc ?_ _)); exact BK183.out⟩, ⟨by repeat (first | (with_reducible exact HR191.out) | (with_reducible refine Kd.C_alloc ?_ _) | (with_reducible refine Kd.C_drewN ?_ _) | (with_reducible refine Kd.C_drew ?_) | exact HR191.out)⟩, ⟨by repeat (first | (with_reducible first | exact HB.out | apply below_alloc | apply pw_below_drewN | apply below_drew1 | refine below_set ?_ GE183.out) | exact HB.out)⟩⟩
                    · replace c33 := Bool.eq_false_iff.mpr c33
                      subst c33
                      have H1 : (arrearslaw3_InterestAmortizes.j2 kj15 l1 t192 true a0_0 a0_1 a0_2 a0_3 a0_4 a0_5) = some r := by rw [if_neg (show ¬ (false = true) by decide)] at H; exact H
                      clear H
                      have H := H1
                      clear H1
                      have H' := Aside0.mk H
                      clear H
                      go_wp2
                      go_meet
                      case rel => exact ⟨_, (true), (by first | rfl | (simp; done) | (simp [*]; done)), H', ⟨by have := HJ2.out; have := HJ15.out; first | omega | exact Nat.le_refl _⟩, ⟨by (with_reducible repeat (first | apply Kd.R_alloc | apply Kd.R_drewN | apply Kd.R_drew)); exact HO194.out⟩, ⟨by (with_reducible repeat (first | refine blk_drewN ?_ _ | refine blk_drew ?_ | refine blk_alloc ?_ _)); exact BK183.out⟩, ⟨by repeat (first | (with_reducible exact HR191.out) | (with_reducible refine Kd.C_alloc ?_ _) | (with_reducible refine Kd.C_drewN ?_ _) | (with_reducible refine Kd.C_drew ?_) | exact HR191.out)⟩, ⟨by repeat (first | (with_reducible first | exact HB.out | apply below_alloc | apply pw_below_drewN | apply below_drew1 | refine below_set ?_ GE183.out) | exact HB.out)⟩⟩
                  case rest => as_aux_lemma =>
                    clear HC27
                    try clear c1
                    try clear c2
                    try clear p2
                    try clear c3
                    try clear q3
                    try clear c4
                    try clear c6
                    try clear c7
                    try clear c7b0
                    try clear c9
                    try clear c9b0
                    try clear c11
                    try clear c11b0
                    try clear c15
                    try clear c17
                    try clear c17b0
                    try clear c19
                    try clear c19b0
                    try clear c22
                    try clear c24
                    try clear c24b0
                    try clear c24b1
                    try clear c25
                    try clear c25b0
                    try clear c25b1
                    try clear q30
                    try clear c33
                    try clear c34
                    try clear c34b0
                    try clear c34b1
                    try clear c34b2
                    try clear hcz10_0
                    try clear hcz10_1
                    try clear hcz10_2
                    try clear hcz10_3
                    try clear hcz10_4
                    try clear hcz10_5
                    try clear hcz12_0
                    try clear hcz12_1
                    try clear hcz12_2
                    try clear hcz12_3
                    try clear hcz12_4
                    try clear hcz12_5
                    try clear hcz13_0
                    try clear hcz13_1
                    try clear hcz13_2
                    try clear hcz13_3
                    try clear hcz13_4
                    try clear hcz13_5
                    try clear hcz14_0
                    try clear hcz14_1
                    try clear hcz14_2
                    try clear hcz14_3
                    try clear hcz14_4
                    try clear hcz14_5
                    try clear hcz18_0
                    try clear hcz18_1
                    try clear hcz18_2
                    try clear hcz18_3
                    try clear hcz18_4
                    try clear hcz18_5
                    try clear hcz20_0
                    try clear hcz20_1
                    try clear hcz20_2
                    try clear hcz20_3
                    try clear hcz20_4
                    try clear hcz20_5
                    try clear hcz21_0
                    try clear hcz21_1
                    try clear hcz21_2
                    try clear hcz21_3
                    try clear hcz21_4
                    try clear hcz21_5
                    try clear hcz37_0
                    try clear hcz37_1
                    try clear hcz37_2
                    try clear hcz37_3
                    try clear hcz37_4
                    try clear hcz37_5
                    try clear hcz8_0
                    try clear hcz8_1
                    try clear hcz8_2
                    try clear hcz8_3
                    try clear hcz8_4
                    try clear hcz8_5
                    try clear hfz10_0
                    try clear hfz10_1
                    try clear hfz10_2
                    try clear hfz10_3
                    try clear hfz10_4
                    try clear hfz10_5
                    try clear hfz12_0
                    try clear hfz12_1
                    try clear hfz12_2
                    try clear hfz12_3
                    try clear hfz12_4
                    try clear hfz12_5
                    try clear hfz13_0
                    try clear hfz13_1
                    try clear hfz13_2
                    try clear hfz13_3
                    try clear hfz13_4
                    try clear hfz13_5
                    try clear hfz14_0
                    try clear hfz14_1
                    try clear hfz14_2
                    try clear hfz14_3
                    try clear hfz14_4
                    try clear hfz14_5
                    try clear hfz18_0
                    try clear hfz18_1
                    try clear hfz18_2
                    try clear hfz18_3
                    try clear hfz18_4
                    try clear hfz18_5
                    try clear hfz20_0
                    try clear hfz20_1
                    try clear hfz20_2
                    try clear hfz20_3
                    try clear hfz20_4
                    try clear hfz20_5
                    try clear hfz21_0
                    try clear hfz21_1
                    try clear hfz21_2
                    try clear hfz21_3
                    try clear hfz21_4
                    try clear hfz21_5
                    try clear hfz37_0
                    try clear hfz37_1
                    try clear hfz37_2
                    try clear hfz37_3
                    try clear hfz37_4
                    try clear hfz37_5
                    try clear hfz8_0
                    try clear hfz8_1
                    try clear hfz8_2
                    try clear hfz8_3
                    try clear hfz8_4
                    try clear hfz8_5
                    try clear p2
                    try clear q30
                    obtain ⟨kq, x82_26, rfl, HA, HJ26, HO_5, BK183, HR191, HB⟩ := hcut
                    cases kq with
                    | zero => exact absurd HA.out (by simp [arrearslaw3_InterestAmortizes.j2])
                    | succ kj26 =>
                      have H := HA.out
                      clear HA
                      simp only [arrearslaw3_InterestAmortizes.j2] at H
                      by_cases c38 : x82_26 = true
                      · subst c38
                        have H1 : (some false) = some r := by rw [if_pos rfl] at H; exact H
                        clear H
                        have H := H1
                        clear H1
                        obtain rfl := Option.some.inj H
                        go_wp2
                        go_ret
                        exact ⟨by first | rfl | (simp [errW_none, errW_some] <;> rfl) | (simp [*, errW_none, errW_some] <;> rfl), by repeat (first | (with_reducible first | exact HB.out | apply below_alloc | apply pw_below_drewN | apply below_drew1 | refine below_set ?_ GE183.out) | exact HB.out)⟩
                      · replace c38 := Bool.eq_false_iff.mpr c38
                        subst c38
                        have H1 : ((interest_Level.f kj26 a0_1 a0_2 a0_3).bind fun bt196 => ((calendar_Civil.f kj26 a0_4).bind fun bt198 => (if bt196.2 = true then (arrearslaw3_InterestAmortizes.j3 kj26 l1 t192 bt196.1 (!bt198.2.2.2) a0_0 a0_1 a0_2 a0_3 a0_4 a0_5 bt198.1 bt198.2.1 bt198.2.2.1) else (arrearslaw3_InterestAmortizes.j3 kj26 l1 t192 bt196.1 true a0_0 a0_1 a0_2 a0_3 a0_4 a0_5 bt198.1 bt198.2.1 bt198.2.2.1)))) = some r := by rw [if_neg (show ¬ (false = true) by decide)] at H; exact H
                        clear H
                        have H := H1
                        clear H1
                        replace H := Option.bind_eq_some_iff.mp H
                        obtain ⟨⟨t196, t197⟩, A390, H⟩ := H
                        replace H : ((calendar_Civil.f kj26 a0_4).bind fun bt198 => (if t197 = true then (arrearslaw3_InterestAmortizes.j3 kj26 l1 t192 t196 (!bt198.2.2.2) a0_0 a0_1 a0_2 a0_3 a0_4 a0_5 bt198.1 bt198.2.1 bt198.2.2.1) else (arrearslaw3_InterestAmortizes.j3 kj26 l1 t192 t196 true a0_0 a0_1 a0_2 a0_3 a0_4 a0_5 bt198.1 bt198.2.1 bt198.2.2.1))) = some r := H
                        have A39 := Aside0.mk A390
                        clear A390
                        replace H := Option.bind_eq_some_iff.mp H
                        obtain ⟨⟨t198, t199, t200, t201⟩, A400, H⟩ := H
                        replace H : (if t197 = true then (arrearslaw3_InterestAmortizes.j3 kj26 l1 t192 t196 (!t201) a0_0 a0_1 a0_2 a0_3 a0_4 a0_5 t198 t199 t200) else (arrearslaw3_InterestAmortizes.j3 kj26 l1 t192 t196 true a0_0 a0_1 a0_2 a0_3 a0_4 a0_5 t198 t199 t200)) = some r := H
                        have A40 := Aside0.mk A400
                        clear A400
                        have HC41 := Aside0.mk H
                        clear H
                        have hcz42_0 : wc.cell? ⟨gb183, 0, none⟩ = some (.int .i64 a0_0) := (blk_cell BK183.out 0).trans rfl
                        have hcz42_1 : wc.cell? ⟨gb183, 1, none⟩ = some (.int .i64 a0_1) := (blk_cell BK183.out 1).trans rfl
                        have hcz42_2 : wc.cell? ⟨gb183, 2, none⟩ = some (.int .i64 a0_2) := (blk_cell BK183.out 2).trans rfl
                        have hcz42_3 : wc.cell? ⟨gb183, 3, none⟩ = some (.int .i64 a0_3) := (blk_cell BK183.out 3).trans rfl
                        have hcz42_4 : wc.cell? ⟨gb183, 4, none⟩ = some (.int .i64 a0_4) := (blk_cell BK183.out 4).trans rfl
                        have hcz42_5 : wc.cell? ⟨gb183, 5, none⟩ = some (.int .i64 a0_5) := (blk_cell BK183.out 5).trans rfl
                        have hfz42_0 := blk_frozen BK183.out 0
                        have hfz42_1 := blk_frozen BK183.out 1
                        have hfz42_2 := blk_frozen BK183.out 2
                        have hfz42_3 := blk_frozen BK183.out 3
                        have hfz42_4 := blk_frozen BK183.out 4
                        have hfz42_5 := blk_frozen BK183.out 5
                        go_upto_region 10 with (first | ((with_reducible refine gate_callee (f := 12) rfl ?_); refine goesL_ (some 90) rfl rfl Tryd.func12 (by kernel_rfl) rfl #[.int .i64 a0_1, .int .i64 a0_2, .int .i64 a0_3] rfl (by (try simp only [List.map_toArray, List.map_cons, List.map_nil]); first | done | rfl | (simp only [List.length_drop, List.length_take]; rfl)) ?_; (with_reducible refine (interest_Level.calls kj26 a0_1 a0_2 a0_3 t196 t197 _ A39.out).mono ?_); rintro e w43 ⟨rfl, hb⟩; refine ⟨_, rfl, ?_⟩; have n0_ := Aside0.mk (Kd.R_below (by (with_reducible repeat (first | apply Kd.R_alloc | apply Kd.R_drewN | apply Kd.R_drew)); exact HO_5.out) hb); have n1_ := Aside0.mk (blk_below (g := gb183) (o := .cells #[.int .i64 a0_0, .int .i64 a0_1, .int .i64 a0_2, .int .i64 a0_3, .int .i64 a0_4, .int .i64 a0_5] 23 (0, 0)) (by (with_reducible repeat (first | refine blk_drewN ?_ _ | refine blk_drew ?_ | refine blk_alloc ?_ _)); exact BK183.out) hb); have n2_ := Aside0.mk (Kd.C_below (by repeat (first | (with_reducible exact HR191.out) | (with_reducible refine Kd.C_alloc ?_ _) | (with_reducible refine Kd.C_drewN ?_ _) | (with_reducible refine Kd.C_drew ?_) | exact HR191.out)) hb); have n3_ := Aside0.mk (below_step (by repeat (first | (with_reducible first | exact HB.out | apply below_alloc | apply pw_below_drewN | apply below_drew1 | refine below_set ?_ GE183.out) | exact HB.out)) hb); clear HO_5; clear BK183; clear HR191; clear HB; have HO_5 := n0_; have BK183 := n1_; have HR191 := n2_; have HB := n3_; clear n0_ n1_ n2_ n3_; (try clear hb); (try clear hb2); (try clear hk); (try clear hi); have hcz44_0 : w43.cell? ⟨gb183, 0, none⟩ = some (.int .i64 a0_0) := (blk_cell BK183.out 0).trans rfl; have hcz44_1 : w43.cell? ⟨gb183, 1, none⟩ = some (.int .i64 a0_1) := (blk_cell BK183.out 1).trans rfl; have hcz44_2 : w43.cell? ⟨gb183, 2, none⟩ = some (.int .i64 a0_2) := (blk_cell BK183.out 2).trans rfl; have hcz44_3 : w43.cell? ⟨gb183, 3, none⟩ = some (.int .i64 a0_3) := (blk_cell BK183.out 3).trans rfl; have hcz44_4 : w43.cell? ⟨gb183, 4, none⟩ = some (.int .i64 a0_4) := (blk_cell BK183.out 4).trans rfl; have hcz44_5 : w43.cell? ⟨gb183, 5, none⟩ = some (.int .i64 a0_5) := (blk_cell BK183.out 5).trans rfl; have hfz44_0 := blk_frozen BK183.out 0; have hfz44_1 := blk_frozen BK183.out 1; have hfz44_2 := blk_frozen BK183.out 2; have hfz44_3 := blk_frozen BK183.out 3; have hfz44_4 := blk_frozen BK183.out 4; have hfz44_5 := blk_frozen BK183.out 5) | ((with_reducible refine gate_callee (f := 13) rfl ?_); refine goesL_ (some 96) rfl rfl Tryd.func13 (by kernel_rfl) rfl #[.int .i64 a0_4] rfl (by (try simp only [List.map_toArray, List.map_cons, List.map_nil]); first | done | rfl | (simp only [List.length_drop, List.length_take]; rfl)) ?_; (with_reducible refine (calendar_Civil.calls kj26 a0_4 t198 t199 t200 t201 _ ?side1 A40.out).mono ?_); (case side1 => repeat (first | exact (Kd.C_below HRT.out HB.out) | (with_reducible refine Kd.C_alloc ?_ _) | (with_reducible refine Kd.C_drewN ?_ _) | (with_reducible refine Kd.C_drew ?_))); rintro e w45 ⟨rfl, hb⟩; refine ⟨_, rfl, ?_⟩; have n0_ := Aside0.mk (Kd.R_below (by (with_reducible repeat (first | apply Kd.R_alloc | apply Kd.R_drewN | apply Kd.R_drew)); exact HO_5.out) hb); have n1_ := Aside0.mk (blk_below (g := gb183) (o := .cells #[.int .i64 a0_0, .int .i64 a0_1, .int .i64 a0_2, .int .i64 a0_3, .int .i64 a0_4, .int .i64 a0_5] 23 (0, 0)) (by (with_reducible repeat (first | refine blk_drewN ?_ _ | refine blk_drew ?_ | refine blk_alloc ?_ _)); exact BK183.out) hb); have n2_ := Aside0.mk (Kd.C_below (by repeat (first | (with_reducible exact HR191.out) | (with_reducible refine Kd.C_alloc ?_ _) | (with_reducible refine Kd.C_drewN ?_ _) | (with_reducible refine Kd.C_drew ?_) | exact HR191.out)) hb); have n3_ := Aside0.mk (below_step (by repeat (first | (with_reducible first | exact HB.out | apply below_alloc | apply pw_below_drewN | apply below_drew1 | refine below_set ?_ GE183.out) | exact HB.out)) hb); clear HO_5; clear BK183; clear HR191; clear HB; have HO_5 := n0_; have BK183 := n1_; have HR191 := n2_; have HB := n3_; clear n0_ n1_ n2_ n3_; (try clear hb); (try clear hb2); (try clear hk); (try clear hi)) | ((with_reducible refine gate_dst (N := 9) rfl ?_); (try (refine gate_guard (by rfl) ?_; dsimp only)); refine box_event ?hg (N := 9) ?hd (cs := #[.int .i64 0, .int .i64 0, .int .i64 0]) (t := 36) ?hr ?_; (case hd => rfl); (case hg => rfl); (case hr => first | (go_simp; done) | (go_simp; rfl)); intro gb202 hg w46 hbox hb; have n0_ := Aside0.mk (Kd.R_below (by (with_reducible repeat (first | apply Kd.R_alloc | apply Kd.R_drewN | apply Kd.R_drew)); exact HO_5.out) hb); have n1_ := Aside0.mk (blk_below (g := gb183) (o := .cells #[.int .i64 a0_0, .int .i64 a0_1, .int .i64 a0_2, .int .i64 a0_3, .int .i64 a0_4, .int .i64 a0_5] 23 (0, 0)) (by (with_reducible repeat (first | refine blk_drewN ?_ _ | refine blk_drew ?_ | refine blk_alloc ?_ _)); exact BK183.out) hb); have n2_ := Aside0.mk (Kd.C_below (by repeat (first | (with_reducible exact HR191.out) | (with_reducible refine Kd.C_alloc ?_ _) | (with_reducible refine Kd.C_drewN ?_ _) | (with_reducible refine Kd.C_drew ?_) | exact HR191.out)) hb); have n3_ := Aside0.mk (below_step (by repeat (first | (with_reducible first | exact HB.out | apply below_alloc | apply pw_below_drewN | apply below_drew1 | refine below_set ?_ GE183.out) | exact HB.out)) hb); have n4_ := Aside0.mk (hbox); have n5_ := Aside0.mk ((by rw [hg]; exact (below_size (by repeat (first | (with_reducible first | exact HB.out | apply below_alloc | apply pw_below_drewN | apply below_drew1 | refine below_set ?_ GE183.out) | exact HB.out))) : w.heap.size ≤ gb202)); have n6_ := Aside0.mk ((by rw [hg]; exact (below_size (by repeat (first | (with_reducible first | exact HB.out | apply below_alloc | apply pw_below_drewN | apply below_drew1 | refine below_set ?_ GE183.out) | exact HB.out))) : w.heap.size ≤ gb202)); have n7_ := Aside0.mk ((by rw [hg]; exact Nat.ne_of_lt (blk_lt (g := gb183) (o := .cells #[.int .i64 a0_0, .int .i64 a0_1, .int .i64 a0_2, .int .i64 a0_3, .int .i64 a0_4, .int .i64 a0_5] 23 (0, 0)) (by (with_reducible repeat (first | refine blk_drewN ?_ _ | refine blk_drew ?_ | refine blk_alloc ?_ _)); exact BK183.out)) : gb183 ≠ gb202)); have n8_ := Aside0.mk ((by rw [hg]; exact Nat.ne_of_gt (blk_lt (g := gb183) (o := .cells #[.int .i64 a0_0, .int .i64 a0_1, .int .i64 a0_2, .int .i64 a0_3, .int .i64 a0_4, .int .i64 a0_5] 23 (0, 0)) (by (with_reducible repeat (first | refine blk_drewN ?_ _ | refine blk_drew ?_ | refine blk_alloc ?_ _)); exact BK183.out)) : gb202 ≠ gb183)); clear HO_5; clear BK183; clear HR191; clear HB; have HO_5 := n0_; have BK183 := n1_; have HR191 := n2_; have HB := n3_; have BK202 := n4_; have GW202 := n5_; have GE202 := n6_; have NB183_202 := n7_; have NB202_183 := n8_; clear n0_ n1_ n2_ n3_ n4_ n5_ n6_ n7_ n8_; clear hb hbox hg; have hnb47 := NB202_183.out; have hnc47 := NB183_202.out; have hcz48_0 : w46.cell? ⟨gb202, 0, none⟩ = some (.int .i64 0) := (blk_cell BK202.out 0).trans rfl; have hcz48_1 : w46.cell? ⟨gb202, 1, none⟩ = some (.int .i64 0) := (blk_cell BK202.out 1).trans rfl; have hcz48_2 : w46.cell? ⟨gb202, 2, none⟩ = some (.int .i64 0) := (blk_cell BK202.out 2).trans rfl; have hfz48_0 := blk_frozen BK202.out 0; have hfz48_1 := blk_frozen BK202.out 1; have hfz48_2 := blk_frozen BK202.out 2))
                        (try simp only [Act.put, List.setIfInBounds_toArray, List.set_cons_zero, List.set_cons_succ])
                        go_cut [104] (fun v104 wc => ∃ (kq : Nat) (x104_40 : Bool), v104 = .bool x104_40 ∧ Aside0 (arrearslaw3_InterestAmortizes.j3 kq l1 t192 t196 x104_40 a0_0 a0_1 a0_2 a0_3 a0_4 a0_5 t198 t199 t200 = some r) ∧ Aside0 (kq ≤ kj26) ∧ Aside0 (Kd.R k41 41 wc w.heap.size (fun _ => True) v193 t192) ∧ Aside0 (wc.heap[gb183]? = some (.cells #[.int .i64 a0_0, .int .i64 a0_1, .int .i64 a0_2, .int .i64 a0_3, .int .i64 a0_4, .int .i64 a0_5] 23 (0, 0))) ∧ Aside0 (wc.heap[gb202]? = some (.cells #[.int .i64 t198, .int .i64 t199, .int .i64 t200] 36 (0, 0))) ∧ Aside0 (Below w.heap.size w wc))
                        case first => as_aux_lemma =>
                          have H := HC41.out
                          clear HC41
                          by_cases c49 : t197 = true
                          · subst c49
                            have H1 : (arrearslaw3_InterestAmortizes.j3 kj26 l1 t192 t196 (!t201) a0_0 a0_1 a0_2 a0_3 a0_4 a0_5 t198 t199 t200) = some r := by rw [if_pos rfl] at H; exact H
                            clear H
                            have H := H1
                            clear H1
                            have H' := Aside0.mk H
                            clear H
                            go_wp2
                            go_meet
                            case rel => exact ⟨_, (!t201), (by first | rfl | (simp; done) | (simp [*]; done)), H', ⟨by have := HJ2.out; have := HJ15.out; have := HJ26.out; first | omega | exact Nat.le_refl _⟩, ⟨by (with_reducible repeat (first | apply Kd.R_alloc | apply Kd.R_drewN | apply Kd.R_drew)); exact Kd.R_mono (Kd.R_far (p := ⟨gb202, 2, none⟩) (Kd.R_far (p := ⟨gb202, 1, none⟩) (Kd.R_far (p := ⟨gb202, 0, none⟩) (Kd.R_types HO_5.out BK202.out (by decide)) (fun _ hk => hk.2) (.int .i64 t198)) (fun _ hk => hk.2) (.int .i64 t199)) (fun _ hk => hk.2) (.int .i64 t200)) (fun _ hk => trivial)⟩, ⟨by (with_reducible repeat (first | refine blk_drewN ?_ _ | refine blk_drew ?_ | refine blk_alloc ?_ _)); refine blk_far ?_ NB183_202.out _; (with_reducible repeat (first | refine blk_drewN ?_ _ | refine blk_drew ?_ | refine blk_alloc ?_ _)); refine blk_far ?_ NB183_202.out _; (with_reducible repeat (first | refine blk_drewN ?_ _ | refine blk_drew ?_ | refine blk_alloc ?_ _)); refine blk_far ?_ NB183_202.out _; (with_reducible repeat (first | refine blk_drewN ?_ _ | refine blk_drew ?_ | refine blk_alloc ?_ _)); exact BK183.out⟩, ⟨by (with_reducible repeat (first | refine blk_drewN ?_ _ | refine blk_drew ?_ | refine blk_alloc ?_ _)); refine blk_put (cs := #[.int .i64 t198, .int .i64 t199, .int .i64 0]) ?_ 2 _ rfl; (with_reducible repeat (first | refine blk_drewN ?_ _ | refine blk_drew ?_ | refine blk_alloc ?_ _)); refine blk_put (cs := #[.int .i64 t198, .int .i64 0, .int .i64 0]) ?_ 1 _ rfl; (with_reducible repeat (first | refine blk_drewN ?_ _ | refine blk_drew ?_ | refine blk_alloc ?_ _)); refine blk_put (cs := #[.int .i64 0, .int .i64 0, .int .i64 0]) ?_ 0 _ rfl; (with_reducible repeat (first | refine blk_drewN ?_ _ | refine blk_drew ?_ | refine blk_alloc ?_ _)); exact BK202.out⟩, ⟨by repeat (first | (with_reducible first | exact HB.out | apply below_alloc | apply pw_below_drewN | apply below_drew1 | refine below_set ?_ GE183.out | refine below_set ?_ GE202.out) | exact HB.out)⟩⟩
                          · replace c49 := Bool.eq_false_iff.mpr c49
                            subst c49
                            have H1 : (arrearslaw3_InterestAmortizes.j3 kj26 l1 t192 t196 true a0_0 a0_1 a0_2 a0_3 a0_4 a0_5 t198 t199 t200) = some r := by rw [if_neg (show ¬ (false = true) by decide)] at H; exact H
                            clear H
                            have H := H1
                            clear H1
                            have H' := Aside0.mk H
                            clear H
                            go_wp2
                            go_meet
                            case rel => exact ⟨_, (true), (by first | rfl | (simp; done) | (simp [*]; done)), H', ⟨by have := HJ2.out; have := HJ15.out; have := HJ26.out; first | omega | exact Nat.le_refl _⟩, ⟨by (with_reducible repeat (first | apply Kd.R_alloc | apply Kd.R_drewN | apply Kd.R_drew)); exact Kd.R_mono (Kd.R_far (p := ⟨gb202, 2, none⟩) (Kd.R_far (p := ⟨gb202, 1, none⟩) (Kd.R_far (p := ⟨gb202, 0, none⟩) (Kd.R_types HO_5.out BK202.out (by decide)) (fun _ hk => hk.2) (.int .i64 t198)) (fun _ hk => hk.2) (.int .i64 t199)) (fun _ hk => hk.2) (.int .i64 t200)) (fun _ hk => trivial)⟩, ⟨by (with_reducible repeat (first | refine blk_drewN ?_ _ | refine blk_drew ?_ | refine blk_alloc ?_ _)); refine blk_far ?_ NB183_202.out _; (with_reducible repeat (first | refine blk_drewN ?_ _ | refine blk_drew ?_ | refine blk_alloc ?_ _)); refine blk_far ?_ NB183_202.out _; (with_reducible repeat (first | refine blk_drewN ?_ _ | refine blk_drew ?_ | refine blk_alloc ?_ _)); refine blk_far ?_ NB183_202.out _; (with_reducible repeat (first | refine blk_drewN ?_ _ | refine blk_drew ?_ | refine blk_alloc ?_ _)); exact BK183.out⟩, ⟨by (with_reducible repeat (first | refine blk_drewN ?_ _ | refine blk_drew ?_ | refine blk_alloc ?_ _)); refine blk_put (cs := #[.int .i64 t198, .int .i64 t199, .int .i64 0]) ?_ 2 _ rfl; (with_reducible repeat (first | refine blk_drewN ?_ _ | refine blk_drew ?_ | refine blk_alloc ?_ _)); refine blk_put (cs := #[.int .i64 t198, .int .i64 0, .int .i64 0]) ?_ 1 _ rfl; (with_reducible repeat (first | refine blk_drewN ?_ _ | refine blk_drew ?_ | refine blk_alloc ?_ _)); refine blk_put (cs := #[.int .i64 0, .int .i64 0, .int .i64 0]) ?_ 0 _ rfl; (with_reducible repeat (first | refine blk_drewN ?_ _ | refine blk_drew ?_ | refine blk_alloc ?_ _)); exact BK202.out⟩, ⟨by repeat (first | (with_reducible first | exact HB.out | apply below_alloc | apply pw_below_drewN | apply below_drew1 | refine below_set ?_ GE183.out | refine below_set ?_ GE202.out) | exact HB.out)⟩⟩
                        case rest => as_aux_lemma =>
                          clear HC41
                          try clear c1
                          try clear c2
                          try clear p2
                          try clear c3
                          try clear q3
                          try clear c4
                          try clear c6
                          try clear c7
                          try clear c7b0
                          try clear c9
                          try clear c9b0
                          try clear c11
                          try clear c11b0
                          try clear c12
                          try clear c13
                          try clear c15
                          try clear c17
                          try clear c17b0
                          try clear c19
                          try clear c19b0
                          try clear c22
                          try clear c24
                          try clear c24b0
                          try clear c24b1
                          try clear c25
                          try clear c25b0
                          try clear c25b1
                          try clear q30
                          try clear c33
                          try clear c34
                          try clear c34b0
                          try clear c34b1
                          try clear c34b2
                          try clear c38
                          try clear c47
                          try clear c49
                          try clear hcz10_0
                          try clear hcz10_1
                          try clear hcz10_2
                          try clear hcz10_3
                          try clear hcz10_4
                          try clear hcz10_5
                          try clear hcz12_0
                          try clear hcz12_1
                          try clear hcz12_2
                          try clear hcz12_3
                          try clear hcz12_4
                          try clear hcz12_5
                          try clear hcz13_0
                          try clear hcz13_1
                          try clear hcz13_2
                          try clear hcz13_3
                          try clear hcz13_4
                          try clear hcz13_5
                          try clear hcz14_0
                          try clear hcz14_1
                          try clear hcz14_2
                          try clear hcz14_3
                          try clear hcz14_4
                          try clear hcz14_5
                          try clear hcz18_0
                          try clear hcz18_1
                          try clear hcz18_2
                          try clear hcz18_3
                          try clear hcz18_4
                          try clear hcz18_5
                          try clear hcz20_0
                          try clear hcz20_1
                          try clear hcz20_2
                          try clear hcz20_3
                          try clear hcz20_4
                          try clear hcz20_5
                          try clear hcz21_0
                          try clear hcz21_1
                          try clear hcz21_2
                          try clear hcz21_3
                          try clear hcz21_4
                          try clear hcz21_5
                          try clear hcz37_0
                          try clear hcz37_1
                          try clear hcz37_2
                          try clear hcz37_3
                          try clear hcz37_4
                          try clear hcz37_5
                          try clear hcz42_0
                          try clear hcz42_1
                          try clear hcz42_2
                          try clear hcz42_3
                          try clear hcz42_4
                          try clear hcz42_5
                          try clear hcz44_0
                          try clear hcz44_1
                          try clear hcz44_2
                          try clear hcz44_3
                          try clear hcz44_4
                          try clear hcz44_5
                          try clear hcz48_0
                          try clear hcz48_1
                          try clear hcz48_2
                          try clear hcz8_0
                          try clear hcz8_1
                          try clear hcz8_2
                          try clear hcz8_3
                          try clear hcz8_4
                          try clear hcz8_5
                          try clear hfz10_0
                          try clear hfz10_1
                          try clear hfz10_2
                          try clear hfz10_3
                          try clear hfz10_4
                          try clear hfz10_5
                          try clear hfz12_0
                          try clear hfz12_1
                          try clear hfz12_2
                          try clear hfz12_3
                          try clear hfz12_4
                          try clear hfz12_5
                          try clear hfz13_0
                          try clear hfz13_1
                          try clear hfz13_2
                          try clear hfz13_3
                          try clear hfz13_4
                          try clear hfz13_5
                          try clear hfz14_0
                          try clear hfz14_1
                          try clear hfz14_2
                          try clear hfz14_3
                          try clear hfz14_4
                          try clear hfz14_5
                          try clear hfz18_0
                          try clear hfz18_1
                          try clear hfz18_2
                          try clear hfz18_3
                          try clear hfz18_4
                          try clear hfz18_5
                          try clear hfz20_0
                          try clear hfz20_1
                          try clear hfz20_2
                          try clear hfz20_3
                          try clear hfz20_4
                          try clear hfz20_5
                          try clear hfz21_0
                          try clear hfz21_1
                          try clear hfz21_2
                          try clear hfz21_3
                          try clear hfz21_4
                          try clear hfz21_5
                          try clear hfz37_0
                          try clear hfz37_1
                          try clear hfz37_2
                          try clear hfz37_3
                          try clear hfz37_4
                          try clear hfz37_5
                          try clear hfz42_0
                          try clear hfz42_1
                          try clear hfz42_2
                          try clear hfz42_3
                          try clear hfz42_4
                          try clear hfz42_5
                          try clear hfz44_0
                          try clear hfz44_1
                          try clear hfz44_2
                          try clear hfz44_3
                          try clear hfz44_4
                          try clear hfz44_5
                          try clear hfz48_0
                          try clear hfz48_1
                          try clear hfz48_2
                          try clear hfz8_0
                          try clear hfz8_1
                          try clear hfz8_2
                          try clear hfz8_3
                          try clear hfz8_4
                          try clear hfz8_5
                          try clear p2
                          try clear q3
                          try clear q30
                          obtain ⟨kq, x104_40, rfl, HA, HJ40, HO_5, BK183, BK202, HB⟩ := hcut
                          cases kq with
                          | zero => exact absurd HA.out (by simp [arrearslaw3_InterestAmortizes.j3])
                          | succ kj40 =>
                            have H := HA.out
                            clear HA
                            simp only [arrearslaw3_InterestAmortizes.j3] at H
                            by_cases c50 : x104_40 = true
                            · subst c50
                              have H1 : (some false) = some r := by rw [if_pos rfl] at H; exact H
                              clear H
                              have H := H1
                              clear H1
                              obtain rfl := Option.some.inj H
                              go_wp2
                              go_ret
                              exact ⟨by first | rfl | (simp [errW_none, errW_some] <;> rfl) | (simp [*, errW_none, errW_some] <;> rfl), by repeat (first | (with_reducible first | exact HB.out | apply below_alloc | apply pw_below_drewN | apply below_drew1 | refine below_set ?_ GE183.out | refine below_set ?_ GE202.out) | exact HB.out)⟩
                            · replace c50 := Bool.eq_false_iff.mpr c50
                              subst c50
                              have H1 : ((interest_Month.f kj40 a0_1 a0_2).bind fun bt203 => (if bt203.2 = true then (if a0_0 = 2 then (if bt203.1 = 0 then (arrearslaw3_InterestAmortizes.j4 kj40 l1 t192 t196 bt203.1 ((t192.length : Int) != 1) a0_0 a0_1 a0_2 a0_3 a0_4 a0_5 t198 t199 t200) else (arrearslaw3_InterestAmortizes.j4 kj40 l1 t192 t196 bt203.1 false a0_0 a0_1 a0_2 a0_3 a0_4 a0_5 t198 t199 t200)) else (arrearslaw3_InterestAmortizes.j4 kj40 l1 t192 t196 bt203.1 false a0_0 a0_1 a0_2 a0_3 a0_4 a0_5 t198 t199 t200)) else (arrearslaw3_InterestAmortizes.j4 kj40 l1 t192 t196 bt203.1 true a0_0 a0_1 a0_2 a0_3 a0_4 a0_5 t198 t199 t200))) = some r := by rw [if_neg (show ¬ (false = true) by decide)] at H; exact H
                              clear H
                              have H := H1
                              clear H1
                              replace H := Option.bind_eq_some_iff.mp H
                              obtain ⟨⟨t203, t204⟩, A510, H⟩ := H
                              replace H : (if t204 = true then (if a0_0 = 2 then (if t203 = 0 then (arrearslaw3_InterestAmortizes.j4 kj40 l1 t192 t196 t203 ((t192.length : Int) != 1) a0_0 a0_1 a0_2 a0_3 a0_4 a0_5 t198 t199 t200) else (arrearslaw3_InterestAmortizes.j4 kj40 l1 t192 t196 t203 false a0_0 a0_1 a0_2 a0_3 a0_4 a0_5 t198 t199 t200)) else (arrearslaw3_InterestAmortizes.j4 kj40 l1 t192 t196 t203 false a0_0 a0_1 a0_2 a0_3 a0_4 a0_5 t198 t199 t200)) else (arrearslaw3_InterestAmortizes.j4 kj40 l1 t192 t196 t203 true a0_0 a0_1 a0_2 a0_3 a0_4 a0_5 t198 t199 t200)) = some r := H
                              have A51 := Aside0.mk A510
                              clear A510
                              have HC52 := Aside0.mk H
                              clear H
                              have hnb53 := NB183_202.out
                              have hnc53 := NB202_183.out
                              have hcz54_0 : wc.cell? ⟨gb183, 0, none⟩ = some (.int .i64 a0_0) := (blk_cell BK183.out 0).trans rfl
                              have hcz54_1 : wc.cell? ⟨gb183, 1, none⟩ = some (.int .i64 a0_1) := (blk_cell BK183.out 1).trans rfl
                              have hcz54_2 : wc.cell? ⟨gb183, 2, none⟩ = some (.int .i64 a0_2) := (blk_cell BK183.out 2).trans rfl
                              have hcz54_3 : wc.cell? ⟨gb183, 3, none⟩ = some (.int .i64 a0_3) := (blk_cell BK183.out 3).trans rfl
                              have hcz54_4 : wc.cell? ⟨gb183, 4, none⟩ = some (.int .i64 a0_4) := (blk_cell BK183.out 4).trans rfl
                              have hcz54_5 : wc.cell? ⟨gb183, 5, none⟩ = some (.int .i64 a0_5) := (blk_cell BK183.out 5).trans rfl
                              have hfz54_0 := blk_frozen BK183.out 0
                              have hfz54_1 := blk_frozen BK183.out 1
                              have hfz54_2 := blk_frozen BK183.out 2
                              have hfz54_3 := blk_frozen BK183.out 3
                              have hfz54_4 := blk_frozen BK183.out 4
                              have hfz54_5 := blk_frozen BK183.out 5
                              go_upto_region 13 with (first | ((with_reducible refine gate_callee (f := 14) rfl ?_); refine goesL_ (some 110) rfl rfl Tryd.func14 (by kernel_rfl) rfl #[.int .i64 a0_1, .int .i64 a0_2] rfl (by (try simp only [List.map_toArray, List.map_cons, List.map_nil]); first | done | rfl | (simp only [List.length_drop, List.length_take]; rfl)) ?_; (with_reducible refine (interest_Month.calls kj40 a0_1 a0_2 t203 t204 _ A51.out).mono ?_); rintro e w' ⟨rfl, ⟨nd, rfl⟩⟩; refine ⟨_, rfl, ?_⟩))
                              (try simp only [Act.put, List.setIfInBounds_toArray, List.set_cons_zero, List.set_cons_succ])
                              go_cut [128] (fun v128 wc => ∃ (kq : Nat) (x128_51 : Bool), v128 = .bool x128_51 ∧ Aside0 (arrearslaw3_InterestAmortizes.j4 kq l1 t192 t196 t203 x128_51 a0_0 a0_1 a0_2 a0_3 a0_4 a0_5 t198 t199 t200 = some r) ∧ Aside0 (kq ≤ kj40) ∧ Aside0 (Kd.R k41 41 wc w.heap.size (fun _ => True) v193 t192) ∧ Aside0 (wc.heap[gb183]? = some (.cells #[.int .i64 a0_0, .int .i64 a0_1, .int .i64 a0_2, .int .i64 a0_3, .int .i64 a0_4, .int .i64 a0_5] 23 (0, 0))) ∧ Aside0 (wc.heap[gb202]? = some (.cells #[.int .i64 t198, .int .i64 t199, .int .i64 t200] 36 (0, 0))) ∧ Aside0 (Below w.heap.size w wc))
                              case first => as_aux_lemma =>
                                have H := HC52.out
                                clear HC52
                                by_cases c55 : t204 = true
                                · subst c55
                                  have H1 : (if a0_0 = 2 then (if t203 = 0 then (arrearslaw3_InterestAmortizes.j4 kj40 l1 t192 t196 t203 ((t192.length : Int) != 1) a0_0 a0_1 a0_2 a0_3 a0_4 a0_5 t198 t199 t200) else (arrearslaw3_InterestAmortizes.j4 kj40 l1 t192 t196 t203 false a0_0 a0_1 a0_2 a0_3 a0_4 a0_5 t198 t199 t200)) else (arrearslaw3_InterestAmortizes.j4 kj40 l1 t192 t196 t203 false a0_0 a0_1 a0_2 a0_3 a0_4 a0_5 t198 t199 t200)) = some r := by rw [if_pos rfl] at H; exact H
                                  clear H
                                  have H := H1
                                  clear H1
                                  by_cases c56 : a0_0 = 2
                                  · rw [if_pos c56] at H
                                    have c56b0 : (a0_0 == 2) = true := beq_iff_eq.mpr c56
                                    have c56b1 : (a0_0 != 2) = false := bne_eq_false_iff_eq.mpr c56
                                    clear c56
                                    (first | rw [c56b0] | (simp only [i64_w, i32_w]; rw [c56b0]) | skip)
                                    by_cases c57 : t203 = 0
                                    · rw [if_pos c57] at H
                                      have c57b0 : (t203 == 0) = true := beq_iff_eq.mpr c57
                                      have c57b1 : (t203 != 0) = false := bne_eq_false_iff_eq.mpr c57
                                      clear c57
                                      have H' := Aside0.mk H
                                      clear H
                                      have hnb58 := NB183_202.out
                                      have hnc58 := NB202_183.out
                                      have hcz59_0 : wc.cell? ⟨gb183, 0, none⟩ = some (.int .i64 a0_0) := (blk_cell BK183.out 0).trans rfl
                                      have hcz59_1 : wc.cell? ⟨gb183, 1, none⟩ = some (.int .i64 a0_1) := (blk_cell BK183.out 1).trans rfl
                                      have hcz59_2 : wc.cell? ⟨gb183, 2, none⟩ = some (.int .i64 a0_2) := (blk_cell BK183.out 2).trans rfl
                                      have hcz59_3 : wc.cell? ⟨gb183, 3, none⟩ = some (.int .i64 a0_3) := (blk_cell BK183.out 3).trans rfl
                                      have hcz59_4 : wc.cell? ⟨gb183, 4, none⟩ = some (.int .i64 a0_4) := (blk_cell BK183.out 4).trans rfl
                                      have hcz59_5 : wc.cell? ⟨gb183, 5, none⟩ = some (.int .i64 a0_5) := (blk_cell BK183.out 5).trans rfl
                                      have hfz59_0 := blk_frozen BK183.out 0
                                      have hfz59_1 := blk_frozen BK183.out 1
                                      have hfz59_2 := blk_frozen BK183.out 2
                                      have hfz59_3 := blk_frozen BK183.out 3
                                      have hfz59_4 := blk_frozen BK183.out 4
                                      have hfz59_5 := blk_frozen BK183.out 5
                                      obtain ⟨Ao60, co60, eo60⟩ := Kd.R_slice HO_5.out
                                      subst eo60
                                      go_wp2
                                      go_meet
                                      case rel => exact ⟨_, (((t192.length : Int) != 1)), (by first | rfl | (simp; done) | (simp [*]; done)), H', ⟨by have := HJ2.out; have := HJ15.out; have := HJ26.out; have := HJ40.out; first | omega | exact Nat.le_refl _⟩, ⟨by (with_reducible repeat (first | apply Kd.R_alloc | apply Kd.R_drewN | apply Kd.R_drew)); exact HO_5.out⟩, ⟨by (with_reducible repeat (first | refine blk_drewN ?_ _ | refine blk_drew ?_ | refine blk_alloc ?_ _)); exact BK183.out⟩, ⟨by (with_reducible repeat (first | refine blk_drewN ?_ _ | refine blk_drew ?_ | refine blk_alloc ?_ _)); exact BK202.out⟩, ⟨by repeat (first | (with_reducible first | exact HB.out | apply below_alloc | apply pw_below_drewN | apply below_drew1 | refine below_set ?_ GE183.out | refine below_set ?_ GE202.out) | exact HB.out)⟩⟩
                                    · rw [if_neg c57] at H
                                      have c57b0 : (t203 == 0) = false := beq_eq_false_iff_ne.mpr c57
                                      have c57b1 : (t203 != 0) = true := bne_iff_ne.mpr c57
                                      have H' := Aside0.mk H
                                      clear H
                                      have hnb61 := NB183_202.out
                                      have hnc61 := NB202_183.out
                                      have hcz62_0 : wc.cell? ⟨gb183, 0, none⟩ = some (.int .i64 a0_0) := (blk_cell BK183.out 0).trans rfl
                                      have hcz62_1 : wc.cell? ⟨gb183, 1, none⟩ = some (.int .i64 a0_1) := (blk_cell BK183.out 1).trans rfl
                                      have hcz62_2 : wc.cell? ⟨gb183, 2, none⟩ = some (.int .i64 a0_2) := (blk_cell BK183.out 2).trans rfl
                                      have hcz62_3 : wc.cell? ⟨gb183, 3, none⟩ = some (.int .i64 a0_3) := (blk_cell BK183.out 3).trans rfl
                                      have hcz62_4 : wc.cell? ⟨gb183, 4, none⟩ = some (.int .i64 a0_4) := (blk_cell BK183.out 4).trans rfl
                                      have hcz62_5 : wc.cell? ⟨gb183, 5, none⟩ = some (.int .i64 a0_5) := (blk_cell BK183.out 5).trans rfl
                                      have hfz62_0 := blk_frozen BK183.out 0
                                      have hfz62_1 := blk_frozen BK183.out 1
                                      have hfz62_2 := blk_frozen BK183.out 2
                                      have hfz62_3 := blk_frozen BK183.out 3
                                      have hfz62_4 := blk_frozen BK183.out 4
                                      have hfz62_5 := blk_frozen BK183.out 5
                                      go_wp2
                                      go_meet
                                      case rel => exact ⟨_, (false), (by first | rfl | (simp; done) | (simp [*]; done)), H', ⟨by have := HJ2.out; have := HJ15.out; have := HJ26.out; have := HJ40.out; first | omega | exact Nat.le_refl _⟩, ⟨by (with_reducible repeat (first | apply Kd.R_alloc | apply Kd.R_drewN | apply Kd.R_drew)); exact HO_5.out⟩, ⟨by (with_reducible repeat (first | refine blk_drewN ?_ _ | refine blk_drew ?_ | refine blk_alloc ?_ _)); exact BK183.out⟩, ⟨by (with_reducible repeat (first | refine blk_drewN ?_ _ | refine blk_drew ?_ | refine blk_alloc ?_ _)); exact BK202.out⟩, ⟨by repeat (first | (with_reducible first | exact HB.out | apply below_alloc | apply pw_below_drewN | apply below_drew1 | refine below_set ?_ GE183.out | refine below_set ?_ GE202.out) | exact HB.out)⟩⟩
                                  · rw [if_neg c56] at H
                                    have c56b0 : (a0_0 == 2) = false := beq_eq_false_iff_ne.mpr c56
                                    have c56b1 : (a0_0 != 2) = true := bne_iff_ne.mpr c56
                                    (first | rw [c56b0] | (simp only [i64_w, i32_w]; rw [c56b0]) | skip)
                                    have H' := Aside0.mk H
                                    clear H
                                    have hnb63 := NB183_202.out
                                    have hnc63 := NB202_183.out
                                    have hcz64_0 : wc.cell? ⟨gb183, 0, none⟩ = some (.int .i64 a0_0) := (blk_cell BK183.out 0).trans rfl
                                    have hcz64_1 : wc.cell? ⟨gb183, 1, none⟩ = some (.int .i64 a0_1) := (blk_cell BK183.out 1).trans rfl
                                    have hcz64_2 : wc.cell? ⟨gb183, 2, none⟩ = some (.int .i64 a0_2) := (blk_cell BK183.out 2).trans rfl
                                    have hcz64_3 : wc.cell? ⟨gb183, 3, none⟩ = some (.int .i64 a0_3) := (blk_cell BK183.out 3).trans rfl
                                    have hcz64_4 : wc.cell? ⟨gb183, 4, none⟩ = some (.int .i64 a0_4) := (blk_cell BK183.out 4).trans rfl
                                    have hcz64_5 : wc.cell? ⟨gb183, 5, none⟩ = some (.int .i64 a0_5) := (blk_cell BK183.out 5).trans rfl
                                    have hfz64_0 := blk_frozen BK183.out 0
                                    have hfz64_1 := blk_frozen BK183.out 1
                                    have hfz64_2 := blk_frozen BK183.out 2
                                    have hfz64_3 := blk_frozen BK183.out 3
                                    have hfz64_4 := blk_frozen BK183.out 4
                                    have hfz64_5 := blk_frozen BK183.out 5
                                    go_wp2
                                    go_meet
                                    case rel => exact ⟨_, (false), (by first | rfl | (simp; done) | (simp [*]; done)), H', ⟨by have := HJ2.out; have := HJ15.out; have := HJ26.out; have := HJ40.out; first | omega | exact Nat.le_refl _⟩, ⟨by (with_reducible repeat (first | apply Kd.R_alloc | apply Kd.R_drewN | apply Kd.R_drew)); exact HO_5.out⟩, ⟨by (with_reducible repeat (first | refine blk_drewN ?_ _ | refine blk_drew ?_ | refine blk_alloc ?_ _)); exact BK183.out⟩, ⟨by (with_reducible repeat (first | refine blk_drewN ?_ _ | refine blk_drew ?_ | refine blk_alloc ?_ _)); exact BK202.out⟩, ⟨by repeat (first | (with_reducible first | exact HB.out | apply below_alloc | apply pw_below_drewN | apply below_drew1 | refine below_set ?_ GE183.out | refine below_set ?_ GE202.out) | exact HB.out)⟩⟩
                                · replace c55 := Bool.eq_false_iff.mpr c55
                                  subst c55
                                  have H1 : (arrearslaw3_InterestAmortizes.j4 kj40 l1 t192 t196 t203 true a0_0 a0_1 a0_2 a0_3 a0_4 a0_5 t198 t199 t200) = some r := by rw [if_neg (show ¬ (false = true) by decide)] at H; exact H
                                  clear H
                                  have H := H1
                                  clear H1
                                  have H' := Aside0.mk H
                                  clear H
                                  go_wp2
                                  go_meet
                                  case rel => exact ⟨_, (true), (by first | rfl | (simp; done) | (simp [*]; done)), H', ⟨by have := HJ2.out; have := HJ15.out; have := HJ26.out; have := HJ40.out; first | omega | exact Nat.le_refl _⟩, ⟨by (with_reducible repeat (first | apply Kd.R_alloc | apply Kd.R_drewN | apply Kd.R_drew)); exact HO_5.out⟩, ⟨by (with_reducible repeat (first | refine blk_drewN ?_ _ | refine blk_drew ?_ | refine blk_alloc ?_ _)); exact BK183.out⟩, ⟨by (with_reducible repeat (first | refine blk_drewN ?_ _ | refine blk_drew ?_ | refine blk_alloc ?_ _)); exact BK202.out⟩, ⟨by repeat (first | (with_reducible first | exact HB.out | apply below_alloc | apply pw_below_drewN | apply below_drew1 | refine below_set ?_ GE183.out | refine below_set ?_ GE202.out) | exact HB.out)⟩⟩
                              case rest => as_aux_lemma =>
                                clear HC52
                                try clear c1
                                try clear c2
                                try clear p2
                                try clear c3
                                try clear q3
                                try clear c4
                                try clear c5
                                try clear c6
                                try clear c7
                                try clear c7b0
                                try clear c9
                                try clear c9b0
                                try clear c11
                                try clear c11b0
                                try clear c12
                                try clear c13
                                try clear c14
                                try clear c15
                                try clear c17
                                try clear c17b0
                                try clear c19
                                try clear c19b0
                                try clear c22
                                try clear c24
                                try clear c24b0
                                try clear c24b1
                                try clear c25
                                try clear c25b0
                                try clear c25b1
                                try clear q30
                                try clear c33
                                try clear c34
                                try clear c34b0
                                try clear c34b1
                                try clear c34b2
                                try clear c38
                                try clear c47
                                try clear c49
                                try clear c50
                                try clear c53
                                try clear c55
                                try clear c56
                                try clear c56b0
                                try clear c56b1
                                try clear c57
                                try clear c57b0
                                try clear c57b1
                                try clear c58
                                try clear c61
                                try clear c63
                                try clear hcz10_0
                                try clear hcz10_1
                                try clear hcz10_2
                                try clear hcz10_3
                                try clear hcz10_4
                                try clear hcz10_5
                                try clear hcz12_0
                                try clear hcz12_1
                                try clear hcz12_2
                                try clear hcz12_3
                                try clear hcz12_4
                                try clear hcz12_5
                                try clear hcz13_0
                                try clear hcz13_1
                                try clear hcz13_2
                                try clear hcz13_3
                                try clear hcz13_4
                                try clear hcz13_5
                                try clear hcz14_0
                                try clear hcz14_1
                                try clear hcz14_2
                                try clear hcz14_3
                                try clear hcz14_4
                                try clear hcz14_5
                                try clear hcz18_0
                                try clear hcz18_1
                                try clear hcz18_2
                                try clear hcz18_3
                                try clear hcz18_4
                                try clear hcz18_5
                                try clear hcz20_0
                                try clear hcz20_1
                                try clear hcz20_2
                                try clear hcz20_3
                                try clear hcz20_4
                                try clear hcz20_5
                                try clear hcz21_0
                                try clear hcz21_1
                                try clear hcz21_2
                                try clear hcz21_3
                                try clear hcz21_4
                                try clear hcz21_5
                                try clear hcz37_0
                                try clear hcz37_1
                                try clear hcz37_2
                                try clear hcz37_3
                                try clear hcz37_4
                                try clear hcz37_5
                                try clear hcz42_0
                                try clear hcz42_1
                                try clear hcz42_2
                                try clear hcz42_3
                                try clear hcz42_4
                                try clear hcz42_5
                                try clear hcz44_0
                                try clear hcz44_1
                                try clear hcz44_2
                                try clear hcz44_3
                                try clear hcz44_4
                                try clear hcz44_5
                                try clear hcz48_0
                                try clear hcz48_1
                                try clear hcz48_2
                                try clear hcz54_0
                                try clear hcz54_1
                                try clear hcz54_2
                                try clear hcz54_3
                                try clear hcz54_4
                                try clear hcz54_5
                                try clear hcz59_0
                                try clear hcz59_1
                                try clear hcz59_2
                                try clear hcz59_3
                                try clear hcz59_4
                                try clear hcz59_5
                                try clear hcz62_0
                                try clear hcz62_1
                                try clear hcz62_2
                                try clear hcz62_3
                                try clear hcz62_4
                                try clear hcz62_5
                                try clear hcz64_0
                                try clear hcz64_1
                                try clear hcz64_2
                                try clear hcz64_3
                                try clear hcz64_4
                                try clear hcz64_5
                                try clear hcz8_0
                                try clear hcz8_1
                                try clear hcz8_2
                                try clear hcz8_3
                                try clear hcz8_4
                                try clear hcz8_5
                                try clear hfz10_0
                                try clear hfz10_1
                                try clear hfz10_2
                                try clear hfz10_3
                                try clear hfz10_4
                                try clear hfz10_5
                                try clear hfz12_0
                                try clear hfz12_1
                                try clear hfz12_2
                                try clear hfz12_3
                                try clear hfz12_4
                                try clear hfz12_5
                                try clear hfz13_0
                                try clear hfz13_1
                                try clear hfz13_2
                                try clear hfz13_3
                                try clear hfz13_4
                                try clear hfz13_5
                                try clear hfz14_0
                                try clear hfz14_1
                                try clear hfz14_2
                                try clear hfz14_3
                                try clear hfz14_4
                                try clear hfz14_5
                                try clear hfz18_0
                                try clear hfz18_1
                                try clear hfz18_2
                                try clear hfz18_3
                                try clear hfz18_4
                                try clear hfz18_5
                                try clear hfz20_0
                                try clear hfz20_1
                                try clear hfz20_2
                                try clear hfz20_3
                                try clear hfz20_4
                                try clear hfz20_5
                                try clear hfz21_0
                                try clear hfz21_1
                                try clear hfz21_2
                                try clear hfz21_3
                                try clear hfz21_4
                                try clear hfz21_5
                                try clear hfz37_0
                                try clear hfz37_1
                                try clear hfz37_2
                                try clear hfz37_3
                                try clear hfz37_4
                                try clear hfz37_5
                                try clear hfz42_0
                                try clear hfz42_1
                                try clear hfz42_2
                                try clear hfz42_3
                                try clear hfz42_4
                                try clear hfz42_5
                                try clear hfz44_0
                                try clear hfz44_1
                                try clear hfz44_2
                                try clear hfz44_3
                                try clear hfz44_4
                                try clear hfz44_5
                                try clear hfz48_0
                                try clear hfz48_1
                                try clear hfz48_2
                                try clear hfz54_0
                                try clear hfz54_1
                                try clear hfz54_2
                                try clear hfz54_3
                                try clear hfz54_4
                                try clear hfz54_5
                                try clear hfz59_0
                                try clear hfz59_1
                                try clear hfz59_2
                                try clear hfz59_3
                                try clear hfz59_4
                                try clear hfz59_5
                                try clear hfz62_0
                                try clear hfz62_1
                                try clear hfz62_2
                                try clear hfz62_3
                                try clear hfz62_4
                                try clear hfz62_5
                                try clear hfz64_0
                                try clear hfz64_1
                                try clear hfz64_2
                                try clear hfz64_3
                                try clear hfz64_4
                                try clear hfz64_5
                                try clear hfz8_0
                                try clear hfz8_1
                                try clear hfz8_2
                                try clear hfz8_3
                                try clear hfz8_4
                                try clear hfz8_5
                                try clear p2
                                try clear q3
                                try clear q30
                                obtain ⟨kq, x128_51, rfl, HA, HJ51, HO_5, BK183, BK202, HB⟩ := hcut
                                cases kq with
                                | zero => exact absurd HA.out (by simp [arrearslaw3_InterestAmortizes.j4])
                                | succ kj51 =>
                                  have H := HA.out
                                  clear HA
                                  simp only [arrearslaw3_InterestAmortizes.j4] at H
                                  by_cases c65 : x128_51 = true
                                  · subst c65
                                    have H1 : (some false) = some r := by rw [if_pos rfl] at H; exact H
                                    clear H
                                    have H := H1
                                    clear H1
                                    obtain rfl := Option.some.inj H
                                    go_wp2
                                    go_ret
                                    exact ⟨by first | rfl | (simp [errW_none, errW_some] <;> rfl) | (simp [*, errW_none, errW_some] <;> rfl), by repeat (first | (with_reducible first | exact HB.out | apply below_alloc | apply pw_below_drewN | apply below_drew1 | refine below_set ?_ GE183.out | refine below_set ?_ GE202.out) | exact HB.out)⟩
                                  · replace c65 := Bool.eq_false_iff.mpr c65
                                    subst c65
                                    have H1 : (arrearslaw3_InterestAmortizes.l0 kj51 l1 t192 t196 t203 a0_1 a0_4 0 a0_0 a0_1 a0_2 a0_3 a0_4 a0_5 t198 t199 t200) = some r := by rw [if_neg (show ¬ (false = true) by decide)] at H; exact H
                                    clear H
                                    have H := H1
                                    clear H1
                                    have H' := Aside0.mk H
                                    clear H
                                    have hnb66 := NB183_202.out
                                    have hnc66 := NB202_183.out
                                    have hcz67_0 : wc.cell? ⟨gb183, 0, none⟩ = some (.int .i64 a0_0) := (blk_cell BK183.out 0).trans rfl
                                    have hcz67_1 : wc.cell? ⟨gb183, 1, none⟩ = some (.int .i64 a0_1) := (blk_cell BK183.out 1).trans rfl
                                    have hcz67_2 : wc.cell? ⟨gb183, 2, none⟩ = some (.int .i64 a0_2) := (blk_cell BK183.out 2).trans rfl
                                    have hcz67_3 : wc.cell? ⟨gb183, 3, none⟩ = some (.int .i64 a0_3) := (blk_cell BK183.out 3).trans rfl
                                    have hcz67_4 : wc.cell? ⟨gb183, 4, none⟩ = some (.int .i64 a0_4) := (blk_cell BK183.out 4).trans rfl
                                    have hcz67_5 : wc.cell? ⟨gb183, 5, none⟩ = some (.int .i64 a0_5) := (blk_cell BK183.out 5).trans rfl
                                    have hfz67_0 := blk_frozen BK183.out 0
                                    have hfz67_1 := blk_frozen BK183.out 1
                                    have hfz67_2 := blk_frozen BK183.out 2
                                    have hfz67_3 := blk_frozen BK183.out 3
                                    have hfz67_4 := blk_frozen BK183.out 4
                                    have hfz67_5 := blk_frozen BK183.out 5
                                    go_wp2
                                    go_loopg [13, 14, 15] kj51 (fun kq v13 v14 v15 w' => ∃ (x13_6 : Int) (x14_6 : Int) (x15_6 : Int), v13 = .int .i64 x13_6 ∧ v14 = .int .i64 x14_6 ∧ v15 = .int .i64 x15_6 ∧ Aside0 (arrearslaw3_InterestAmortizes.l0 kq l1 t192 t196 t203 x13_6 x14_6 x15_6 a0_0 a0_1 a0_2 a0_3 a0_4 a0_5 t198 t199 t200 = some r) ∧ Aside0 (kq ≤ kj51) ∧ Aside0 (Kd.R k41 41 w' w.heap.size (fun _ => True) v193 t192) ∧ Aside0 (w'.heap[gb183]? = some (.cells #[.int .i64 a0_0, .int .i64 a0_1, .int .i64 a0_2, .int .i64 a0_3, .int .i64 a0_4, .int .i64 a0_5] 23 (0, 0))) ∧ Aside0 (w'.heap[gb202]? = some (.cells #[.int .i64 t198, .int .i64 t199, .int .i64 t200] 36 (0, 0))) ∧ Aside0 (Below w.heap.size w w'))
                                    case atStart => exact ⟨(a0_1), (a0_4), (0), (by first | rfl | (simp; done) | (simp [*]; done)), (by first | rfl | (simp; done) | (simp [*]; done)), (by first | rfl | (simp; done) | (simp [*]; done)), H', ⟨Nat.le_refl _⟩, ⟨by (with_reducible repeat (first | apply Kd.R_alloc | apply Kd.R_drewN | apply Kd.R_drew)); exact HO_5.out⟩, ⟨by (with_reducible repeat (first | refine blk_drewN ?_ _ | refine blk_drew ?_ | refine blk_alloc ?_ _)); exact BK183.out⟩, ⟨by (with_reducible repeat (first | refine blk_drewN ?_ _ | refine blk_drew ?_ | refine blk_alloc ?_ _)); exact BK202.out⟩, ⟨by repeat (first | (with_reducible first | exact HB.out | apply below_alloc | apply pw_below_drewN | apply below_drew1 | refine below_set ?_ GE183.out | refine below_set ?_ GE202.out) | exact HB.out)⟩⟩
                                    case round => as_aux_lemma =>
                                      clear H'
                                      try clear c1
                                      try clear c2
                                      try clear p2
                                      try clear c3
                                      try clear q3
                                      try clear c4
                                      try clear c5
                                      try clear c6
                                      try clear c7
                                      try clear c7b0
                                      try clear c9
                                      try clear c9b0
                                      try clear c11
                                      try clear c11b0
                                      try clear c12
                                      try clear c13
                                      try clear c14
                                      try clear c15
                                      try clear c17
                                      try clear c17b0
                                      try clear c19
                                      try clear c19b0
                                      try clear c22
                                      try clear c24
                                      try clear c24b0
                                      try clear c24b1
                                      try clear c25
                                      try clear c25b0
                                      try clear c25b1
                                      try clear q30
                                      try clear c33
                                      try clear c34
                                      try clear c34b0
                                      try clear c34b1
                                      try clear c34b2
                                      try clear c38
                                      try clear c47
                                      try clear c49
                                      try clear c50
                                      try clear c53
                                      try clear c55
                                      try clear c56
                                      try clear c56b0
                                      try clear c56b1
                                      try clear c57
                                      try clear c57b0
                                      try clear c57b1
                                      try clear c58
                                      try clear c61
                                      try clear c63
                                      try clear c65
                                      try clear c66
                                      try clear hcz10_0
                                      try clear hcz10_1
                                      try clear hcz10_2
                                      try clear hcz10_3
                                      try clear hcz10_4
                                      try clear hcz10_5
                                      try clear hcz12_0
                                      try clear hcz12_1
                                      try clear hcz12_2
                                      try clear hcz12_3
                                      try clear hcz12_4
                                      try clear hcz12_5
                                      try clear hcz13_0
                                      try clear hcz13_1
                                      try clear hcz13_2
                                      try clear hcz13_3
                                      try clear hcz13_4
                                      try clear hcz13_5
                                      try clear hcz14_0
                                      try clear hcz14_1
                                      try clear hcz14_2
                                      try clear hcz14_3
                                      try clear hcz14_4
                                      try clear hcz14_5
                                      try clear hcz18_0
                                      try clear hcz18_1
                                      try clear hcz18_2
                                      try clear hcz18_3
                                      try clear hcz18_4
                                      try clear hcz18_5
                                      try clear hcz20_0
                                      try clear hcz20_1
                                      try clear hcz20_2
                                      try clear hcz20_3
                                      try clear hcz20_4
                                      try clear hcz20_5
                                      try clear hcz21_0
                                      try clear hcz21_1
                                      try clear hcz21_2
                                      try clear hcz21_3
                                      try clear hcz21_4
                                      try clear hcz21_5
                                      try clear hcz37_0
                                      try clear hcz37_1
                                      try clear hcz37_2
                                      try clear hcz37_3
                                      try clear hcz37_4
                                      try clear hcz37_5
                                      try clear hcz42_0
                                      try clear hcz42_1
                                      try clear hcz42_2
                                      try clear hcz42_3
                                      try clear hcz42_4
                                      try clear hcz42_5
                                      try clear hcz44_0
                                      try clear hcz44_1
                                      try clear hcz44_2
                                      try clear hcz44_3
                                      try clear hcz44_4
                                      try clear hcz44_5
                                      try clear hcz48_0
                                      try clear hcz48_1
                                      try clear hcz48_2
                                      try clear hcz54_0
                                      try clear hcz54_1
                                      try clear hcz54_2
                                      try clear hcz54_3
                                      try clear hcz54_4
                                      try clear hcz54_5
                                      try clear hcz59_0
                                      try clear hcz59_1
                                      try clear hcz59_2
                                      try clear hcz59_3
                                      try clear hcz59_4
                                      try clear hcz59_5
                                      try clear hcz62_0
                                      try clear hcz62_1
                                      try clear hcz62_2
                                      try clear hcz62_3
                                      try clear hcz62_4
                                      try clear hcz62_5
                                      try clear hcz64_0
                                      try clear hcz64_1
                                      try clear hcz64_2
                                      try clear hcz64_3
                                      try clear hcz64_4
                                      try clear hcz64_5
                                      try clear hcz67_0
                                      try clear hcz67_1
                                      try clear hcz67_2
                                      try clear hcz67_3
                                      try clear hcz67_4
                                      try clear hcz67_5
                                      try clear hcz8_0
                                      try clear hcz8_1
                                      try clear hcz8_2
                                      try clear hcz8_3
                                      try clear hcz8_4
                                      try clear hcz8_5
                                      try clear hfz10_0
                                      try clear hfz10_1
                                      try clear hfz10_2
                                      try clear hfz10_3
                                      try clear hfz10_4
                                      try clear hfz10_5
                                      try clear hfz12_0
                                      try clear hfz12_1
                                      try clear hfz12_2
                                      try clear hfz12_3
                                      try clear hfz12_4
                                      try clear hfz12_5
                                      try clear hfz13_0
                                      try clear hfz13_1
                                      try clear hfz13_2
                                      try clear hfz13_3
                                      try clear hfz13_4
                                      try clear hfz13_5
                                      try clear hfz14_0
                                      try clear hfz14_1
                                      try clear hfz14_2
                                      try clear hfz14_3
                                      try clear hfz14_4
                                      try clear hfz14_5
                                      try clear hfz18_0
                                      try clear hfz18_1
                                      try clear hfz18_2
                                      try clear hfz18_3
                                      try clear hfz18_4
                                      try clear hfz18_5
                                      try clear hfz20_0
                                      try clear hfz20_1
                                      try clear hfz20_2
                                      try clear hfz20_3
                                      try clear hfz20_4
                                      try clear hfz20_5
                                      try clear hfz21_0
                                      try clear hfz21_1
                                      try clear hfz21_2
                                      try clear hfz21_3
                                      try clear hfz21_4
                                      try clear hfz21_5
                                      try clear hfz37_0
                                      try clear hfz37_1
                                      try clear hfz37_2
                                      try clear hfz37_3
                                      try clear hfz37_4
                                      try clear hfz37_5
                                      try clear hfz42_0
                                      try clear hfz42_1
                                      try clear hfz42_2
                                      try clear hfz42_3
                                      try clear hfz42_4
                                      try clear hfz42_5
                                      try clear hfz44_0
                                      try clear hfz44_1
                                      try clear hfz44_2
                                      try clear hfz44_3
                                      try clear hfz44_4
                                      try clear hfz44_5
                                      try clear hfz48_0
                                      try clear hfz48_1
                                      try clear hfz48_2
                                      try clear hfz54_0
                                      try clear hfz54_1
                                      try clear hfz54_2
                                      try clear hfz54_3
                                      try clear hfz54_4
                                      try clear hfz54_5
                                      try clear hfz59_0
                                      try clear hfz59_1
                                      try clear hfz59_2
                                      try clear hfz59_3
                                      try clear hfz59_4
                                      try clear hfz59_5
                                      try clear hfz62_0
                                      try clear hfz62_1
                                      try clear hfz62_2
                                      try clear hfz62_3
                                      try clear hfz62_4
                                      try clear hfz62_5
                                      try clear hfz64_0
                                      try clear hfz64_1
                                      try clear hfz64_2
                                      try clear hfz64_3
                                      try clear hfz64_4
                                      try clear hfz64_5
                                      try clear hfz67_0
                                      try clear hfz67_1
                                      try clear hfz67_2
                                      try clear hfz67_3
                                      try clear hfz67_4
                                      try clear hfz67_5
                                      try clear hfz8_0
                                      try clear hfz8_1
                                      try clear hfz8_2
                                      try clear hfz8_3
                                      try clear hfz8_4
                                      try clear hfz8_5
                                      try clear p2
                                      try clear q3
                                      try clear q30
                                      obtain ⟨x13_6, x14_6, x15_6, rfl, rfl, rfl, HA, HK6, HO_5, BK183, BK202, HB⟩ := hrel
                                      cases gk with
                                      | zero => exact absurd HA.out (by simp [arrearslaw3_InterestAmortizes.l0])
                                      | succ k6 =>
                                        have H := HA.out
                                        clear HA
                                        simp only [arrearslaw3_InterestAmortizes.l0] at H
                                        by_cases c68 : x15_6 < (t192.length : Int)
                                        · rw [if_pos c68] at H
                                          have c68b0 : decide (x15_6 < (t192.length : Int)) = true := decide_eq_true c68
                                          clear c68
                                          replace H := Option.bind_eq_some_iff.mp H
                                          obtain ⟨⟨t205, t206⟩, A690, H⟩ := H
                                          replace H : (if t206 = true then (if 0 ≤ x15_6 then (if ((rd_T41 t192 x15_6).f1) = t205 then (if (rd_T41 t192 x15_6).f3 = true then (arrearslaw3_InterestAmortizes.j6 k6 l1 t192 t196 t203 x13_6 x15_6 true a0_0 a0_1 a0_2 a0_3 a0_4 a0_5 t198 t199 t200) else (if ((rd_T41 t192 x15_6).f0) ≤ x14_6 then (arrearslaw3_InterestAmortizes.j6 k6 l1 t192 t196 t203 x13_6 x15_6 true a0_0 a0_1 a0_2 a0_3 a0_4 a0_5 t198 t199 t200) else (arrearslaw3_InterestAmortizes.j6 k6 l1 t192 t196 t203 x13_6 x15_6 (decide (x13_6 ≤ 0)) a0_0 a0_1 a0_2 a0_3 a0_4 a0_5 t198 t199 t200))) else (arrearslaw3_InterestAmortizes.j6 k6 l1 t192 t196 t203 x13_6 x15_6 true a0_0 a0_1 a0_2 a0_3 a0_4 a0_5 t198 t199 t200)) else (none)) else (arrearslaw3_InterestAmortizes.j6 k6 l1 t192 t196 t203 x13_6 x15_6 true a0_0 a0_1 a0_2 a0_3 a0_4 a0_5 t198 t199 t200)) = some r := H
                                          have A69 := Aside0.mk A690
                                          clear A690
                                          have HC70 := Aside0.mk H
                                          clear H
                                          obtain ⟨Ao71, co71, eo71⟩ := Kd.R_slice HO_5.out
                                          subst eo71
                                          have hnb72 := NB183_202.out
                                          have hnc72 := NB202_183.out
                                          have hcz73_0 : wr.cell? ⟨gb183, 0, none⟩ = some (.int .i64 a0_0) := (blk_cell BK183.out 0).trans rfl
                                          have hcz73_1 : wr.cell? ⟨gb183, 1, none⟩ = some (.int .i64 a0_1) := (blk_cell BK183.out 1).trans rfl
                                          have hcz73_2 : wr.cell? ⟨gb183, 2, none⟩ = some (.int .i64 a0_2) := (blk_cell BK183.out 2).trans rfl
                                          have hcz73_3 : wr.cell? ⟨gb183, 3, none⟩ = some (.int .i64 a0_3) := (blk_cell BK183.out 3).trans rfl
                                          have hcz73_4 : wr.cell? ⟨gb183, 4, none⟩ = some (.int .i64 a0_4) := (blk_cell BK183.out 4).trans rfl
                                          have hcz73_5 : wr.cell? ⟨gb183, 5, none⟩ = some (.int .i64 a0_5) := (blk_cell BK183.out 5).trans rfl
                                          have hfz73_0 := blk_frozen BK183.out 0
                                          have hfz73_1 := blk_frozen BK183.out 1
                                          have hfz73_2 := blk_frozen BK183.out 2
                                          have hfz73_3 := blk_frozen BK183.out 3
                                          have hfz73_4 := blk_frozen BK183.out 4
                                          have hfz73_5 := blk_frozen BK183.out 5
                                          go_upto_region 21 with (first | ((with_reducible refine gate_callee (f := 14) rfl ?_); refine goesL_ (some 143) rfl rfl Tryd.func14 (by kernel_rfl) rfl #[.int .i64 x13_6, .int .i64 a0_2] rfl (by (try simp only [List.map_toArray, List.map_cons, List.map_nil]); first | done | rfl | (simp only [List.length_drop, List.length_take]; rfl)) ?_; (with_reducible refine (interest_Month.calls k6 x13_6 a0_2 t205 t206 _ A69.out).mono ?_); rintro e w' ⟨rfl, ⟨nd, rfl⟩⟩; refine ⟨_, rfl, ?_⟩))
                                          (try simp only [Act.put, List.setIfInBounds_toArray, List.set_cons_zero, List.set_cons_succ])
                                          go_cut [176] (fun v176 wc => ∃ (kq : Nat) (x176_69 : Bool), v176 = .bool x176_69 ∧ Aside0 (arrearslaw3_InterestAmortizes.j6 kq l1 t192 t196 t203 x13_6 x15_6 x176_69 a0_0 a0_1 a0_2 a0_3 a0_4 a0_5 t198 t199 t200 = some r) ∧ Aside0 (kq ≤ k6) ∧ Aside0 (Kd.R k41 41 wc w.heap.size (fun _ => True) (.slice Ao71 t192.length co71) t192) ∧ Aside0 (wc.heap[gb183]? = some (.cells #[.int .i64 a0_0, .int .i64 a0_1, .int .i64 a0_2, .int .i64 a0_3, .int .i64 a0_4, .int .i64 a0_5] 23 (0, 0))) ∧ Aside0 (wc.heap[gb202]? = some (.cells #[.int .i64 t198, .int .i64 t199, .int .i64 t200] 36 (0, 0))) ∧ Aside0 (Below w.heap.size w wc))
                                          case first => as_aux_lemma =>
                                            have H := HC70.out
                                            clear HC70
                                            by_cases c74 : t206 = true
                                            · subst c74
                                              have H1 : (if 0 ≤ x15_6 then (if ((rd_T41 t192 x15_6).f1) = t205 then (if (rd_T41 t192 x15_6).f3 = true then (arrearslaw3_InterestAmortizes.j6 k6 l1 t192 t196 t203 x13_6 x15_6 true a0_0 a0_1 a0_2 a0_3 a0_4 a0_5 t198 t199 t200) else (if ((rd_T41 t192 x15_6).f0) ≤ x14_6 then (arrearslaw3_InterestAmortizes.j6 k6 l1 t192 t196 t203 x13_6 x15_6 true a0_0 a0_1 a0_2 a0_3 a0_4 a0_5 t198 t199 t200) else (arrearslaw3_InterestAmortizes.j6 k6 l1 t192 t196 t203 x13_6 x15_6 (decide (x13_6 ≤ 0)) a0_0 a0_1 a0_2 a0_3 a0_4 a0_5 t198 t199 t200))) else (arrearslaw3_InterestAmortizes.j6 k6 l1 t192 t196 t203 x13_6 x15_6 true a0_0 a0_1 a0_2 a0_3 a0_4 a0_5 t198 t199 t200)) else (none)) = some r := by rw [if_pos rfl] at H; exact H
                                              clear H
                                              have H := H1
                                              clear H1
                                              by_cases c75 : 0 ≤ x15_6
                                              · rw [if_pos c75] at H
                                                have c75b0 : decide (0 ≤ x15_6) = true := decide_eq_true c75
                                                clear c75
                                                (first | rw [c75b0] | (simp only [i64_w, i32_w]; rw [c75b0]) | skip)
                                                by_cases c76 : ((rd_T41 t192 x15_6).f1) = t205
                                                · rw [if_pos c76] at H
                                                  have c76b0 : (((rd_T41 t192 x15_6).f1) == t205) = true := beq_iff_eq.mpr c76
                                                  have c76b1 : (((rd_T41 t192 x15_6).f1) != t205) = false := bne_eq_false_iff_eq.mpr c76
                                                  clear c76
                                                  obtain ⟨bq77, hbq77⟩ : ∃ b_ : Bool, b_ = ((rd_T41 t192 x15_6).f3) := ⟨_, rfl⟩
                                                  replace H : (if bq77 = true then (arrearslaw3_InterestAmortizes.j6 k6 l1 t192 t196 t203 x13_6 x15_6 true a0_0 a0_1 a0_2 a0_3 a0_4 a0_5 t198 t199 t200) else (if ((rd_T41 t192 x15_6).f0) ≤ x14_6 then (arrearslaw3_InterestAmortizes.j6 k6 l1 t192 t196 t203 x13_6 x15_6 true a0_0 a0_1 a0_2 a0_3 a0_4 a0_5 t198 t199 t200) else (arrearslaw3_InterestAmortizes.j6 k6 l1 t192 t196 t203 x13_6 x15_6 (decide (x13_6 ≤ 0)) a0_0 a0_1 a0_2 a0_3 a0_4 a0_5 t198 t199 t200))) = some r := by rw [← hbq77] at H; exact H
                                                  have Nbq77 := Aside0.mk hbq77
                                                  clear hbq77
                                                  by_cases c78 : bq77 = true
                                                  · subst c78
                                                    have H1 : (arrearslaw3_InterestAmortizes.j6 k6 l1 t192 t196 t203 x13_6 x15_6 true a0_0 a0_1 a0_2 a0_3 a0_4 a0_5 t198 t199 t200) = some r := by rw [if_pos rfl] at H; exact H
                                                    clear H
                                                    have H := H1
                                                    clear H1
                                                    have H' := Aside0.mk H
                                                    clear H
                                                    have p207 : 0 ≤ (x15_6 : Int) := of_decide_eq_true (by first | (with_reducible assumption) | assumption)
                                                    have q207 : x15_6 < (t192.length : Int) := of_decide_eq_true (by first | (with_reducible assumption) | assumption)
                                                    obtain ⟨ad207, e207, hx207_0, hx207_1, hx207_2, hx207_3⟩ := at_T41 (Kd.R_reads' HO_5.out).2.2 x15_6 p207 q207
                                                    (try rw [← Nbq77.out] at hx207_3)
                                                    cases e207
                                                    replace p207 := eq_true p207
                                                    replace q207 := eq_true q207
                                                    have p208 : 0 ≤ (x15_6 : Int) := of_decide_eq_true (by first | (with_reducible assumption) | assumption)
                                                    have q208 : x15_6 < (t192.length : Int) := of_decide_eq_true (by first | (with_reducible assumption) | assumption)
                                                    obtain ⟨ad208, e208, hx208_0, hx208_1, hx208_2, hx208_3⟩ := at_T41 (Kd.R_reads' HO_5.out).2.2 x15_6 p208 q208
                                                    (try rw [← Nbq77.out] at hx208_3)
                                                    obtain rfl : ad207 = ad208 := (by injection e208)
                                                    replace p208 := eq_true p208
                                                    replace q208 := eq_true q208
                                                    go_wp2
                                                    go_meet
                                                    case rel => exact ⟨_, (true), (by first | rfl | (simp; done) | (simp [*]; done)), H', ⟨by have := HJ2.out; have := HJ15.out; have := HJ26.out; have := HJ40.out; have := HJ51.out; have := HK6.out; first | omega | exact Nat.le_refl _⟩, ⟨by (with_reducible repeat (first | apply Kd.R_alloc | apply Kd.R_drewN | apply Kd.R_drew)); exact HO_5.out⟩, ⟨by (with_reducible repeat (first | refine blk_drewN ?_ _ | refine blk_drew ?_ | refine blk_alloc ?_ _)); exact BK183.out⟩, ⟨by (with_reducible repeat (first | refine blk_drewN ?_ _ | refine blk_drew ?_ | refine blk_alloc ?_ _)); exact BK202.out⟩, ⟨by repeat (first | (with_reducible first | exact HB.out | apply below_alloc | apply pw_below_drewN | apply below_drew1 | refine below_set ?_ GE183.out | refine below_set ?_ GE202.out) | exact HB.out)⟩⟩
                                                  · replace c78 := Bool.eq_false_iff.mpr c78
                                                    subst c78
                                                    have H1 : (if ((rd_T41 t192 x15_6).f0) ≤ x14_6 then (arrearslaw3_InterestAmortizes.j6 k6 l1 t192 t196 t203 x13_6 x15_6 true a0_0 a0_1 a0_2 a0_3 a0_4 a0_5 t198 t199 t200) else (arrearslaw3_InterestAmortizes.j6 k6 l1 t192 t196 t203 x13_6 x15_6 (decide (x13_6 ≤ 0)) a0_0 a0_1 a0_2 a0_3 a0_4 a0_5 t198 t199 t200)) = some r := by rw [if_neg (show ¬ (false = true) by decide)] at H; exact H
                                                    clear H
                                                    have H := H1
                                                    clear H1
                                                    by_cases c79 : ((rd_T41 t192 x15_6).f0) ≤ x14_6
                                                    · rw [if_pos c79] at H
                                                      have c79b0 : decide (((rd_T41 t192 x15_6).f0) ≤ x14_6) = true := decide_eq_true c79
                                                      clear c79
                                                      have H' := Aside0.mk H
                                                      clear H
                                                      have p207 : 0 ≤ (x15_6 : Int) := of_decide_eq_true (by first | (with_reducible assumption) | assumption)
                                                      have q207 : x15_6 < (t192.length : Int) := of_decide_eq_true (by first | (with_reducible assumption) | assumption)
                                                      obtain ⟨ad207, e207, hx207_0, hx207_1, hx207_2, hx207_3⟩ := at_T41 (Kd.R_reads' HO_5.out).2.2 x15_6 p207 q207
                                                      (try rw [← Nbq77.out] at hx207_3)
                                                      cases e207
                                                      replace p207 := eq_true p207
                                                      replace q207 := eq_true q207
                                                      have p208 : 0 ≤ (x15_6 : Int) := of_decide_eq_true (by first | (with_reducible assumption) | assumption)
                                                      have q208 : x15_6 < (t192.length : Int) := of_decide_eq_true (by first | (with_reducible assumption) | assumption)
                                                      obtain ⟨ad208, e208, hx208_0, hx208_1, hx208_2, hx208_3⟩ := at_T41 (Kd.R_reads' HO_5.out).2.2 x15_6 p208 q208
                                                      (try rw [← Nbq77.out] at hx208_3)
                                                      obtain rfl : ad207 = ad208 := (by injection e208)
                                                      replace p208 := eq_true p208
                                                      replace q208 := eq_true q208
                                                      have p209 : 0 ≤ (x15_6 : Int) := of_decide_eq_true (by first | (with_reducible assumption) | assumption)
                                                      have q209 : x15_6 < (t192.length : Int) := of_decide_eq_true (by first | (with_reducible assumption) | assumption)
                                                      obtain ⟨ad209, e209, hx209_0, hx209_1, hx209_2, hx209_3⟩ := at_T41 (Kd.R_reads' HO_5.out).2.2 x15_6 p209 q209
                                                      (try rw [← Nbq77.out] at hx209_3)
                                                      obtain rfl : ad207 = ad209 := (by injection e209)
                                                      replace p209 := eq_true p209
                                                      replace q209 := eq_true q209
                                                      go_wp2
                                                      go_meet
                                                      case rel => exact ⟨_, (true), (by first | rfl | (simp; done) | (simp [*]; done)), H', ⟨by have := HJ2.out; have := HJ15.out; have := HJ26.out; have := HJ40.out; have := HJ51.out; have := HK6.out; first | omega | exact Nat.le_refl _⟩, ⟨by (with_reducible repeat (first | apply Kd.R_alloc | apply Kd.R_drewN | apply Kd.R_drew)); exact HO_5.out⟩, ⟨by (with_reducible repeat (first | refine blk_drewN ?_ _ | refine blk_drew ?_ | refine blk_alloc ?_ _)); exact BK183.out⟩, ⟨by (with_reducible repeat (first | refine blk_drewN ?_ _ | refine blk_drew ?_ | refine blk_alloc ?_ _)); exact BK202.out⟩, ⟨by repeat (first | (with_reducible first | exact HB.out | apply below_alloc | apply pw_below_drewN | apply below_drew1 | refine below_set ?_ GE183.out | refine below_set ?_ GE202.out) | exact HB.out)⟩⟩
                                                    · rw [if_neg c79] at H
                                                      have c79b0 : decide (((rd_T41 t192 x15_6).f0) ≤ x14_6) = false := decide_eq_false c79
                                                      clear c79
                                                      have H' := Aside0.mk H
                                                      clear H
                                                      have p207 : 0 ≤ (x15_6 : Int) := of_decide_eq_true (by first | (with_reducible assumption) | assumption)
                                                      have q207 : x15_6 < (t192.length : Int) := of_decide_eq_true (by first | (with_reducible assumption) | assumption)
                                                      obtain ⟨ad207, e207, hx207_0, hx207_1, hx207_2, hx207_3⟩ := at_T41 (Kd.R_reads' HO_5.out).2.2 x15_6 p207 q207
                                                      (try rw [← Nbq77.out] at hx207_3)
                                                      cases e207
                                                      replace p207 := eq_true p207
                                                      replace q207 := eq_true q207
                                                      have p208 : 0 ≤ (x15_6 : Int) := of_decide_eq_true (by first | (with_reducible assumption) | assumption)
                                                      have q208 : x15_6 < (t192.length : Int) := of_decide_eq_true (by first | (with_reducible assumption) | assumption)
                                                      obtain ⟨ad208, e208, hx208_0, hx208_1, hx208_2, hx208_3⟩ := at_T41 (Kd.R_reads' HO_5.out).2.2 x15_6 p208 q208
                                                      (try rw [← Nbq77.out] at hx208_3)
                                                      obtain rfl : ad207 = ad208 := (by injection e208)
                                                      replace p208 := eq_true p208
                                                      replace q208 := eq_true q208
                                                      have p209 : 0 ≤ (x15_6 : Int) := of_decide_eq_true (by first | (with_reducible assumption) | assumption)
                                                      have q209 : x15_6 < (t192.length : Int) := of_decide_eq_true (by first | (with_reducible assumption) | assumption)
                                                      obtain ⟨ad209, e209, hx209_0, hx209_1, hx209_2, hx209_3⟩ := at_T41 (Kd.R_reads' HO_5.out).2.2 x15_6 p209 q209
                                                      (try rw [← Nbq77.out] at hx209_3)
                                                      obtain rfl : ad207 = ad209 := (by injection e209)
                                                      replace p209 := eq_true p209
                                                      replace q209 := eq_true q209
                                                      go_wp2
                                                      go_meet
                                                      case rel => exact ⟨_, (decide (x13_6 ≤ 0)), (by first | rfl | (simp; done) | (simp [*]; done)), H', ⟨by have := HJ2.out; have := HJ15.out; have := HJ26.out; have := HJ40.out; have := HJ51.out; have := HK6.out; first | omega | exact Nat.le_refl _⟩, ⟨by (with_reducible repeat (first | apply Kd.R_alloc | apply Kd.R_drewN | apply Kd.R_drew)); exact HO_5.out⟩, ⟨by (with_reducible repeat (first | refine blk_drewN ?_ _ | refine blk_drew ?_ | refine blk_alloc ?_ _)); exact BK183.out⟩, ⟨by (with_reducible repeat (first | refine blk_drewN ?_ _ | refine blk_drew ?_ | refine blk_alloc ?_ _)); exact BK202.out⟩, ⟨by repeat (first | (with_reducible first | exact HB.out | apply below_alloc | apply pw_below_drewN | apply below_drew1 | refine below_set ?_ GE183.out | refine below_set ?_ GE202.out) | exact HB.out)⟩⟩
                                                · rw [if_neg c76] at H
                                                  have c76b0 : (((rd_T41 t192 x15_6).f1) == t205) = false := beq_eq_false_iff_ne.mpr c76
                                                  have c76b1 : (((rd_T41 t192 x15_6).f1) != t205) = true := bne_iff_ne.mpr c76
                                                  have H' := Aside0.mk H
                                                  clear H
                                                  have p207 : 0 ≤ (x15_6 : Int) := of_decide_eq_true (by first | (with_reducible assumption) | assumption)
                                                  have q207 : x15_6 < (t192.length : Int) := of_decide_eq_true (by first | (with_reducible assumption) | assumption)
                                                  obtain ⟨ad207, e207, hx207_0, hx207_1, hx207_2, hx207_3⟩ := at_T41 (Kd.R_reads' HO_5.out).2.2 x15_6 p207 q207
                                                  cases e207
                                                  replace p207 := eq_true p207
                                                  replace q207 := eq_true q207
                                                  go_wp2
                                                  go_meet
                                                  case rel => exact ⟨_, (true), (by first | rfl | (simp; done) | (simp [*]; done)), H', ⟨by have := HJ2.out; have := HJ15.out; have := HJ26.out; have := HJ40.out; have := HJ51.out; have := HK6.out; first | omega | exact Nat.le_refl _⟩, ⟨by (with_reducible repeat (first | apply Kd.R_alloc | apply Kd.R_drewN | apply Kd.R_drew)); exact HO_5.out⟩, ⟨by (with_reducible repeat (first | refine blk_drewN ?_ _ | refine blk_drew ?_ | refine blk_alloc ?_ _)); exact BK183.out⟩, ⟨by (with_reducible repeat (first | refine blk_drewN ?_ _ | refine blk_drew ?_ | refine blk_alloc ?_ _)); exact BK202.out⟩, ⟨by repeat (first | (with_reducible first | exact HB.out | apply below_alloc | apply pw_below_drewN | apply below_drew1 | refine below_set ?_ GE183.out | refine below_set ?_ GE202.out) | exact HB.out)⟩⟩
                                              · rw [if_neg c75] at H
                                                exact absurd H (by simp)
                                            · replace c74 := Bool.eq_false_iff.mpr c74
                                              subst c74
                                              have H1 : (arrearslaw3_InterestAmortizes.j6 k6 l1 t192 t196 t203 x13_6 x15_6 true a0_0 a0_1 a0_2 a0_3 a0_4 a0_5 t198 t199 t200) = some r := by rw [if_neg (show ¬ (false = true) by decide)] at H; exact H
                                              clear H
                                              have H := H1
                                              clear H1
                                              have H' := Aside0.mk H
                                              clear H
                                              go_wp2
                                              go_meet
                                              case rel => exact ⟨_, (true), (by first | rfl | (simp; done) | (simp [*]; done)), H', ⟨by have := HJ2.out; have := HJ15.out; have := HJ26.out; have := HJ40.out; have := HJ51.out; have := HK6.out; first | omega | exact Nat.le_refl _⟩, ⟨by (with_reducible repeat (first | apply Kd.R_alloc | apply Kd.R_drewN | apply Kd.R_drew)); exact HO_5.out⟩, ⟨by (with_reducible repeat (first | refine blk_drewN ?_ _ | refine blk_drew ?_ | refine blk_alloc ?_ _)); exact BK183.out⟩, ⟨by (with_reducible repeat (first | refine blk_drewN ?_ _ | refine blk_drew ?_ | refine blk_alloc ?_ _)); exact BK202.out⟩, ⟨by repeat (first | (with_reducible first | exact HB.out | apply below_alloc | apply pw_below_drewN | apply below_drew1 | refine below_set ?_ GE183.out | refine below_set ?_ GE202.out) | exact HB.out)⟩⟩
                                          case rest => as_aux_lemma =>
                                            clear HC70
                                            try clear c1
                                            try clear c2
                                            try clear p2
                                            try clear q2
                                            try clear hx2
                                            try clear c3
                                            try clear q3
                                            try clear c4
                                            try clear c5
                                            try clear c6
                                            try clear c7
                                            try clear c7b0
                                            try clear q7
                                            try clear c9
                                            try clear c9b0
                                            try clear c11
                                            try clear c11b0
                                            try clear c12
                                            try clear c13
                                            try clear c14
                                            try clear c15
                                            try clear c17
                                            try clear c17b0
                                            try clear c19
                                            try clear c19b0
                                            try clear p20
                                            try clear q20
                                            try clear hx20
                                            try clear c22
                                            try clear c24
                                            try clear c24b0
                                            try clear c24b1
                                            try clear c25
                                            try clear c25b0
                                            try clear c25b1
                                            try clear q30
                                            try clear c33
                                            try clear c34
                                            try clear c34b0
                                            try clear c34b1
                                            try clear c34b2
                                            try clear c38
                                            try clear c47
                                            try clear c49
                                            try clear c50
                                            try clear c53
                                            try clear c55
                                            try clear c56
                                            try clear c56b0
                                            try clear c56b1
                                            try clear c57
                                            try clear c57b0
                                            try clear c57b1
                                            try clear c58
                                            try clear c61
                                            try clear c63
                                            try clear c65
                                            try clear c66
                                            try clear c68
                                            try clear c68b0
                                            try clear c72
                                            try clear c74
                                            try clear c75
                                            try clear c75b0
                                            try clear c76
                                            try clear c76b0
                                            try clear c76b1
                                            try clear q77
                                            try clear c78
                                            try clear c79
                                            try clear c79b0
                                            try clear hcz10_0
                                            try clear hcz10_1
                                            try clear hcz10_2
                                            try clear hcz10_3
                                            try clear hcz10_4
                                            try clear hcz10_5
                                            try clear hcz12_0
                                            try clear hcz12_1
                                            try clear hcz12_2
                                            try clear hcz12_3
                                            try clear hcz12_4
                                            try clear hcz12_5
                                            try clear hcz13_0
                                            try clear hcz13_1
                                            try clear hcz13_2
                                            try clear hcz13_3
                                            try clear hcz13_4
                                            try clear hcz13_5
                                            try clear hcz14_0
                                            try clear hcz14_1
                                            try clear hcz14_2
                                            try clear hcz14_3
                                            try clear hcz14_4
                                            try clear hcz14_5
                                            try clear hcz18_0
                                            try clear hcz18_1
                                            try clear hcz18_2
                                            try clear hcz18_3
                                            try clear hcz18_4
                                            try clear hcz18_5
                                            try clear hcz20_0
                                            try clear hcz20_1
                                            try clear hcz20_2
                                            try clear hcz20_3
                                            try clear hcz20_4
                                            try clear hcz20_5
                                            try clear hcz21_0
                                            try clear hcz21_1
                                            try clear hcz21_2
                                            try clear hcz21_3
                                            try clear hcz21_4
                                            try clear hcz21_5
                                            try clear hcz37_0
                                            try clear hcz37_1
                                            try clear hcz37_2
                                            try clear hcz37_3
                                            try clear hcz37_4
                                            try clear hcz37_5
                                            try clear hcz42_0
                                            try clear hcz42_1
                                            try clear hcz42_2
                                            try clear hcz42_3
                                            try clear hcz42_4
                                            try clear hcz42_5
                                            try clear hcz44_0
                                            try clear hcz44_1
                                            try clear hcz44_2
                                            try clear hcz44_3
                                            try clear hcz44_4
                                            try clear hcz44_5
                                            try clear hcz48_0
                                            try clear hcz48_1
                                            try clear hcz48_2
                                            try clear hcz54_0
                                            try clear hcz54_1
                                            try clear hcz54_2
                                            try clear hcz54_3
                                            try clear hcz54_4
                                            try clear hcz54_5
                                            try clear hcz59_0
                                            try clear hcz59_1
                                            try clear hcz59_2
                                            try clear hcz59_3
                                            try clear hcz59_4
                                            try clear hcz59_5
                                            try clear hcz62_0
                                            try clear hcz62_1
                                            try clear hcz62_2
                                            try clear hcz62_3
                                            try clear hcz62_4
                                            try clear hcz62_5
                                            try clear hcz64_0
                                            try clear hcz64_1
                                            try clear hcz64_2
                                            try clear hcz64_3
                                            try clear hcz64_4
                                            try clear hcz64_5
                                            try clear hcz67_0
                                            try clear hcz67_1
                                            try clear hcz67_2
                                            try clear hcz67_3
                                            try clear hcz67_4
                                            try clear hcz67_5
                                            try clear hcz73_0
                                            try clear hcz73_1
                                            try clear hcz73_2
                                            try clear hcz73_3
                                            try clear hcz73_4
                                            try clear hcz73_5
                                            try clear hcz8_0
                                            try clear hcz8_1
                                            try clear hcz8_2
                                            try clear hcz8_3
                                            try clear hcz8_4
                                            try clear hcz8_5
                                            try clear hfz10_0
                                            try clear hfz10_1
                                            try clear hfz10_2
                                            try clear hfz10_3
                                            try clear hfz10_4
                                            try clear hfz10_5
                                            try clear hfz12_0
                                            try clear hfz12_1
                                            try clear hfz12_2
                                            try clear hfz12_3
                                            try clear hfz12_4
                                            try clear hfz12_5
                                            try clear hfz13_0
                                            try clear hfz13_1
                                            try clear hfz13_2
                                            try clear hfz13_3
                                            try clear hfz13_4
                                            try clear hfz13_5
                                            try clear hfz14_0
                                            try clear hfz14_1
                                            try clear hfz14_2
                                            try clear hfz14_3
                                            try clear hfz14_4
                                            try clear hfz14_5
                                            try clear hfz18_0
                                            try clear hfz18_1
                                            try clear hfz18_2
                                            try clear hfz18_3
                                            try clear hfz18_4
                                            try clear hfz18_5
                                            try clear hfz20_0
                                            try clear hfz20_1
                                            try clear hfz20_2
                                            try clear hfz20_3
                                            try clear hfz20_4
                                            try clear hfz20_5
                                            try clear hfz21_0
                                            try clear hfz21_1
                                            try clear hfz21_2
                                            try clear hfz21_3
                                            try clear hfz21_4
                                            try clear hfz21_5
                                            try clear hfz37_0
                                            try clear hfz37_1
                                            try clear hfz37_2
                                            try clear hfz37_3
                                            try clear hfz37_4
                                            try clear hfz37_5
                                            try clear hfz42_0
                                            try clear hfz42_1
                                            try clear hfz42_2
                                            try clear hfz42_3
                                            try clear hfz42_4
                                            try clear hfz42_5
                                            try clear hfz44_0
                                            try clear hfz44_1
                                            try clear hfz44_2
                                            try clear hfz44_3
                                            try clear hfz44_4
                                            try clear hfz44_5
                                            try clear hfz48_0
                                            try clear hfz48_1
                                            try clear hfz48_2
                                            try clear hfz54_0
                                            try clear hfz54_1
                                            try clear hfz54_2
                                            try clear hfz54_3
                                            try clear hfz54_4
                                            try clear hfz54_5
                                            try clear hfz59_0
                                            try clear hfz59_1
                                            try clear hfz59_2
                                            try clear hfz59_3
                                            try clear hfz59_4
                                            try clear hfz59_5
                                            try clear hfz62_0
                                            try clear hfz62_1
                                            try clear hfz62_2
                                            try clear hfz62_3
                                            try clear hfz62_4
                                            try clear hfz62_5
                                            try clear hfz64_0
                                            try clear hfz64_1
                                            try clear hfz64_2
                                            try clear hfz64_3
                                            try clear hfz64_4
                                            try clear hfz64_5
                                            try clear hfz67_0
                                            try clear hfz67_1
                                            try clear hfz67_2
                                            try clear hfz67_3
                                            try clear hfz67_4
                                            try clear hfz67_5
                                            try clear hfz73_0
                                            try clear hfz73_1
                                            try clear hfz73_2
                                            try clear hfz73_3
                                            try clear hfz73_4
                                            try clear hfz73_5
                                            try clear hfz8_0
                                            try clear hfz8_1
                                            try clear hfz8_2
                                            try clear hfz8_3
                                            try clear hfz8_4
                                            try clear hfz8_5
                                            try clear hx207_0
                                            try clear hx207_1
                                            try clear hx207_2
                                            try clear hx207_3
                                            try clear hx208_0
                                            try clear hx208_1
                                            try clear hx208_2
                                            try clear hx208_3
                                            try clear hx209_0
                                            try clear hx209_1
                                            try clear hx209_2
                                            try clear hx209_3
                                            try clear p2
                                            try clear p207
                                            try clear p208
                                            try clear p209
                                            try clear q207
                                            try clear q208
                                            try clear q209
                                            try clear q3
                                            try clear q30
                                            obtain ⟨kq, x176_69, rfl, HA, HJ69, HO_5, BK183, BK202, HB⟩ := hcut
                                            cases kq with
                                            | zero => exact absurd HA.out (by simp [arrearslaw3_InterestAmortizes.j6])
                                            | succ kj69 =>
                                              have H := HA.out
                                              clear HA
                                              simp only [arrearslaw3_InterestAmortizes.j6] at H
                                              by_cases c80 : x176_69 = true
                                              · subst c80
                                                have H1 : (some false) = some r := by rw [if_pos rfl] at H; exact H
                                                clear H
                                                have H := H1
                                                clear H1
                                                obtain rfl := Option.some.inj H
                                                go_wp2
                                                go_ret
                                                exact ⟨by first | rfl | (simp [errW_none, errW_some] <;> rfl) | (simp [*, errW_none, errW_some] <;> rfl), by repeat (first | (with_reducible first | exact HB.out | apply below_alloc | apply pw_below_drewN | apply below_drew1 | refine below_set ?_ GE183.out | refine below_set ?_ GE202.out) | exact HB.out)⟩
                                              · replace c80 := Bool.eq_false_iff.mpr c80
                                                subst c80
                                                have H1 : ((arrearslaw3_share.f a0_0 a0_1 a0_2 a0_3 a0_4 a0_5 t192 x15_6 t196).bind fun t210 => (if t210 = true then (if 0 ≤ x15_6 then (if x15_6 < (t192.length : Int) then ((arrearslaw3_turn.f a0_0 a0_1 a0_2 a0_3 a0_4 a0_5 t203 x15_6).bind fun t212 => ((arrearslaw3_timely.f kj69 a0_0 a0_1 a0_2 a0_3 a0_4 a0_5 l1 t200 ((rd_T41 t192 x15_6).f0) t212).bind fun t213 => (arrearslaw3_InterestAmortizes.j7 kj69 l1 t192 t196 t203 x13_6 x15_6 (!t213) a0_0 a0_1 a0_2 a0_3 a0_4 a0_5 t198 t199 t200))) else (none)) else (none)) else (arrearslaw3_InterestAmortizes.j7 kj69 l1 t192 t196 t203 x13_6 x15_6 true a0_0 a0_1 a0_2 a0_3 a0_4 a0_5 t198 t199 t200))) = some r := by rw [if_neg (show ¬ (false = true) by decide)] at H; exact H
                                                clear H
                                                have H := H1
                                                clear H1
                                                have HC81 := Aside0.mk H
                                                clear H
                                                go_upto_region 23 with (fail)
                                                go_cut [199] (fun v199 wc => ∃ (kq : Nat) (x199_80 : Bool), v199 = .bool x199_80 ∧ Aside0 (arrearslaw3_InterestAmortizes.j7 kq l1 t192 t196 t203 x13_6 x15_6 x199_80 a0_0 a0_1 a0_2 a0_3 a0_4 a0_5 t198 t199 t200 = some r) ∧ Aside0 (kq ≤ kj69) ∧ Aside0 (Kd.R k41 41 wc w.heap.size (fun _ => True) (.slice Ao71 t192.length co71) t192) ∧ Aside0 (wc.heap[gb183]? = some (.cells #[.int .i64 a0_0, .int .i64 a0_1, .int .i64 a0_2, .int .i64 a0_3, .int .i64 a0_4, .int .i64 a0_5] 23 (0, 0))) ∧ Aside0 (wc.heap[gb202]? = some (.cells #[.int .i64 t198, .int .i64 t199, .int .i64 t200] 36 (0, 0))) ∧ Aside0 (Below w.heap.size w wc))
                                                case first => as_aux_lemma =>
                                                  have H := HC81.out
                                                  clear HC81
                                                  replace H := Option.bind_eq_some_iff.mp H
                                                  obtain ⟨t210, A820, H⟩ := H
                                                  replace H : (if t210 = true then (if 0 ≤ x15_6 then (if x15_6 < (t192.length : Int) then ((arrearslaw3_turn.f a0_0 a0_1 a0_2 a0_3 a0_4 a0_5 t203 x15_6).bind fun t212 => ((arrearslaw3_timely.f kj69 a0_0 a0_1 a0_2 a0_3 a0_4 a0_5 l1 t200 ((rd_T41 t192 x15_6).f0) t212).bind fun t213 => (arrearslaw3_InterestAmortizes.j7 kj69 l1 t192 t196 t203 x13_6 x15_6 (!t213) a0_0 a0_1 a0_2 a0_3 a0_4 a0_5 t198 t199 t200))) else (none)) else (none)) else (arrearslaw3_InterestAmortizes.j7 kj69 l1 t192 t196 t203 x13_6 x15_6 true a0_0 a0_1 a0_2 a0_3 a0_4 a0_5 t198 t199 t200)) = some r := H
                                                  have A82 := Aside0.mk A820
                                                  clear A820
                                                  by_cases c83 : t210 = true
                                                  · subst c83
                                                    have H1 : (if 0 ≤ x15_6 then (if x15_6 < (t192.length : Int) then ((arrearslaw3_turn.f a0_0 a0_1 a0_2 a0_3 a0_4 a0_5 t203 x15_6).bind fun t212 => ((arrearslaw3_timely.f kj69 a0_0 a0_1 a0_2 a0_3 a0_4 a0_5 l1 t200 ((rd_T41 t192 x15_6).f0) t212).bind fun t213 => (arrearslaw3_InterestAmortizes.j7 kj69 l1 t192 t196 t203 x13_6 x15_6 (!t213) a0_0 a0_1 a0_2 a0_3 a0_4 a0_5 t198 t199 t200))) else (none)) else (none)) = some r := by rw [if_pos rfl] at H; exact H
                                                    clear H
                                                    have H := H1
                                                    clear H1
                                                    by_cases c84 : 0 ≤ x15_6
                                                    · rw [if_pos c84] at H
                                                      have c84b0 : decide (0 ≤ x15_6) = true := decide_eq_true c84
                                                      clear c84
                                                      (first | rw [c84b0] | (simp only [i64_w, i32_w]; rw [c84b0]) | skip)
                                                      by_cases c85 : x15_6 < (t192.length : Int)
                                                      · rw [if_pos c85] at H
                                                        have c85b0 : decide (x15_6 < (t192.length : Int)) = true := decide_eq_true c85
                                                        clear c85
                                                        replace H := Option.bind_eq_some_iff.mp H
                                                        obtain ⟨t212, A860, H⟩ := H
                                                        replace H : ((arrearslaw3_timely.f kj69 a0_0 a0_1 a0_2 a0_3 a0_4 a0_5 l1 t200 ((rd_T41 t192 x15_6).f0) t212).bind fun t213 => (arrearslaw3_InterestAmortizes.j7 kj69 l1 t192 t196 t203 x13_6 x15_6 (!t213) a0_0 a0_1 a0_2 a0_3 a0_4 a0_5 t198 t199 t200)) = some r := H
                                                        have A86 := Aside0.mk A860
                                                        clear A860
                                                        replace H := Option.bind_eq_some_iff.mp H
                                                        obtain ⟨t213, A870, H⟩ := H
                                                        replace H : (arrearslaw3_InterestAmortizes.j7 kj69 l1 t192 t196 t203 x13_6 x15_6 (!t213) a0_0 a0_1 a0_2 a0_3 a0_4 a0_5 t198 t199 t200) = some r := H
                                                        have A87 := Aside0.mk A870
                                                        clear A870
                                                        have H' := Aside0.mk H
                                                        clear H
                                                        try go_wp2
                                                        have n0_ := Aside0.mk (Kd.R_drew HO_5.out)
                                                        have n1_ := Aside0.mk (blk_drew BK183.out)
                                                        have n2_ := Aside0.mk (blk_drew BK202.out)
                                                        have n3_ := Aside0.mk (below_drew1 HB.out)
                                                        clear HO_5
                                                        clear BK183
                                                        clear BK202
                                                        clear HB
                                                        have HO_5 := n0_
                                                        have BK183 := n1_
                                                        have BK202 := n2_
                                                        have HB := n3_
                                                        clear n0_ n1_ n2_ n3_
                                                        have p211 : 0 ≤ (x15_6 : Int) := of_decide_eq_true (by first | (with_reducible assumption) | assumption)
                                                        have q211 : x15_6 < (t192.length : Int) := of_decide_eq_true (by first | (with_reducible assumption) | assumption)
                                                        obtain ⟨ad211, e211, hx211_0, hx211_1, hx211_2, hx211_3⟩ := at_T41 (Kd.R_reads' HO_5.out).2.2 x15_6 p211 q211
                                                        cases e211
                                                        replace p211 := eq_true p211
                                                        replace q211 := eq_true q211
                                                        refine start_ (n := 23) (S := fun w' => w'.cell? ⟨gb183, 0, none⟩ = some (.int .i64 a0_0) ∧ w'.cell? ⟨gb183, 1, none⟩ = some (.int .i64 a0_1) ∧ w'.cell? ⟨gb183, 2, none⟩ = some (.int .i64 a0_2) ∧ w'.cell? ⟨gb183, 3, none⟩ = some (.int .i64 a0_3) ∧ w'.cell? ⟨gb183, 4, none⟩ = some (.int .i64 a0_4) ∧ w'.cell? ⟨gb183, 5, none⟩ = some (.int .i64 a0_5) ∧ w'.cell? ⟨gb202, 0, none⟩ = some (.int .i64 t198) ∧ w'.cell? ⟨gb202, 1, none⟩ = some (.int .i64 t199) ∧ w'.cell? ⟨gb202, 2, none⟩ = some (.int .i64 t200) ∧ w'.cell? (ad211.add ((x15_6).toNat * 4)) = some (.int .i64 ((rd_T41 t192 x15_6).f0)) ∧ w'.cell? ⟨(ad211.add ((x15_6).toNat * 4)).block, (ad211.add ((x15_6).toNat * 4)).off + 1, none⟩ = some (.int .i64 ((rd_T41 t192 x15_6).f1)) ∧ w'.cell? ⟨(ad211.add ((x15_6).toNat * 4)).block, (ad211.add ((x15_6).toNat * 4)).off + 2, none⟩ = some (.int .i64 ((rd_T41 t192 x15_6).f2)) ∧ w'.cell? ⟨(ad211.add ((x15_6).toNat * 4)).block, (ad211.add ((x15_6).toNat * 4)).off + 3, none⟩ = some (.bool ((rd_T41 t192 x15_6).f3))) (ds := []) #[false, false, false, false, false, false, false, false, false, false, false, false, false, false, false, false, false, false, false, false, false, false, false] (by kernel_rfl) rfl rfl ⟨(blk_cell BK183.out 0).trans rfl, (blk_cell BK183.out 1).trans rfl, (blk_cell BK183.out 2).trans rfl, (blk_cell BK183.out 3).trans rfl, (blk_cell BK183.out 4).trans rfl, (blk_cell BK183.out 5).trans rfl, (blk_cell BK202.out 0).trans rfl, (blk_cell BK202.out 1).trans rfl, (blk_cell BK202.out 2).trans rfl, hx211_0, hx211_1, hx211_2, hx211_3⟩ (fun hHeld => ?_); refine with_tabW arrearslaw3_InterestAmortizes.tab23 arrearslaw3_InterestAmortizes.bits23 (fun HT_ HW_ => ?_)
                                                        generalize wc.drew = w88 at HO_5 BK183 BK202 HB hx211_0 hx211_1 hx211_2 hx211_3 hHeld ⊢
                                                        refine pure_ (i := 1) (N := some 178) (v := ?_) (a' := ?_) #[false, true, false, false, false, false, false, false, false, false, false, false, false, false, false, false, false, false, false, false, false, false, false] rfl rfl (any_of HT_.out (by kernel_rfl)) (fun _ _ _ h => h) (Or.inl ⟨by rfl, ?_⟩) ?_ ?_
                                                        rotate_left
                                                        · intro w'
                                                          go_simp
                                                          with_reducible rfl
                                                        rotate_left
                                                        · simp only [Act.put, List.setIfInBounds_toArray, List.set_cons_zero, List.set_cons_succ, i64_w, i32_w]
                                                          rfl
                                                        refine pure_ (i := 2) (N := some 179) (v := ?_) (a' := ?_) #[false, true, true, false, false, false, false, false, false, false, false, false, false, false, false, false, false, false, false, false, false, false, false] rfl rfl (any_of HT_.out (by kernel_rfl)) (fun _ _ _ h => h) (Or.inl ⟨by rfl, ?_⟩) ?_ ?_
                                                        rotate_left
                                                        · intro w'
                                                          go_simp
                                                          with_reducible rfl
                                                        rotate_left
                                                        · simp only [Act.put, List.setIfInBounds_toArray, List.set_cons_zero, List.set_cons_succ, i64_w, i32_w]
                                                          rfl
                                                        refine pure_ (i := 3) (N := some 180) (v := ?_) (a' := ?_) #[false, true, true, true, false, false, false, false, false, false, false, false, false, false, false, false, false, false, false, false, false, false, false] rfl rfl (any_of HT_.out (by kernel_rfl)) (fun _ _ _ h => h) (Or.inl ⟨by rfl, ?_⟩) ?_ ?_
                                                        rotate_left
                                                        · intro w'
                                                          go_simp
                                                          with_reducible rfl
                                                        rotate_left
                                                        · simp only [Act.put, List.setIfInBounds_toArray, List.set_cons_zero, List.set_cons_succ, i64_w, i32_w]
                                                          rfl
                                                        refine take_ (i := 0) (N := some 177) (v := ?_) (a' := ?_) #[true, true, true, true, false, false, false, false, false, false, false, false, false, false, false, false, false, false, false, false, false, false, false] rfl rfl (take_ofW HT_.out HW_.out (by kernel_rfl)) (fun _ _ _ h => h) (Or.inl ⟨by rfl, ?_⟩) hHeld ?_ ?_
                                                        rotate_left
                                                        · rintro w' ⟨s0, s1, s2, s3, s4, s5, s6, s7, s8, s9, s10, s11, s12⟩
                                                          go_simp
                                                          with_reducible rfl
                                                        rotate_left
                                                        · simp only [Act.put, List.setIfInBounds_toArray, List.set_cons_zero, List.set_cons_succ, i64_w, i32_w]
                                                          rfl
                                                        refine one_ (i := 4) (N := some 181) #[true, true, true, true, true, false, false, false, false, false, false, false, false, false, false, false, false, false, false, false, false, false, false] rfl rfl (one_of HT_.out (by kernel_rfl)) (by decide) (fun K hK => ?_)
                                                        refine goes_ Tryd.func15 (by kernel_rfl) rfl #[.agg #[.int .i64 a0_0, .int .i64 a0_1, .int .i64 a0_2, .int .i64 a0_3, .int .i64 a0_4, .int .i64 a0_5], .slice (some ad211) t192.length co71, .int .i64 x15_6, .int .i64 t196] (by rfl) rfl rfl (by (try simp only [List.map_toArray, List.map_cons, List.map_nil]); first | done | rfl | (simp only [List.length_drop, List.length_take]; rfl)) ?_
                                                        with_reducible refine (arrearslaw3_share.calls a0_0 a0_1 a0_2 a0_3 a0_4 a0_5 _ _ t192 x15_6 t196 true _ ?side1 ?side2 A82.out).mono ?_
                                                        (case side1 => repeat (first | exact (Kd.R_reads' HO_5.out).2.2 | (with_reducible refine Kd.C_alloc ?_ _) | (with_reducible refine Kd.C_drewN ?_ _) | (with_reducible refine Kd.C_drew ?_)))
                                                        (case side2 => exact (Kd.R_reads' HO_5.out).2.1)
                                                        rintro e w89 ⟨rfl, hb⟩
                                                        have HS9_ := (hb.cell (World.block_lt_of_cell? _ _ (hHeld.2.2.2.2.2.2.2.2.2.1))).trans (hHeld.2.2.2.2.2.2.2.2.2.1)
                                                        have HS10_ := (hb.cell (World.block_lt_of_cell? _ _ (hHeld.2.2.2.2.2.2.2.2.2.2.1))).trans (hHeld.2.2.2.2.2.2.2.2.2.2.1)
                                                        have HS11_ := (hb.cell (World.block_lt_of_cell? _ _ (hHeld.2.2.2.2.2.2.2.2.2.2.2.1))).trans (hHeld.2.2.2.2.2.2.2.2.2.2.2.1)
                                                        have HS12_ := (hb.cell (World.block_lt_of_cell? _ _ (hHeld.2.2.2.2.2.2.2.2.2.2.2.2))).trans (hHeld.2.2.2.2.2.2.2.2.2.2.2.2)
                                                        refine ⟨_, rfl, ?_⟩
                                                        have n0_ := Aside0.mk (Kd.R_below (by (with_reducible repeat (first | apply Kd.R_alloc | apply Kd.R_drewN | apply Kd.R_drew)); exact HO_5.out) hb)
                                                        have n1_ := Aside0.mk (blk_below (g := gb183) (o := .cells #[.int .i64 a0_0, .int .i64 a0_1, .int .i64 a0_2, .int .i64 a0_3, .int .i64 a0_4, .int .i64 a0_5] 23 (0, 0)) (by (with_reducible repeat (first | refine blk_drewN ?_ _ | refine blk_drew ?_ | refine blk_alloc ?_ _)); exact BK183.out) hb)
                                                        have n2_ := Aside0.mk (blk_below (g := gb202) (o := .cells #[.int .i64 t198, .int .i64 t199, .int .i64 t200] 36 (0, 0)) (by (with_reducible repeat (first | refine blk_drewN ?_ _ | refine blk_drew ?_ | refine blk_alloc ?_ _)); exact BK202.out) hb)
                                                        have n3_ := Aside0.mk (below_step (by repeat (first | (with_reducible first | exact HB.out | apply below_alloc | apply pw_below_drewN | apply below_drew1 | refine below_set ?_ GE183.out | refine below_set ?_ GE202.out) | exact HB.out)) hb)
                                                        clear HO_5
                                                        clear BK183
                                                        clear BK202
                                                        clear HB
                                                        have HO_5 := n0_
                                                        have BK183 := n1_
                                                        have BK202 := n2_
                                                        have HB := n3_
                                                        clear n0_ n1_ n2_ n3_
                                                        (try clear hb)
                                                        (try clear hb2)
                                                        (try clear hk)
                                                        (try clear hi)
                                                        refine hK.out _ _ ⟨(blk_cell BK183.out 0).trans rfl, (blk_cell BK183.out 1).trans rfl, (blk_cell BK183.out 2).trans rfl, (blk_cell BK183.out 3).trans rfl, (blk_cell BK183.out 4).trans rfl, (blk_cell BK183.out 5).trans rfl, (blk_cell BK202.out 0).trans rfl, (blk_cell BK202.out 1).trans rfl, (blk_cell BK202.out 2).trans rfl, HS9_, HS10_, HS11_, HS12_⟩ (fun hHeld => ?_)
                                                        clear hK K
                                                        refine norm_ (a' := ?_) ?_ ?_
                                                        rotate_left
                                                        · show Act.put _ (some 181) _ = _
                                                          simp only [Act.put, List.setIfInBounds_toArray, List.set_cons_zero, List.set_cons_succ, i64_w, i32_w]
                                                          rfl
                                                        refine pure_ (i := 5) (N := some 182) (v := ?_) (a' := ?_) #[true, true, true, true, true, true, false, false, false, false, false, false, false, false, false, false, false, false, false, false, false, false, false] rfl rfl (any_of HT_.out (by kernel_rfl)) (fun _ _ _ h => h) (Or.inl ⟨by rfl, ?_⟩) ?_ ?_
                                                        rotate_left
                                                        · intro w'
                                                          go_simp
                                                          with_reducible rfl
                                                        rotate_left
                                                        · simp only [Act.put, List.setIfInBounds_toArray, List.set_cons_zero, List.set_cons_succ, i64_w, i32_w]
                                                          rfl
                                                        refine pure_ (i := 6) (N := some 183) (v := ?_) (a' := ?_) #[true, true, true, true, true, true, true, false, false, false, false, false, false, false, false, false, false, false, false, false, false, false, false] rfl rfl (any_of HT_.out (by kernel_rfl)) (fun _ _ _ h => h) (Or.inl ⟨by rfl, ?_⟩) ?_ ?_
                                                        rotate_left
                                                        · intro w'
                                                          go_simp
                                                          with_reducible rfl
                                                        rotate_left
                                                        · simp only [Act.put, List.setIfInBounds_toArray, List.set_cons_zero, List.set_cons_succ, i64_w, i32_w]
                                                          rfl
                                                        refine pure_ (i := 8) (N := some 185) (v := ?_) (a' := ?_) #[true, true, true, true, true, true, true, false, true, false, false, false, false, false, false, false, false, false, false, false, false, false, false] rfl rfl (any_of HT_.out (by kernel_rfl)) (fun _ _ _ h => h) (Or.inl ⟨by rfl, ?_⟩) ?_ ?_
                                                        rotate_left
                                                        · intro w'
                                                          go_simp
                                                          with_reducible rfl
                                                        rotate_left
                                                        · simp only [Act.put, List.setIfInBounds_toArray, List.set_cons_zero, List.set_cons_succ, i64_w, i32_w]
                                                          rfl
                                                        refine pure_ (i := 9) (N := some 186) (v := ?_) (a' := ?_) #[true, true, true, true, true, true, true, false, true, true, false, false, false, false, false, false, false, false, false, false, false, false, false] rfl rfl (any_of HT_.out (by kernel_rfl)) (fun _ _ _ h => h) (Or.inl ⟨by rfl, ?_⟩) ?_ ?_
                                                        rotate_left
                                                        · intro w'
                                                          go_simp
                                                          with_reducible rfl
                                                        rotate_left
                                                        · simp only [Act.put, List.setIfInBounds_toArray, List.set_cons_zero, List.set_cons_succ, i64_w, i32_w]
                                                          rfl
                                                        refine pure_ (i := 11) (N := some 188) (v := ?_) (a' := ?_) #[true, true, true, true, true, true, true, false, true, true, false, true, false, false, false, false, false, false, false, false, false, false, false] rfl rfl (any_of HT_.out (by kernel_rfl)) (fun _ _ _ h => h) (Or.inl ⟨by rfl, ?_⟩) ?_ ?_
                                                        rotate_left
                                                        · intro w'
                                                          go_simp
                                                          with_reducible rfl
                                                        rotate_left
                                                        · simp only [Act.put, List.setIfInBounds_toArray, List.set_cons_zero, List.set_cons_succ, i64_w, i32_w]
                                                          rfl
                                                        refine pure_ (i := 12) (N := some 189) (v := ?_) (a' := ?_) #[true, true, true, true, true, true, true, false, true, true, false, true, true, false, false, false, false, false, false, false, false, false, false] rfl rfl (any_of HT_.out (by kernel_rfl)) (fun _ _ _ h => h) (Or.inl ⟨by rfl, ?_⟩) ?_ ?_
                                                        rotate_left
                                                        · intro w'
                                                          go_simp
                                                          with_reducible rfl
                                                        rotate_left
                                                        · simp only [Act.put, List.setIfInBounds_toArray, List.set_cons_zero, List.set_cons_succ, i64_w, i32_w]
                                                          rfl
                                                        refine pure_ (i := 13) (N := some 190) (v := ?_) (a' := ?_) #[true, true, true, true, true, true, true, false, true, true, false, true, true, true, false, false, false, false, false, false, false, false, false] rfl rfl (any_of HT_.out (by kernel_rfl)) (fun _ _ _ h => h) (Or.inl ⟨by rfl, ?_⟩) ?_ ?_
                                                        rotate_left
                                                        · intro w'
                                                          go_simp
                                                          with_reducible rfl
                                                        rotate_left
                                                        · simp only [Act.put, List.setIfInBounds_toArray, List.set_cons_zero, List.set_cons_succ, i64_w, i32_w]
                                                          rfl
                                                        refine pure_ (i := 14) (N := some 191) (v := ?_) (a' := ?_) #[true, true, true, true, true, true, true, false, true, true, false, true, true, true, true, false, false, false, false, false, false, false, false] rfl rfl (any_of HT_.out (by kernel_rfl)) (fun _ _ _ h => h) (Or.inl ⟨by rfl, ?_⟩) ?_ ?_
                                                        rotate_left
                                                        · intro w'
                                                          go_simp
                                                          with_reducible rfl
                                                        rotate_left
                                                        · simp only [Act.put, List.setIfInBounds_toArray, List.set_cons_zero, List.set_cons_succ, i64_w, i32_w]
                                                          rfl
                                                        refine pure_ (i := 17) (N := some 194) (v := ?_) (a' := ?_) #[true, true, true, true, true, true, true, false, true, true, false, true, true, true, true, false, false, true, false, false, false, false, false] rfl rfl (any_of HT_.out (by kernel_rfl)) (fun _ _ _ h => h) (Or.inl ⟨by rfl, ?_⟩) ?_ ?_
                                                        rotate_left
                                                        · intro w'
                                                          go_simp
                                                          with_reducible rfl
                                                        rotate_left
                                                        · simp only [Act.put, List.setIfInBounds_toArray, List.set_cons_zero, List.set_cons_succ, i64_w, i32_w]
                                                          rfl
                                                        refine pure_ (i := 18) (N := some 195) (v := ?_) (a' := ?_) #[true, true, true, true, true, true, true, false, true, true, false, true, true, true, true, false, false, true, true, false, false, false, false] rfl rfl (any_of HT_.out (by kernel_rfl)) (fun _ _ _ h => h) (Or.inl ⟨by rfl, ?_⟩) ?_ ?_
                                                        rotate_left
                                                        · intro w'
                                                          go_simp
                                                          with_reducible rfl
                                                        rotate_left
                                                        · simp only [Act.put, List.setIfInBounds_toArray, List.set_cons_zero, List.set_cons_succ, i64_w, i32_w]
                                                          rfl
                                                        refine take_ (i := 7) (N := some 184) (v := ?_) (a' := ?_) #[true, true, true, true, true, true, true, true, true, true, false, true, true, true, true, false, false, true, true, false, false, false, false] rfl rfl (take_ofW HT_.out HW_.out (by kernel_rfl)) (fun _ _ _ h => h) (Or.inl ⟨by rfl, ?_⟩) hHeld ?_ ?_
                                                        rotate_left
                                                        · rintro w' ⟨s0, s1, s2, s3, s4, s5, s6, s7, s8, s9, s10, s11, s12⟩
                                                          go_simp
                                                          with_reducible rfl
                                                        rotate_left
                                                        · simp only [Act.put, List.setIfInBounds_toArray, List.set_cons_zero, List.set_cons_succ, i64_w, i32_w]
                                                          rfl
                                                        refine take_ (i := 10) (N := some 187) (v := ?_) (a' := ?_) #[true, true, true, true, true, true, true, true, true, true, true, true, true, true, true, false, false, true, true, false, false, false, false] rfl rfl (take_ofW HT_.out HW_.out (by kernel_rfl)) (fun _ _ _ h => h) (Or.inl ⟨by rfl, ?_⟩) hHeld ?_ ?_
                                                        rotate_left
                                                        · rintro w' ⟨s0, s1, s2, s3, s4, s5, s6, s7, s8, s9, s10, s11, s12⟩
                                                          go_simp
                                                          with_reducible rfl
                                                        rotate_left
                                                        · simp only [Act.put, List.setIfInBounds_toArray, List.set_cons_zero, List.set_cons_succ, i64_w, i32_w]
                                                          rfl
                                                        refine take_ (i := 15) (N := some 192) (v := ?_) (a' := ?_) #[true, true, true, true, true, true, true, true, true, true, true, true, true, true, true, true, false, true, true, false, false, false, false] rfl rfl (take_ofW HT_.out HW_.out (by kernel_rfl)) (fun _ _ _ h => h) (Or.inl ⟨by rfl, ?_⟩) hHeld ?_ ?_
                                                        rotate_left
                                                        · rintro w' ⟨s0, s1, s2, s3, s4, s5, s6, s7, s8, s9, s10, s11, s12⟩
                                                          go_simp
                                                          with_reducible rfl
                                                        rotate_left
                                                        · simp only [Act.put, List.setIfInBounds_toArray, List.set_cons_zero, List.set_cons_succ, i64_w, i32_w]
                                                          rfl
                                                        refine take_ (i := 16) (N := some 193) (v := ?_) (a' := ?_) #[true, true, true, true, true, true, true, true, true, true, true, true, true, true, true, true, true, true, true, false, false, false, false] rfl rfl (take_ofW HT_.out HW_.out (by kernel_rfl)) (fun _ _ _ h => h) (Or.inl ⟨by rfl, ?_⟩) hHeld ?_ ?_
                                                        rotate_left
                                                        · rintro w' ⟨s0, s1, s2, s3, s4, s5, s6, s7, s8, s9, s10, s11, s12⟩
                                                          go_simp
                                                          with_reducible rfl
                                                        rotate_left
                                                        · simp only [Act.put, List.setIfInBounds_toArray, List.set_cons_zero, List.set_cons_succ, i64_w, i32_w]
                                                          rfl
                                                        refine one_ (i := 19) (N := some 196) #[true, true, true, true, true, true, true, true, true, true, true, true, true, true, true, true, true, true, true, true, false, false, false] rfl rfl (one_of HT_.out (by kernel_rfl)) (by decide) (fun K hK => ?_)
                                                        refine goes_ Tryd.func17 (by kernel_rfl) rfl #[.agg #[.int .i64 a0_0, .int .i64 a0_1, .int .i64 a0_2, .int .i64 a0_3, .int .i64 a0_4, .int .i64 a0_5], .int .i64 t203, .int .i64 x15_6] (by rfl) rfl rfl (by (try simp only [List.map_toArray, List.map_cons, List.map_nil]); first | done | rfl | (simp only [List.length_drop, List.length_take]; rfl)) ?_
                                                        with_reducible refine (arrearslaw3_turn.calls a0_0 a0_1 a0_2 a0_3 a0_4 a0_5 t203 x15_6 t212 _ A86.out).mono ?_
                                                        rintro e w90 ⟨rfl, hb⟩
                                                        have HS9_ := (hb.cell (World.block_lt_of_cell? _ _ (hHeld.2.2.2.2.2.2.2.2.2.1))).trans (hHeld.2.2.2.2.2.2.2.2.2.1)
                                                        have HS10_ := (hb.cell (World.block_lt_of_cell? _ _ (hHeld.2.2.2.2.2.2.2.2.2.2.1))).trans (hHeld.2.2.2.2.2.2.2.2.2.2.1)
                                                        have HS11_ := (hb.cell (World.block_lt_of_cell? _ _ (hHeld.2.2.2.2.2.2.2.2.2.2.2.1))).trans (hHeld.2.2.2.2.2.2.2.2.2.2.2.1)
                                                        have HS12_ := (hb.cell (World.block_lt_of_cell? _ _ (hHeld.2.2.2.2.2.2.2.2.2.2.2.2))).trans (hHeld.2.2.2.2.2.2.2.2.2.2.2.2)
                                                        refine ⟨_, rfl, ?_⟩
                                                        have n0_ := Aside0.mk (Kd.R_below (by (with_reducible repeat (first | apply Kd.R_alloc | apply Kd.R_drewN | apply Kd.R_drew)); exact HO_5.out) hb)
                                                        have n1_ := Aside0.mk (blk_below (g := gb183) (o := .cells #[.int .i64 a0_0, .int .i64 a0_1, .int .i64 a0_2, .int .i64 a0_3, .int .i64 a0_4, .int .i64 a0_5] 23 (0, 0)) (by (with_reducible repeat (first | refine blk_drewN ?_ _ | refine blk_drew ?_ | refine blk_alloc ?_ _)); exact BK183.out) hb)
                                                        have n2_ := Aside0.mk (blk_below (g := gb202) (o := .cells #[.int .i64 t198, .int .i64 t199, .int .i64 t200] 36 (0, 0)) (by (with_reducible repeat (first | refine blk_drewN ?_ _ | refine blk_drew ?_ | refine blk_alloc ?_ _)); exact BK202.out) hb)
                                                        have n3_ := Aside0.mk (below_step (by repeat (first | (with_reducible first | exact HB.out | apply below_alloc | apply pw_below_drewN | apply below_drew1 | refine below_set ?_ GE183.out | refine below_set ?_ GE202.out) | exact HB.out)) hb)
                                                        clear HO_5
                                                        clear BK183
                                                        clear BK202
                                                        clear HB
                                                        have HO_5 := n0_
                                                        have BK183 := n1_
                                                        have BK202 := n2_
                                                        have HB := n3_
                                                        clear n0_ n1_ n2_ n3_
                                                        (try clear hb)
                                                        (try clear hb2)
                                                        (try clear hk)
                                                        (try clear hi)
                                                        refine hK.out _ _ ⟨(blk_cell BK183.out 0).trans rfl, (blk_cell BK183.out 1).trans rfl, (blk_cell BK183.out 2).trans rfl, (blk_cell BK183.out 3).trans rfl, (blk_cell BK183.out 4).trans rfl, (blk_cell BK183.out 5).trans rfl, (blk_cell BK202.out 0).trans rfl, (blk_cell BK202.out 1).trans rfl, (blk_cell BK202.out 2).trans rfl, HS9_, HS10_, HS11_, HS12_⟩ (fun hHeld => ?_)
                                                        clear hK K
                                                        refine norm_ (a' := ?_) ?_ ?_
                                                        rotate_left
                                                        · show Act.put _ (some 196) _ = _
                                                          simp only [Act.put, List.setIfInBounds_toArray, List.set_cons_zero, List.set_cons_succ, i64_w, i32_w]
                                                          rfl
                                                        refine one_ (i := 20) (N := some 197) #[true, true, true, true, true, true, true, true, true, true, true, true, true, true, true, true, true, true, true, true, true, false, false] rfl rfl (one_of HT_.out (by kernel_rfl)) (by decide) (fun K hK => ?_)
                                                        refine goes_ Tryd.func16 (by kernel_rfl) rfl #[.agg #[.int .i64 a0_0, .int .i64 a0_1, .int .i64 a0_2, .int .i64 a0_3, .int .i64 a0_4, .int .i64 a0_5], .slice A1 l1.length c1, .int .i64 t200, .int .i64 ((rd_T41 t192 x15_6).f0), .int .i64 t212] (by rfl) rfl rfl (by (try simp only [List.map_toArray, List.map_cons, List.map_nil]); first | done | rfl | (simp only [List.length_drop, List.length_take]; rfl)) ?_
                                                        with_reducible refine (arrearslaw3_timely.calls kj69 a0_0 a0_1 a0_2 a0_3 a0_4 a0_5 _ _ l1 t200 ((rd_T41 t192 x15_6).f0) t212 t213 _ ?side1 ?side2 ?side3 A87.out).mono ?_
                                                        (case side1 => repeat (first | exact (Kd.C_below HR1.out HB.out) | (with_reducible refine Kd.C_alloc ?_ _) | (with_reducible refine Kd.C_drewN ?_ _) | (with_reducible refine Kd.C_drew ?_)))
                                                        (case side2 => exact HC1.out)
                                                        (case side3 => repeat (first | exact (Kd.C_below HRT.out HB.out) | (with_reducible refine Kd.C_alloc ?_ _) | (with_reducible refine Kd.C_drewN ?_ _) | (with_reducible refine Kd.C_drew ?_)))
                                                        rintro e w91 ⟨rfl, hb⟩
                                                        have HS9_ := (hb.cell (World.block_lt_of_cell? _ _ (hHeld.2.2.2.2.2.2.2.2.2.1))).trans (hHeld.2.2.2.2.2.2.2.2.2.1)
                                                        have HS10_ := (hb.cell (World.block_lt_of_cell? _ _ (hHeld.2.2.2.2.2.2.2.2.2.2.1))).trans (hHeld.2.2.2.2.2.2.2.2.2.2.1)
                                                        have HS11_ := (hb.cell (World.block_lt_of_cell? _ _ (hHeld.2.2.2.2.2.2.2.2.2.2.2.1))).trans (hHeld.2.2.2.2.2.2.2.2.2.2.2.1)
                                                        have HS12_ := (hb.cell (World.block_lt_of_cell? _ _ (hHeld.2.2.2.2.2.2.2.2.2.2.2.2))).trans (hHeld.2.2.2.2.2.2.2.2.2.2.2.2)
                                                        refine ⟨_, rfl, ?_⟩
                                                        have n0_ := Aside0.mk (Kd.R_below (by (with_reducible repeat (first | apply Kd.R_alloc | apply Kd.R_drewN | apply Kd.R_drew)); exact HO_5.out) hb)
                                                        have n1_ := Aside0.mk (blk_below (g := gb183) (o := .cells #[.int .i64 a0_0, .int .i64 a0_1, .int .i64 a0_2, .int .i64 a0_3, .int .i64 a0_4, .int .i64 a0_5] 23 (0, 0)) (by (with_reducible repeat (first | refine blk_drewN ?_ _ | refine blk_drew ?_ | refine blk_alloc ?_ _)); exact BK183.out) hb)
                                                        have n2_ := Aside0.mk (blk_below (g := gb202) (o := .cells #[.int .i64 t198, .int .i64 t199, .int .i64 t200] 36 (0, 0)) (by (with_reducible repeat (first | refine blk_drewN ?_ _ | refine blk_drew ?_ | refine blk_alloc ?_ _)); exact BK202.out) hb)
                                                        have n3_ := Aside0.mk (below_step (by repeat (first | (with_reducible first | exact HB.out | apply below_alloc | apply pw_below_drewN | apply below_drew1 | refine below_set ?_ GE183.out | refine below_set ?_ GE202.out) | exact HB.out)) hb)
                                                        clear HO_5
                                                        clear BK183
                                                        clear BK202
                                                        clear HB
                                                        have HO_5 := n0_
                                                        have BK183 := n1_
                                                        have BK202 := n2_
                                                        have HB := n3_
                                                        clear n0_ n1_ n2_ n3_
                                                        (try clear hb)
                                                        (try clear hb2)
                                                        (try clear hk)
                                                        (try clear hi)
                                                        refine hK.out _ _ ⟨(blk_cell BK183.out 0).trans rfl, (blk_cell BK183.out 1).trans rfl, (blk_cell BK183.out 2).trans rfl, (blk_cell BK183.out 3).trans rfl, (blk_cell BK183.out 4).trans rfl, (blk_cell BK183.out 5).trans rfl, (blk_cell BK202.out 0).trans rfl, (blk_cell BK202.out 1).trans rfl, (blk_cell BK202.out 2).trans rfl, HS9_, HS10_, HS11_, HS12_⟩ (fun hHeld => ?_)
                                                        clear hK K
                                                        refine norm_ (a' := ?_) ?_ ?_
                                                        rotate_left
                                                        · show Act.put _ (some 197) _ = _
                                                          simp only [Act.put, List.setIfInBounds_toArray, List.set_cons_zero, List.set_cons_succ, i64_w, i32_w]
                                                          rfl
                                                        refine pure_ (i := 21) (N := some 198) (v := ?_) (a' := ?_) #[true, true, true, true, true, true, true, true, true, true, true, true, true, true, true, true, true, true, true, true, true, true, false] rfl rfl (any_of HT_.out (by kernel_rfl)) (fun _ _ _ h => h) (Or.inl ⟨by rfl, ?_⟩) ?_ ?_
                                                        rotate_left
                                                        · intro w'
                                                          go_simp
                                                          with_reducible rfl
                                                        rotate_left
                                                        · simp only [Act.put, List.setIfInBounds_toArray, List.set_cons_zero, List.set_cons_succ, i64_w, i32_w]
                                                          rfl
                                                        refine pure_ (i := 22) (N := some 199) (v := ?_) (a' := ?_) #[true, true, true, true, true, true, true, true, true, true, true, true, true, true, true, true, true, true, true, true, true, true, true] rfl rfl (any_of HT_.out (by kernel_rfl)) (fun _ _ _ h => h) (Or.inl ⟨by rfl, ?_⟩) ?_ ?_
                                                        rotate_left
                                                        · intro w'
                                                          go_simp
                                                          with_reducible rfl
                                                        rotate_left
                                                        · simp only [Act.put, List.setIfInBounds_toArray, List.set_cons_zero, List.set_cons_succ, i64_w, i32_w]
                                                          rfl
                                                        refine done_ (done_of HT_.out (by kernel_rfl)) ?_
                                                        try go_wp2
                                                        go_meet
                                                        case rel => exact ⟨_, (!t213), (by first | rfl | (simp; done) | (simp [*]; done)), H', ⟨by have := HJ2.out; have := HJ15.out; have := HJ26.out; have := HJ40.out; have := HJ51.out; have := HK6.out; have := HJ69.out; first | omega | exact Nat.le_refl _⟩, ⟨by (with_reducible repeat (first | apply Kd.R_alloc | apply Kd.R_drewN | apply Kd.R_drew)); exact HO_5.out⟩, ⟨by (with_reducible repeat (first | refine blk_drewN ?_ _ | refine blk_drew ?_ | refine blk_alloc ?_ _)); exact BK183.out⟩, ⟨by (with_reducible repeat (first | refine blk_drewN ?_ _ | refine blk_drew ?_ | refine blk_alloc ?_ _)); exact BK202.out⟩, ⟨by repeat (first | (with_reducible first | exact HB.out | apply below_alloc | apply pw_below_drewN | apply below_drew1 | refine below_set ?_ GE183.out | refine below_set ?_ GE202.out) | exact HB.out)⟩⟩
                                                      · rw [if_neg c85] at H
                                                        exact absurd H (by simp)
                                                    · rw [if_neg c84] at H
                                                      exact absurd H (by simp)
                                                  · replace c83 := Bool.eq_false_iff.mpr c83
                                                    subst c83
                                                    have H1 : (arrearslaw3_InterestAmortizes.j7 kj69 l1 t192 t196 t203 x13_6 x15_6 true a0_0 a0_1 a0_2 a0_3 a0_4 a0_5 t198 t199 t200) = some r := by rw [if_neg (show ¬ (false = true) by decide)] at H; exact H
                                                    clear H
                                                    have H := H1
                                                    clear H1
                                                    have H' := Aside0.mk H
                                                    clear H
                                                    try go_wp2
                                                    have n0_ := Aside0.mk (Kd.R_drew HO_5.out)
                                                    have n1_ := Aside0.mk (blk_drew BK183.out)
                                                    have n2_ := Aside0.mk (blk_drew BK202.out)
                                                    have n3_ := Aside0.mk (below_drew1 HB.out)
                                                    clear HO_5
                                                    clear BK183
                                                    clear BK202
                                                    clear HB
                                                    have HO_5 := n0_
                                                    have BK183 := n1_
                                                    have BK202 := n2_
                                                    have HB := n3_
                                                    clear n0_ n1_ n2_ n3_
                                                    refine start_ (n := 23) (S := fun w' => w'.cell? ⟨gb183, 0, none⟩ = some (.int .i64 a0_0) ∧ w'.cell? ⟨gb183, 1, none⟩ = some (.int .i64 a0_1) ∧ w'.cell? ⟨gb183, 2, none⟩ = some (.int .i64 a0_2) ∧ w'.cell? ⟨gb183, 3, none⟩ = some (.int .i64 a0_3) ∧ w'.cell? ⟨gb183, 4, none⟩ = some (.int .i64 a0_4) ∧ w'.cell? ⟨gb183, 5, none⟩ = some (.int .i64 a0_5)) (ds := []) #[false, false, false, false, false, false, false, false, false, false, false, false, false, false, false, false, false, false, false, false, false, false, false] (by kernel_rfl) rfl rfl ⟨(blk_cell BK183.out 0).trans rfl, (blk_cell BK183.out 1).trans rfl, (blk_cell BK183.out 2).trans rfl, (blk_cell BK183.out 3).trans rfl, (blk_cell BK183.out 4).trans rfl, (blk_cell BK183.out 5).trans rfl⟩ (fun hHeld => ?_); refine with_tabW arrearslaw3_InterestAmortizes.tab23 arrearslaw3_InterestAmortizes.bits23 (fun HT_ HW_ => ?_)
                                                    generalize wc.drew = w92 at HO_5 BK183 BK202 HB hHeld ⊢
                                                    refine pure_ (i := 1) (N := some 178) (v := ?_) (a' := ?_) #[false, true, false, false, false, false, false, false, false, false, false, false, false, false, false, false, false, false, false, false, false, false, false] rfl rfl (any_of HT_.out (by kernel_rfl)) (fun _ _ _ h => h) (Or.inl ⟨by rfl, ?_⟩) ?_ ?_
                                                    rotate_left
                                                    · intro w'
                                                      go_simp
                                                      with_reducible rfl
                                                    rotate_left
                                                    · simp only [Act.put, List.setIfInBounds_toArray, List.set_cons_zero, List.set_cons_succ, i64_w, i32_w]
                                                      rfl
                                                    refine pure_ (i := 2) (N := some 179) (v := ?_) (a' := ?_) #[false, true, true, false, false, false, false, false, false, false, false, false, false, false, false, false, false, false, false, false, false, false, false] rfl rfl (any_of HT_.out (by kernel_rfl)) (fun _ _ _ h => h) (Or.inl ⟨by rfl, ?_⟩) ?_ ?_
                                                    rotate_left
                                                    · intro w'
                                                      go_simp
                                                      with_reducible rfl
                                                    rotate_left
                                                    · simp only [Act.put, List.setIfInBounds_toArray, List.set_cons_zero, List.set_cons_succ, i64_w, i32_w]
                                                      rfl
                                                    refine pure_ (i := 3) (N := some 180) (v := ?_) (a' := ?_) #[false, true, true, true, false, false, false, false, false, false, false, false, false, false, false, false, false, false, false, false, false, false, false] rfl rfl (any_of HT_.out (by kernel_rfl)) (fun _ _ _ h => h) (Or.inl ⟨by rfl, ?_⟩) ?_ ?_
                                                    rotate_left
                                                    · intro w'
                                                      go_simp
                                                      with_reducible rfl
                                                    rotate_left
                                                    · simp only [Act.put, List.setIfInBounds_toArray, List.set_cons_zero, List.set_cons_succ, i64_w, i32_w]
                                                      rfl
                                                    refine take_ (i := 0) (N := some 177) (v := ?_) (a' := ?_) #[true, true, true, true, false, false, false, false, false, false, false, false, false, false, false, false, false, false, false, false, false, false, false] rfl rfl (take_ofW HT_.out HW_.out (by kernel_rfl)) (fun _ _ _ h => h) (Or.inl ⟨by rfl, ?_⟩) hHeld ?_ ?_
                                                    rotate_left
                                                    · rintro w' ⟨s0, s1, s2, s3, s4, s5⟩
                                                      go_simp
                                                      with_reducible rfl
                                                    rotate_left
                                                    · simp only [Act.put, List.setIfInBounds_toArray, List.set_cons_zero, List.set_cons_succ, i64_w, i32_w]
                                                      rfl
                                                    refine one_ (i := 4) (N := some 181) #[true, true, true, true, true, false, false, false, false, false, false, false, false, false, false, false, false, false, false, false, false, false, false] rfl rfl (one_of HT_.out (by kernel_rfl)) (by decide) (fun K hK => ?_)
                                                    refine goes_ Tryd.func15 (by kernel_rfl) rfl #[.agg #[.int .i64 a0_0, .int .i64 a0_1, .int .i64 a0_2, .int .i64 a0_3, .int .i64 a0_4, .int .i64 a0_5], .slice Ao71 t192.length co71, .int .i64 x15_6, .int .i64 t196] (by rfl) rfl rfl (by (try simp only [List.map_toArray, List.map_cons, List.map_nil]); first | done | rfl | (simp only [List.length_drop, List.length_take]; rfl)) ?_
                                                    with_reducible refine (arrearslaw3_share.calls a0_0 a0_1 a0_2 a0_3 a0_4 a0_5 _ _ t192 x15_6 t196 false _ ?side1 ?side2 A82.out).mono ?_
                                                    (case side1 => repeat (first | exact (Kd.R_reads' HO_5.out).2.2 | (with_reducible refine Kd.C_alloc ?_ _) | (with_reducible refine Kd.C_drewN ?_ _) | (with_reducible refine Kd.C_drew ?_)))
                                                    (case side2 => exact (Kd.R_reads' HO_5.out).2.1)
                                                    rintro e w93 ⟨rfl, hb⟩
                                                    refine ⟨_, rfl, ?_⟩
                                                    have n0_ := Aside0.mk (Kd.R_below (by (with_reducible repeat (first | apply Kd.R_alloc | apply Kd.R_drewN | apply Kd.R_drew)); exact HO_5.out) hb)
                                                    have n1_ := Aside0.mk (blk_below (g := gb183) (o := .cells #[.int .i64 a0_0, .int .i64 a0_1, .int .i64 a0_2, .int .i64 a0_3, .int .i64 a0_4, .int .i64 a0_5] 23 (0, 0)) (by (with_reducible repeat (first | refine blk_drewN ?_ _ | refine blk_drew ?_ | refine blk_alloc ?_ _)); exact BK183.out) hb)
                                                    have n2_ := Aside0.mk (blk_below (g := gb202) (o := .cells #[.int .i64 t198, .int .i64 t199, .int .i64 t200] 36 (0, 0)) (by (with_reducible repeat (first | refine blk_drewN ?_ _ | refine blk_drew ?_ | refine blk_alloc ?_ _)); exact BK202.out) hb)
                                                    have n3_ := Aside0.mk (below_step (by repeat (first | (with_reducible first | exact HB.out | apply below_alloc | apply pw_below_drewN | apply below_drew1 | refine below_set ?_ GE183.out | refine below_set ?_ GE202.out) | exact HB.out)) hb)
                                                    clear HO_5
                                                    clear BK183
                                                    clear BK202
                                                    clear HB
                                                    have HO_5 := n0_
                                                    have BK183 := n1_
                                                    have BK202 := n2_
                                                    have HB := n3_
                                                    clear n0_ n1_ n2_ n3_
                                                    (try clear hb)
                                                    (try clear hb2)
                                                    (try clear hk)
                                                    (try clear hi)
                                                    refine hK.out _ _ ⟨(blk_cell BK183.out 0).trans rfl, (blk_cell BK183.out 1).trans rfl, (blk_cell BK183.out 2).trans rfl, (blk_cell BK183.out 3).trans rfl, (blk_cell BK183.out 4).trans rfl, (blk_cell BK183.out 5).trans rfl⟩ (fun hHeld => ?_)
                                                    clear hK K
                                                    refine norm_ (a' := ?_) ?_ ?_
                                                    rotate_left
                                                    · show Act.put _ (some 181) _ = _
                                                      simp only [Act.put, List.setIfInBounds_toArray, List.set_cons_zero, List.set_cons_succ, i64_w, i32_w]
                                                      rfl
                                                    refine pure_ (i := 5) (N := some 182) (v := ?_) (a' := ?_) #[true, true, true, true, true, true, false, false, false, false, false, false, false, false, false, false, false, false, false, false, false, false, false] rfl rfl (any_of HT_.out (by kernel_rfl)) (fun _ _ _ h => h) (Or.inl ⟨by rfl, ?_⟩) ?_ ?_
                                                    rotate_left
                                                    · intro w'
                                                      go_simp
                                                      with_reducible rfl
                                                    rotate_left
                                                    · simp only [Act.put, List.setIfInBounds_toArray, List.set_cons_zero, List.set_cons_succ, i64_w, i32_w]
                                                      rfl
                                                    refine pure_ (i := 6) (N := some 183) (v := ?_) (a' := ?_) #[true, true, true, true, true, true, true, false, false, false, false, false, false, false, false, false, false, false, false, false, false, false, false] rfl rfl (any_of HT_.out (by kernel_rfl)) (fun _ _ _ h => h) (Or.inl ⟨by rfl, ?_⟩) ?_ ?_
                                                    rotate_left
                                                    · intro w'
                                                      go_simp
                                                      with_reducible rfl
                                                    rotate_left
                                                    · simp only [Act.put, List.setIfInBounds_toArray, List.set_cons_zero, List.set_cons_succ, i64_w, i32_w]
                                                      rfl
                                                    refine pure_ (i := 7) (N := some 184) (v := undef) (a' := ?_) #[true, true, true, true, true, true, true, true, false, false, false, false, false, false, false, false, false, false, false, false, false, false, false] rfl rfl (any_of HT_.out (by kernel_rfl)) (fun _ _ _ h => h) (Or.inr ⟨by rfl, rfl⟩) ?_ ?_
                                                    rotate_left
                                                    · simp only [Act.put, List.setIfInBounds_toArray, List.set_cons_zero, List.set_cons_succ, i64_w, i32_w]
                                                      rfl
                                                    refine pure_ (i := 8) (N := some 185) (v := undef) (a' := ?_) #[true, true, true, true, true, true, true, true, true, false, false, false, false, false, false, false, false, false, false, false, false, false, false] rfl rfl (any_of HT_.out (by kernel_rfl)) (fun _ _ _ h => h) (Or.inr ⟨by rfl, rfl⟩) ?_ ?_
                                                    rotate_left
                                                    · simp only [Act.put, List.setIfInBounds_toArray, List.set_cons_zero, List.set_cons_succ, i64_w, i32_w]
                                                      rfl
                                                    refine pure_ (i := 9) (N := some 186) (v := undef) (a' := ?_) #[true, true, true, true, true, true, true, true, true, true, false, false, false, false, false, false, false, false, false, false, false, false, false] rfl rfl (any_of HT_.out (by kernel_rfl)) (fun _ _ _ h => h) (Or.inr ⟨by rfl, rfl⟩) ?_ ?_
                                                    rotate_left
                                                    · simp only [Act.put, List.setIfInBounds_toArray, List.set_cons_zero, List.set_cons_succ, i64_w, i32_w]
                                                      rfl
                                                    refine pure_ (i := 10) (N := some 187) (v := undef) (a' := ?_) #[true, true, true, true, true, true, true, true, true, true, true, false, false, false, false, false, false, false, false, false, false, false, false] rfl rfl (any_of HT_.out (by kernel_rfl)) (fun _ _ _ h => h) (Or.inr ⟨by rfl, rfl⟩) ?_ ?_
                                                    rotate_left
                                                    · simp only [Act.put, List.setIfInBounds_toArray, List.set_cons_zero, List.set_cons_succ, i64_w, i32_w]
                                                      rfl
                                                    refine pure_ (i := 11) (N := some 188) (v := undef) (a' := ?_) #[true, true, true, true, true, true, true, true, true, true, true, true, false, false, false, false, false, false, false, false, false, false, false] rfl rfl (any_of HT_.out (by kernel_rfl)) (fun _ _ _ h => h) (Or.inr ⟨by rfl, rfl⟩) ?_ ?_
                                                    rotate_left
                                                    · simp only [Act.put, List.setIfInBounds_toArray, List.set_cons_zero, List.set_cons_succ, i64_w, i32_w]
                                                      rfl
                                                    refine pure_ (i := 12) (N := some 189) (v := undef) (a' := ?_) #[true, true, true, true, true, true, true, true, true, true, true, true, true, false, false, false, false, false, false, false, false, false, false] rfl rfl (any_of HT_.out (by kernel_rfl)) (fun _ _ _ h => h) (Or.inr ⟨by rfl, rfl⟩) ?_ ?_
                                                    rotate_left
                                                    · simp only [Act.put, List.setIfInBounds_toArray, List.set_cons_zero, List.set_cons_succ, i64_w, i32_w]
                                                      rfl
                                                    refine pure_ (i := 13) (N := some 190) (v := undef) (a' := ?_) #[true, true, true, true, true, true, true, true, true, true, true, true, true, true, false, false, false, false, false, false, false, false, false] rfl rfl (any_of HT_.out (by kernel_rfl)) (fun _ _ _ h => h) (Or.inr ⟨by rfl, rfl⟩) ?_ ?_
                                                    rotate_left
                                                    · simp only [Act.put, List.setIfInBounds_toArray, List.set_cons_zero, List.set_cons_succ, i64_w, i32_w]
                                                      rfl
                                                    refine pure_ (i := 14) (N := some 191) (v := undef) (a' := ?_) #[true, true, true, true, true, true, true, true, true, true, true, true, true, true, true, false, false, false, false, false, false, false, false] rfl rfl (any_of HT_.out (by kernel_rfl)) (fun _ _ _ h => h) (Or.inr ⟨by rfl, rfl⟩) ?_ ?_
                                                    rotate_left
                                                    · simp only [Act.put, List.setIfInBounds_toArray, List.set_cons_zero, List.set_cons_succ, i64_w, i32_w]
                                                      rfl
                                                    refine pure_ (i := 15) (N := some 192) (v := undef) (a' := ?_) #[true, true, true, true, true, true, true, true, true, true, true, true, true, true, true, true, false, false, false, false, false, false, false] rfl rfl (any_of HT_.out (by kernel_rfl)) (fun _ _ _ h => h) (Or.inr ⟨by rfl, rfl⟩) ?_ ?_
                                                    rotate_left
                                                    · simp only [Act.put, List.setIfInBounds_toArray, List.set_cons_zero, List.set_cons_succ, i64_w, i32_w]
                                                      rfl
                                                    refine pure_ (i := 16) (N := some 193) (v := undef) (a' := ?_) #[true, true, true, true, true, true, true, true, true, true, true, true, true, true, true, true, true, false, false, false, false, false, false] rfl rfl (any_of HT_.out (by kernel_rfl)) (fun _ _ _ h => h) (Or.inr ⟨by rfl, rfl⟩) ?_ ?_
                                                    rotate_left
                                                    · simp only [Act.put, List.setIfInBounds_toArray, List.set_cons_zero, List.set_cons_succ, i64_w, i32_w]
                                                      rfl
                                                    refine pure_ (i := 17) (N := some 194) (v := undef) (a' := ?_) #[true, true, true, true, true, true, true, true, true, true, true, true, true, true, true, true, true, true, false, false, false, false, false] rfl rfl (any_of HT_.out (by kernel_rfl)) (fun _ _ _ h => h) (Or.inr ⟨by rfl, rfl⟩) ?_ ?_
                                                    rotate_left
                                                    · simp only [Act.put, List.setIfInBounds_toArray, List.set_cons_zero, List.set_cons_succ, i64_w, i32_w]
                                                      rfl
                                                    refine pure_ (i := 18) (N := some 195) (v := undef) (a' := ?_) #[true, true, true, true, true, true, true, true, true, true, true, true, true, true, true, true, true, true, true, false, false, false, false] rfl rfl (any_of HT_.out (by kernel_rfl)) (fun _ _ _ h => h) (Or.inr ⟨by rfl, rfl⟩) ?_ ?_
                                                    rotate_left
                                                    · simp only [Act.put, List.setIfInBounds_toArray, List.set_cons_zero, List.set_cons_succ, i64_w, i32_w]
                                                      rfl
                                                    refine pure_ (i := 19) (N := some 196) (v := undef) (a' := ?_) #[true, true, true, true, true, true, true, true, true, true, true, true, true, true, true, true, true, true, true, true, false, false, false] rfl rfl (any_of HT_.out (by kernel_rfl)) (fun _ _ _ h => h) (Or.inr ⟨by rfl, rfl⟩) ?_ ?_
                                                    rotate_left
                                                    · simp only [Act.put, List.setIfInBounds_toArray, List.set_cons_zero, List.set_cons_succ, i64_w, i32_w]
                                                      rfl
                                                    refine pure_ (i := 20) (N := some 197) (v := undef) (a' := ?_) #[true, true, true, true, true, true, true, true, true, true, true, true, true, true, true, true, true, true, true, true, true, false, false] rfl rfl (any_of HT_.out (by kernel_rfl)) (fun _ _ _ h => h) (Or.inr ⟨by rfl, rfl⟩) ?_ ?_
                                                    rotate_left
                                                    · simp only [Act.put, List.setIfInBounds_toArray, List.set_cons_zero, List.set_cons_succ, i64_w, i32_w]
                                                      rfl
                                                    refine pure_ (i := 21) (N := some 198) (v := undef) (a' := ?_) #[true, true, true, true, true, true, true, true, true, true, true, true, true, true, true, true, true, true, true, true, true, true, false] rfl rfl (any_of HT_.out (by kernel_rfl)) (fun _ _ _ h => h) (Or.inr ⟨by rfl, rfl⟩) ?_ ?_
                                                    rotate_left
                                                    · simp only [Act.put, List.setIfInBounds_toArray, List.set_cons_zero, List.set_cons_succ, i64_w, i32_w]
                                                      rfl
                                                    refine pure_ (i := 22) (N := some 199) (v := ?_) (a' := ?_) #[true, true, true, true, true, true, true, true, true, true, true, true, true, true, true, true, true, true, true, true, true, true, true] rfl rfl (any_of HT_.out (by kernel_rfl)) (fun _ _ _ h => h) (Or.inl ⟨by rfl, ?_⟩) ?_ ?_
                                                    rotate_left
                                                    · intro w'
                                                      go_simp
                                                      with_reducible rfl
                                                    rotate_left
                                                    · simp only [Act.put, List.setIfInBounds_toArray, List.set_cons_zero, List.set_cons_succ, i64_w, i32_w]
                                                      rfl
                                                    refine done_ (done_of HT_.out (by kernel_rfl)) ?_
                                                    try go_wp2
                                                    go_meet
                                                    case rel => exact ⟨_, (true), (by first | rfl | (simp; done) | (simp [*]; done)), H', ⟨by have := HJ2.out; have := HJ15.out; have := HJ26.out; have := HJ40.out; have := HJ51.out; have := HK6.out; have := HJ69.out; first | omega | exact Nat.le_refl _⟩, ⟨by (with_reducible repeat (first | apply Kd.R_alloc | apply Kd.R_drewN | apply Kd.R_drew)); exact HO_5.out⟩, ⟨by (with_reducible repeat (first | refine blk_drewN ?_ _ | refine blk_drew ?_ | refine blk_alloc ?_ _)); exact BK183.out⟩, ⟨by (with_reducible repeat (first | refine blk_drewN ?_ _ | refine blk_drew ?_ | refine blk_alloc ?_ _)); exact BK202.out⟩, ⟨by repeat (first | (with_reducible first | exact HB.out | apply below_alloc | apply pw_below_drewN | apply below_drew1 | refine below_set ?_ GE183.out | refine below_set ?_ GE202.out) | exact HB.out)⟩⟩
                                                case rest => as_aux_lemma =>
                                                  clear HC81
                                                  try clear c1
                                                  try clear p2
                                                  try clear q2
                                                  try clear hx2
                                                  try clear q3
                                                  try clear c8
                                                  try clear c15
                                                  try clear c16
                                                  try clear c17
                                                  try clear p20
                                                  try clear q20
                                                  try clear hx20
                                                  try clear p21
                                                  try clear q21
                                                  try clear hx21
                                                  try clear q30
                                                  try clear c80
                                                  try clear c83
                                                  try clear c84
                                                  try clear c84b0
                                                  try clear c85
                                                  try clear c85b0
                                                  try clear hfz44_5
                                                  try clear hfz48_0
                                                  try clear hfz48_1
                                                  try clear hfz48_2
                                                  try clear hfz54_0
                                                  try clear hfz54_1
                                                  try clear hfz54_2
                                                  try clear hfz54_3
                                                  try clear hfz54_4
                                                  try clear hfz54_5
                                                  try clear hfz59_0
                                                  try clear hfz59_1
                                                  try clear hfz59_2
                                                  try clear hfz59_3
                                                  try clear hfz59_4
                                                  try clear hfz59_5
                                                  try clear hfz62_0
                                                  try clear hfz62_1
                                                  try clear hfz62_2
                                                  try clear hfz62_3
                                                  try clear hfz62_4
                                                  try clear hfz62_5
                                                  try clear hfz64_0
                                                  try clear hfz64_1
                                                  try clear hfz64_2
                                                  try clear hfz64_3
                                                  try clear hfz64_4
                                                  try clear hfz64_5
                                                  try clear hfz67_0
                                                  try clear hfz67_1
                                                  try clear hfz67_2
                                                  try clear hfz67_3
                                                  try clear hfz67_4
                                                  try clear hfz67_5
                                                  try clear hfz73_0
                                                  try clear hfz73_1
                                                  try clear hfz73_2
                                                  try clear hfz73_3
                                                  try clear hfz73_4
                                                  try clear hfz73_5
                                                  try clear hfz8_0
                                                  try clear hfz8_1
                                                  try clear hfz8_2
                                                  try clear hfz8_3
                                                  try clear hfz8_4
                                                  try clear hfz8_5
                                                  try clear hx207_0
                                                  try clear hx207_1
                                                  try clear hx207_2
                                                  try clear hx207_3
                                                  try clear hx208_0
                                                  try clear hx208_1
                                                  try clear hx208_2
                                                  try clear hx208_3
                                                  try clear hx209_0
                                                  try clear hx209_1
                                                  try clear hx209_2
                                                  try clear hx209_3
                                                  try clear hx211_0
                                                  try clear hx211_1
                                                  try clear hx211_2
                                                  try clear hx211_3
                                                  try clear p2
                                                  try clear p207
                                                  try clear p208
                                                  try clear p209
                                                  try clear p211
                                                  try clear q207
                                                  try clear q208
                                                  try clear q209
                                                  try clear q211
                                                  try clear q3
                                                  try clear q30
                                                  obtain ⟨kq, x199_80, rfl, HA, HJ80, HO_5, BK183, BK202, HB⟩ := hcut
                                                  cases kq with
                                                  | zero => exact absurd HA.out (by simp [arrearslaw3_InterestAmortizes.j7])
                                                  | succ kj80 =>
                                                    have H := HA.out
                                                    clear HA
                                                    simp only [arrearslaw3_InterestAmortizes.j7] at H
                                                    by_cases c94 : x199_80 = true
                                                    · subst c94
                                                      have H1 : (some false) = some r := by rw [if_pos rfl] at H; exact H
                                                      clear H
                                                      have H := H1
                                                      clear H1
                                                      obtain rfl := Option.some.inj H
                                                      go_wp2
                                                      go_ret
                                                      exact ⟨by first | rfl | (simp [errW_none, errW_some] <;> rfl) | (simp [*, errW_none, errW_some] <;> rfl), by repeat (first | (with_reducible first | exact HB.out | apply below_alloc | apply pw_below_drewN | apply below_drew1 | refine below_set ?_ GE183.out | refine below_set ?_ GE202.out) | exact HB.out)⟩
                                                    · replace c94 := Bool.eq_false_iff.mpr c94
                                                      subst c94
                                                      have H1 : (if 0 ≤ x15_6 then (if x15_6 < (t192.length : Int) then (if ((rd_T41 t192 x15_6).f2) < 0 then (some false) else (if ((rd_T41 t192 x15_6).f2) > x13_6 then (some false) else (arrearslaw3_InterestAmortizes.l0 kj80 l1 t192 t196 t203 (wrap64 (x13_6 - ((rd_T41 t192 x15_6).f2))) ((rd_T41 t192 x15_6).f0) (wrap64 (x15_6 + 1)) a0_0 a0_1 a0_2 a0_3 a0_4 a0_5 t198 t199 t200))) else (none)) else (none)) = some r := by rw [if_neg (show ¬ (false = true) by decide)] at H; exact H
                                                      clear H
                                                      have H := H1
                                                      clear H1
                                                      by_cases c95 : 0 ≤ x15_6
                                                      · rw [if_pos c95] at H
                                                        have c95b0 : decide (0 ≤ x15_6) = true := decide_eq_true c95
                                                        clear c95
                                                        by_cases c96 : x15_6 < (t192.length : Int)
                                                        · rw [if_pos c96] at H
                                                          have c96b0 : decide (x15_6 < (t192.length : Int)) = true := decide_eq_true c96
                                                          clear c96
                                                          by_cases c97 : ((rd_T41 t192 x15_6).f2) < 0
                                                          · rw [if_pos c97] at H
                                                            have c97b0 : decide (((rd_T41 t192 x15_6).f2) < 0) = true := decide_eq_true c97
                                                            clear c97
                                                            obtain rfl := Option.some.inj H
                                                            have p214 : 0 ≤ (x15_6 : Int) := of_decide_eq_true (by first | (with_reducible assumption) | assumption)
                                                            have q214 : x15_6 < (t192.length : Int) := of_decide_eq_true (by first | (with_reducible assumption) | assumption)
                                                            obtain ⟨ad214, e214, hx214_0, hx214_1, hx214_2, hx214_3⟩ := at_T41 (Kd.R_reads' HO_5.out).2.2 x15_6 p214 q214
                                                            cases e214
                                                            replace p214 := eq_true p214
                                                            replace q214 := eq_true q214
                                                            go_wp2
                                                            go_ret
                                                            exact ⟨by first | rfl | (simp [errW_none, errW_some] <;> rfl) | (simp [*, errW_none, errW_some] <;> rfl), by repeat (first | (with_reducible first | exact HB.out | apply below_alloc | apply pw_below_drewN | apply below_drew1 | refine below_set ?_ GE183.out | refine below_set ?_ GE202.out) | exact HB.out)⟩
                                                          · rw [if_neg c97] at H
                                                            have c97b0 : decide (((rd_T41 t192 x15_6).f2) < 0) = false := decide_eq_false c97
                                                            clear c97
                                                            by_cases c98 : ((rd_T41 t192 x15_6).f2) > x13_6
                                                            · rw [if_pos c98] at H
                                                              have c98b0 : decide (x13_6 < ((rd_T41 t192 x15_6).f2)) = true := decide_eq_true c98
                                                              clear c98
                                                              obtain rfl := Option.some.inj H
                                                              have p214 : 0 ≤ (x15_6 : Int) := of_decide_eq_true (by first | (with_reducible assumption) | assumption)
                                                              have q214 : x15_6 < (t192.length : Int) := of_decide_eq_true (by first | (with_reducible assumption) | assumption)
                                                              obtain ⟨ad214, e214, hx214_0, hx214_1, hx214_2, hx214_3⟩ := at_T41 (Kd.R_reads' HO_5.out).2.2 x15_6 p214 q214
                                                              cases e214
                                                              replace p214 := eq_true p214
                                                              replace q214 := eq_true q214
                                                              have p215 : 0 ≤ (x15_6 : Int) := of_decide_eq_true (by first | (with_reducible assumption) | assumption)
                                                              have q215 : x15_6 < (t192.length : Int) := of_decide_eq_true (by first | (with_reducible assumption) | assumption)
                                                              obtain ⟨ad215, e215, hx215_0, hx215_1, hx215_2, hx215_3⟩ := at_T41 (Kd.R_reads' HO_5.out).2.2 x15_6 p215 q215
                                                              obtain rfl : ad214 = ad215 := (by injection e215)
                                                              replace p215 := eq_true p215
                                                              replace q215 := eq_true q215
                                                              go_wp2
                                                              go_ret
                                                              exact ⟨by first | rfl | (simp [errW_none, errW_some] <;> rfl) | (simp [*, errW_none, errW_some] <;> rfl), by repeat (first | (with_reducible first | exact HB.out | apply below_alloc | apply pw_below_drewN | apply below_drew1 | refine below_set ?_ GE183.out | refine below_set ?_ GE202.out) | exact HB.out)⟩
                                                            · rw [if_neg c98] at H
                                                              have c98b0 : decide (x13_6 < ((rd_T41 t192 x15_6).f2)) = false := decide_eq_false c98
                                                              clear c98
                                                              have H' := Aside0.mk H
                                                              clear H
                                                              have p214 : 0 ≤ (x15_6 : Int) := of_decide_eq_true (by first | (with_reducible assumption) | assumption)
                                                              have q214 : x15_6 < (t192.length : Int) := of_decide_eq_true (by first | (with_reducible assumption) | assumption)
                                                              obtain ⟨ad214, e214, hx214_0, hx214_1, hx214_2, hx214_3⟩ := at_T41 (Kd.R_reads' HO_5.out).2.2 x15_6 p214 q214
                                                              cases e214
                                                              replace p214 := eq_true p214
                                                              replace q214 := eq_true q214
                                                              have p215 : 0 ≤ (x15_6 : Int) := of_decide_eq_true (by first | (with_reducible assumption) | assumption)
                                                              have q215 : x15_6 < (t192.length : Int) := of_decide_eq_true (by first | (with_reducible assumption) | assumption)
                                                              obtain ⟨ad215, e215, hx215_0, hx215_1, hx215_2, hx215_3⟩ := at_T41 (Kd.R_reads' HO_5.out).2.2 x15_6 p215 q215
                                                              obtain rfl : ad214 = ad215 := (by injection e215)
                                                              replace p215 := eq_true p215
                                                              replace q215 := eq_true q215
                                                              have p216 : 0 ≤ (x15_6 : Int) := of_decide_eq_true (by first | (with_reducible assumption) | assumption)
                                                              have q216 : x15_6 < (t192.length : Int) := of_decide_eq_true (by first | (with_reducible assumption) | assumption)
                                                              obtain ⟨ad216, e216, hx216_0, hx216_1, hx216_2, hx216_3⟩ := at_T41 (Kd.R_reads' HO_5.out).2.2 x15_6 p216 q216
                                                              obtain rfl : ad214 = ad216 := (by injection e216)
                                                              replace p216 := eq_true p216
                                                              replace q216 := eq_true q216
                                                              have p217 : 0 ≤ (x15_6 : Int) := of_decide_eq_true (by first | (with_reducible assumption) | assumption)
                                                              have q217 : x15_6 < (t192.length : Int) := of_decide_eq_true (by first | (with_reducible assumption) | assumption)
                                                              obtain ⟨ad217, e217, hx217_0, hx217_1, hx217_2, hx217_3⟩ := at_T41 (Kd.R_reads' HO_5.out).2.2 x15_6 p217 q217
                                                              obtain rfl : ad214 = ad217 := (by injection e217)
                                                              replace p217 := eq_true p217
                                                              replace q217 := eq_true q217
                                                              go_wp2
                                                              go_roundg kj80
                                                              case measure => have := HJ2.out; have := HJ15.out; have := HJ26.out; have := HJ40.out; have := HJ51.out; have := HK6.out; have := HJ69.out; have := HJ80.out; omega
                                                              case rel => exact ⟨(wrap64 (x13_6 - ((rd_T41 t192 x15_6).f2))), ((rd_T41 t192 x15_6).f0), (wrap64 (x15_6 + 1)), (by first | rfl | (simp; done) | (simp [*]; done)), (by first | rfl | (simp; done) | (simp [*]; done)), (by first | rfl | (simp; done) | (simp [*]; done)), H', ⟨by have := HJ2.out; have := HJ15.out; have := HJ26.out; have := HJ40.out; have := HJ51.out; have := HK6.out; have := HJ69.out; have := HJ80.out; omega⟩, ⟨by (with_reducible repeat (first | apply Kd.R_alloc | apply Kd.R_drewN | apply Kd.R_drew)); exact HO_5.out⟩, ⟨by (with_reducible repeat (first | refine blk_drewN ?_ _ | refine blk_drew ?_ | refine blk_alloc ?_ _)); exact BK183.out⟩, ⟨by (with_reducible repeat (first | refine blk_drewN ?_ _ | refine blk_drew ?_ | refine blk_alloc ?_ _)); exact BK202.out⟩, ⟨by repeat (first | (with_reducible first | exact HB.out | apply below_alloc | apply pw_below_drewN | apply below_drew1 | refine below_set ?_ GE183.out | refine below_set ?_ GE202.out) | exact HB.out)⟩⟩
                                                        · rw [if_neg c96] at H
                                                          exact absurd H (by simp)
                                                      · rw [if_neg c95] at H
                                                        exact absurd H (by simp)
                                        · rw [if_neg c68] at H
                                          have c68b0 : decide (x15_6 < (t192.length : Int)) = false := decide_eq_false c68
                                          clear c68
                                          obtain rfl := Option.some.inj H
                                          obtain ⟨Ao99, co99, eo99⟩ := Kd.R_slice HO_5.out
                                          subst eo99
                                          go_wp2
                                          go_ret
                                          exact ⟨by first | rfl | (simp [errW_none, errW_some] <;> rfl) | (simp [*, errW_none, errW_some] <;> rfl), by repeat (first | (with_reducible first | exact HB.out | apply below_alloc | apply pw_below_drewN | apply below_drew1 | refine below_set ?_ GE183.out | refine below_set ?_ GE202.out) | exact HB.out)⟩
                · rw [if_neg c25] at H
                  exact absurd H (by simp)
              · rw [if_neg c24] at H
                exact absurd H (by simp)

end Go.Proofs.YtogmeijmdbgmdaaDoor.PB
