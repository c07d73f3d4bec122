-- Laid by wip/myprint.py, a driver over the kit's print, for this claim: a lemma's text, not read by a person.
import Derived.Test.YtjhodgcjkobpoaaGreatDoorZFBare
import Derived.Test.YtjhodgcjkobpoaaGreatDoorZPAx0
namespace Go.Proofs.YtjhodgcjkobpoaaGreatDoor.PA
open Go.RowKit Go.Proofs.YtjhodgcjkobpoaaGreatDoorW.PrintWords Go.Proofs.YtjhodgcjkobpoaaGreatDoorW.PrintLast Go.Proofs.YtjhodgcjkobpoaaGreatDoorW.PrintMore
attribute [local go_sem] max2_int min2_int max_two min_two max_three min_three max_four min_four   -- for this text's walks alone
set_option linter.unusedVariables false
set_option linter.unusedSimpArgs false

/-! ### arrearslaw18_bare: function 12 -/
-- ALONE
-- theorem script_BareHere
def arrearslaw18_bare.f (a0_0 a0_1 a0_2 a0_3 a0_4 a0_5 : Int) (a0_6 : ByteArray) : Option (Int × Int × Int × Int × Int × Int × ByteArray) :=
  some ((Go.Proofs.YtjhodgcjkobpoaaGreatDoor.FBare.bareO ⟨a0_0, a0_1, a0_2, a0_3, a0_4, a0_5, a0_6⟩).a0, (Go.Proofs.YtjhodgcjkobpoaaGreatDoor.FBare.bareO ⟨a0_0, a0_1, a0_2, a0_3, a0_4, a0_5, a0_6⟩).a1, (Go.Proofs.YtjhodgcjkobpoaaGreatDoor.FBare.bareO ⟨a0_0, a0_1, a0_2, a0_3, a0_4, a0_5, a0_6⟩).a2, (Go.Proofs.YtjhodgcjkobpoaaGreatDoor.FBare.bareO ⟨a0_0, a0_1, a0_2, a0_3, a0_4, a0_5, a0_6⟩).a3, (Go.Proofs.YtjhodgcjkobpoaaGreatDoor.FBare.bareO ⟨a0_0, a0_1, a0_2, a0_3, a0_4, a0_5, a0_6⟩).a4, (Go.Proofs.YtjhodgcjkobpoaaGreatDoor.FBare.bareO ⟨a0_0, a0_1, a0_2, a0_3, a0_4, a0_5, a0_6⟩).a5, (Go.Proofs.YtjhodgcjkobpoaaGreatDoor.FBare.bareO ⟨a0_0, a0_1, a0_2, a0_3, a0_4, a0_5, a0_6⟩).a6)
theorem arrearslaw18_bare.calls (a0_0 a0_1 a0_2 a0_3 a0_4 a0_5 : Int) (a0_6 : ByteArray) (r_0 r_1 r_2 r_3 r_4 r_5 : Int) (r_6 : ByteArray) (w : World) (hrP : PowAt w) (h : arrearslaw18_bare.f a0_0 a0_1 a0_2 a0_3 a0_4 a0_5 a0_6 = some (r_0, r_1, r_2, r_3, r_4, r_5, r_6)) :
    Calls Tryz.prog 12 #[.agg #[.int .i64 a0_0, .int .i64 a0_1, .int .i64 a0_2, .int .i64 a0_3, .int .i64 a0_4, .int .i64 a0_5, .string a0_6]] w fun e w' => e = .returned (.agg #[.int .i64 r_0, .int .i64 r_1, .int .i64 r_2, .int .i64 r_3, .int .i64 r_4, .int .i64 r_5, .string r_6]) ∧ Below w.heap.size w w' := by
  injection h with h
  injection h with e0 h
  injection h with e1 h
  injection h with e2 h
  injection h with e3 h
  injection h with e4 h
  injection h with e5 e6
  subst e0 e1 e2 e3 e4 e5 e6
  exact Go.Proofs.YtjhodgcjkobpoaaGreatDoor.FBare.bare_c a0_0 a0_1 a0_2 a0_3 a0_4 a0_5 a0_6 w

end Go.Proofs.YtjhodgcjkobpoaaGreatDoor.PA
