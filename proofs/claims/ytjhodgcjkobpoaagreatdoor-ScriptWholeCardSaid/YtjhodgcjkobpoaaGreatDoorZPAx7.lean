-- Laid by wip/myprint.py, a driver over the kit's print, for this claim: a lemma's text, not read by a person.
import Derived.Test.YtjhodgcjkobpoaaGreatDoorZFParse2
import Derived.Test.YtjhodgcjkobpoaaGreatDoorZPAx0
namespace Go.Proofs.YtjhodgcjkobpoaaGreatDoor.PA
open Go.RowKit Go.Proofs.YtjhodgcjkobpoaaGreatDoorW.PrintWords Go.Proofs.YtjhodgcjkobpoaaGreatDoorW.PrintLast Go.Proofs.YtjhodgcjkobpoaaGreatDoorW.PrintMore
attribute [local go_sem] max2_int min2_int max_two min_two max_three min_three max_four min_four   -- for this text's walks alone
set_option linter.unusedVariables false
set_option linter.unusedSimpArgs false

/-! ### script_Parse: function 6 -/
-- ALONE
-- theorem script_ParseHere
def script_Parse.f (a0 : List Int) : Option (Int × Int × Int × Int × Int × Int × ByteArray × Int × Int) :=
  some ((Go.Proofs.YtjhodgcjkobpoaaGreatDoor.FParse.parseP (strOfNums a0)).o.a0, (Go.Proofs.YtjhodgcjkobpoaaGreatDoor.FParse.parseP (strOfNums a0)).o.a1, (Go.Proofs.YtjhodgcjkobpoaaGreatDoor.FParse.parseP (strOfNums a0)).o.a2, (Go.Proofs.YtjhodgcjkobpoaaGreatDoor.FParse.parseP (strOfNums a0)).o.a3, (Go.Proofs.YtjhodgcjkobpoaaGreatDoor.FParse.parseP (strOfNums a0)).o.a4, (Go.Proofs.YtjhodgcjkobpoaaGreatDoor.FParse.parseP (strOfNums a0)).o.a5, (Go.Proofs.YtjhodgcjkobpoaaGreatDoor.FParse.parseP (strOfNums a0)).o.a6, Go.Proofs.YtjhodgcjkobpoaaGreatDoor.FParse2.PR.errno (Go.Proofs.YtjhodgcjkobpoaaGreatDoor.FParse.parseP (strOfNums a0)), Go.Proofs.YtjhodgcjkobpoaaGreatDoor.FParse2.PR.place (Go.Proofs.YtjhodgcjkobpoaaGreatDoor.FParse.parseP (strOfNums a0)))
theorem script_Parse.calls (A0 : Option Addr) (c0 : Nat) (l0 : List Int) (r0_0 r0_1 r0_2 r0_3 r0_4 r0_5 : Int) (r0_6 : ByteArray) (r1 r2 : Int) (w : World) (hr0 : Kd.C (Kd.int .u8) w A0 l0.length l0) (hc0 : l0.length ≤ c0) (hrP : PowAt w) (h : script_Parse.f l0 = some (r0_0, r0_1, r0_2, r0_3, r0_4, r0_5, r0_6, r1, r2)) :
    Calls Tryz.prog 6 #[.slice A0 l0.length c0] w fun e w' => e = .returned (.tuple #[.agg #[.int .i64 r0_0, .int .i64 r0_1, .int .i64 r0_2, .int .i64 r0_3, .int .i64 r0_4, .int .i64 r0_5, .string r0_6], .int .i64 r1, .int .i64 r2]) ∧ Below w.heap.size w w' := by
  injection h with h
  injection h with e0 h
  injection h with e1 h
  injection h with e2 h
  injection h with e3 h
  injection h with e4 h
  injection h with e5 h
  injection h with e6 h
  injection h with e7 e8
  subst e0 e1 e2 e3 e4 e5 e6 e7 e8
  exact Go.Proofs.YtjhodgcjkobpoaaGreatDoor.FParse2.Parse_c A0 c0 l0 w hr0 hrP

end Go.Proofs.YtjhodgcjkobpoaaGreatDoor.PA
