/-
  NARROWER THAN 'FOR EVERY INPUT', by the rows' own cells (each row's printed sentence says how): InterestPlans: laid · InterestAmortizes: laid · InterestFresh: laid.
  DERIVED. THE GIVEN ROWS OF THIS SEAT. 3 by the template 'for every input the law returns true; each argument reads behind the call as it read before'; 0 by the template 'total and deterministic' (their statements: YtogmeijmdbgmdaaDoorTotals.lean).
  GIVEN WITH THE SEED: the statements are not yours to turn. If you find one false, say at which input.
  Laid BY PROGRAM, IN A SANDBOX (cutbox-rows.mjs): the forced cells as the released guide's own fill.sh prints them over the translation ce3c125ab7883e1f… (all of the seat's roots in one cut). By AI agents, Wed Nov 11 2026. No macro, syntax, notation, axiom, sorry.
-/
import Derived.Test.YtogmeijmdbgmdaaDoorChecked
import GoSem.Claim
import GoSem.ClaimJoined
import GoSem.ClaimMapViews
import Derived.JoinedTies
import Derived.KernelRfl
namespace Go.Proofs.YtogmeijmdbgmdaaDoor
/- THE CELL 'sum', in the pinned program and in every row, IS THE sha256 OF THE DUMP (.gsa) THAT YtogmeijmdbgmdaaDoorProg.lean LOADS. Nothing in Lean hashes anything: it is a label: what it is worth is what the hold of that sum in a sandbox is worth. -/
noncomputable def Tryd.pinned : Pinned := { name := "ytogmeijmdbgmdaadoor", sum := "ce3c125ab7883e1fab6fb1f20218ff013c223e2b7930484efbcafeb396139888", checked := Tryd.checked }
namespace Rows
def none {H : Type} : Left H := { results := [], args := [] }

/- WHAT THE LISTED PACKAGE-LEVEL VARIABLES READ AS WHEN THE CALL BEGINS. Each datum BY PROGRAM (the guide's laid-datum.mjs) off the statement by which the dump's own 'gosem.cut.vars' lays the variable. In a bare row this is a premise. The card (YtogmeijmdbgmdaaDoorCards.lean) ties it to the program's text. -/
def laid_arrears_calendar_ahead {H : Type} : DataW H := .agg [.lit (.int .i64 0), .lit (.int .i64 31), .lit (.int .i64 59), .lit (.int .i64 90), .lit (.int .i64 120), .lit (.int .i64 151), .lit (.int .i64 181), .lit (.int .i64 212), .lit (.int .i64 243), .lit (.int .i64 273), .lit (.int .i64 304), .lit (.int .i64 334), .lit (.int .i64 365)]

/-- 'arrearslaw3.InterestPlans': WHATEVER THE INPUT: true; the input reads as it did. -/
def interestPlansSpec : ChangeSpec := { name := "interestPlans", fn := fun _ => fun
  | [d1, d2] => { results := [.lit (.bool true)], args := [d1, d2] }
  | _ => none }
def interestPlansRow : OpenClaim := { program := "ytogmeijmdbgmdaadoor", sum := "ce3c125ab7883e1fab6fb1f20218ff013c223e2b7930484efbcafeb396139888", func := "arrears/arrearslaw3.InterestPlans", spec := "interestPlans", unfollowed := true, recurses := true, named := ["arrears/calendar.ahead", "math/bits.divideError", "math/bits.overflowError"], apart := false, laid := [("arrears/calendar.ahead", laid_arrears_calendar_ahead)] }
def InterestPlansSaid : Prop := interestPlansRow.holds Tryd.pinned (OpenSpec.ofChange interestPlansSpec)

/-- ITS FALSE NEIGHBOUR: 'it returns false'. Refute it at one input. -/
def interestPlansWrong : ChangeSpec := { name := "interestPlans", fn := fun _ => fun
  | [d1, d2] => { results := [.lit (.bool false)], args := [d1, d2] }
  | _ => none }
def InterestPlansWrongFalsely : Prop := interestPlansRow.holds Tryd.pinned (OpenSpec.ofChange interestPlansWrong)

/-- 'arrearslaw3.InterestAmortizes': WHATEVER THE INPUT: true; the input reads as it did. -/
def interestAmortizesSpec : ChangeSpec := { name := "interestAmortizes", fn := fun _ => fun
  | [d1, d2] => { results := [.lit (.bool true)], args := [d1, d2] }
  | _ => none }
def interestAmortizesRow : OpenClaim := { program := "ytogmeijmdbgmdaadoor", sum := "ce3c125ab7883e1fab6fb1f20218ff013c223e2b7930484efbcafeb396139888", func := "arrears/arrearslaw3.InterestAmortizes", spec := "interestAmortizes", unfollowed := true, recurses := true, named := ["arrears/calendar.ahead", "math/bits.divideError", "math/bits.overflowError"], apart := false, laid := [("arrears/calendar.ahead", laid_arrears_calendar_ahead)] }
def InterestAmortizesSaid : Prop := interestAmortizesRow.holds Tryd.pinned (OpenSpec.ofChange interestAmortizesSpec)

/-- ITS FALSE NEIGHBOUR: 'it returns false'. Refute it at one input. -/
def interestAmortizesWrong : ChangeSpec := { name := "interestAmortizes", fn := fun _ => fun
  | [d1, d2] => { results := [.lit (.bool false)], args := [d1, d2] }
  | _ => none }
def InterestAmortizesWrongFalsely : Prop := interestAmortizesRow.holds Tryd.pinned (OpenSpec.ofChange interestAmortizesWrong)

/-- 'arrearslaw3.InterestFresh': WHATEVER THE INPUT: true; the input reads as it did. -/
def interestFreshSpec : ChangeSpec := { name := "interestFresh", fn := fun _ => fun
  | [d1, d2] => { results := [.lit (.bool true)], args := [d1, d2] }
  | _ => none }
def interestFreshRow : OpenClaim := { program := "ytogmeijmdbgmdaadoor", sum := "ce3c125ab7883e1fab6fb1f20218ff013c223e2b7930484efbcafeb396139888", func := "arrears/arrearslaw3.InterestFresh", spec := "interestFresh", unfollowed := true, recurses := true, named := ["arrears/calendar.ahead", "math/bits.divideError", "math/bits.overflowError"], apart := false, laid := [("arrears/calendar.ahead", laid_arrears_calendar_ahead)] }
def InterestFreshSaid : Prop := interestFreshRow.holds Tryd.pinned (OpenSpec.ofChange interestFreshSpec)

/-- ITS FALSE NEIGHBOUR: 'it returns false'. Refute it at one input. -/
def interestFreshWrong : ChangeSpec := { name := "interestFresh", fn := fun _ => fun
  | [d1, d2] => { results := [.lit (.bool false)], args := [d1, d2] }
  | _ => none }
def InterestFreshWrongFalsely : Prop := interestFreshRow.holds Tryd.pinned (OpenSpec.ofChange interestFreshWrong)

/- THE SECOND FORM. 'bulk': how many values and letters a reading holds, each counted each time it is reached (what is shared counts as often as it is met; a slice's spare places count too). A statement '..UptoSaid' is the law's where the arguments, and the package variables that the reading takes, are together of bulk at most 1048576: NARROWER than '..Said'. Prove '..Said' where nothing that the law and all that it calls make is longer than what came in: it says more and counts as full. Else prove '..UptoSaid'. A law counts once. -/
mutual
def uptoBulk {H : Type} : DataW H → Nat
  | .lit (.string bytes) => bytes.length + 1
  | .lit _ => 1
  | .nil => 1
  | .ptr d => uptoBulk d + 1
  | .slice elems spare => uptoBulkAll elems + uptoBulkAll spare + 1
  | .agg parts => uptoBulkAll parts + 1
  | .iface _ d => uptoBulk d + 1
  | .map entries => uptoBulkEntries entries + 1
  | .held _ => 1
def uptoBulkAll {H : Type} : List (DataW H) → Nat
  | [] => 0
  | d :: r => uptoBulk d + uptoBulkAll r
def uptoBulkEntries {H : Type} : List (Lit × DataW H) → Nat
  | [] => 0
  | x :: r => uptoBulkEntry x + uptoBulkEntries r
def uptoBulkEntry {H : Type} : Lit × DataW H → Nat
  | (.string bytes, d) => bytes.length + uptoBulk d + 1
  | (_, d) => uptoBulk d + 1
 end
def uptoSmall : (H : Type) → List (DataW H) → Bool := fun _ ds => decide (uptoBulkAll ds ≤ 1048576)
def OpenSpec.upto (s : _root_.Go.ChangeSpec) : _root_.Go.OpenSpec := { _root_.Go.OpenSpec.ofChange s with cond := some uptoSmall }

/-- 'arrearslaw3.InterestPlans', WHERE WHAT IT READS IS OF BULK AT MOST 1048576: true; the input reads as it did. -/
def interestPlansUptoRow : OpenClaim := { program := "ytogmeijmdbgmdaadoor", sum := "ce3c125ab7883e1fab6fb1f20218ff013c223e2b7930484efbcafeb396139888", func := "arrears/arrearslaw3.InterestPlans", spec := "interestPlans", unfollowed := true, recurses := true, named := ["arrears/calendar.ahead", "math/bits.divideError", "math/bits.overflowError"], apart := false, laid := [("arrears/calendar.ahead", laid_arrears_calendar_ahead)], narrowed := true }
def InterestPlansUptoSaid : Prop := interestPlansUptoRow.holds Tryd.pinned (OpenSpec.upto interestPlansSpec)

/-- 'arrearslaw3.InterestAmortizes', WHERE WHAT IT READS IS OF BULK AT MOST 1048576: true; the input reads as it did. -/
def interestAmortizesUptoRow : OpenClaim := { program := "ytogmeijmdbgmdaadoor", sum := "ce3c125ab7883e1fab6fb1f20218ff013c223e2b7930484efbcafeb396139888", func := "arrears/arrearslaw3.InterestAmortizes", spec := "interestAmortizes", unfollowed := true, recurses := true, named := ["arrears/calendar.ahead", "math/bits.divideError", "math/bits.overflowError"], apart := false, laid := [("arrears/calendar.ahead", laid_arrears_calendar_ahead)], narrowed := true }
def InterestAmortizesUptoSaid : Prop := interestAmortizesUptoRow.holds Tryd.pinned (OpenSpec.upto interestAmortizesSpec)

/-- 'arrearslaw3.InterestFresh', WHERE WHAT IT READS IS OF BULK AT MOST 1048576: true; the input reads as it did. -/
def interestFreshUptoRow : OpenClaim := { program := "ytogmeijmdbgmdaadoor", sum := "ce3c125ab7883e1fab6fb1f20218ff013c223e2b7930484efbcafeb396139888", func := "arrears/arrearslaw3.InterestFresh", spec := "interestFresh", unfollowed := true, recurses := true, named := ["arrears/calendar.ahead", "math/bits.divideError", "math/bits.overflowError"], apart := false, laid := [("arrears/calendar.ahead", laid_arrears_calendar_ahead)], narrowed := true }
def InterestFreshUptoSaid : Prop := interestFreshUptoRow.holds Tryd.pinned (OpenSpec.upto interestFreshSpec)

end Rows
end Go.Proofs.YtogmeijmdbgmdaaDoor
