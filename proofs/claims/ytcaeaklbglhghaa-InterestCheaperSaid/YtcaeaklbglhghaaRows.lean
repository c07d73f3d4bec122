/-
  No cell of these rows narrows 'for every input' (looked for: loops, veiled, ifaces, maps, wideKeys, modest, calm, conditions, laid).
  DERIVED. THE GIVEN ROWS OF THIS SEAT. 9 by the template 'for every input the law returns true; each argument reads behind the call as it read before'; 0 by the template 'total and deterministic' (their statements: YtcaeaklbglhghaaTotals.lean).
  GIVEN WITH THE SEED: the statements are not yours to turn. If you find one false, say at which input.
  Laid BY PROGRAM, IN A SANDBOX (cutbox-rows.mjs): the forced cells as the released guide's own fill.sh prints them over the translation d42b25fdf97f4ec2… (all of the seat's roots in one cut). By AI agents, Wed Nov 11 2026. No macro, syntax, notation, axiom, sorry.
-/
import Derived.Test.YtcaeaklbglhghaaChecked
import GoSem.Claim
import GoSem.ClaimJoined
import GoSem.ClaimMapViews
import Derived.JoinedTies
import Derived.KernelRfl
namespace Go.Proofs.Ytcaeaklbglhghaa
/- THE CELL 'sum', in the pinned program and in every row, IS THE sha256 OF THE DUMP (.gsa) THAT YtcaeaklbglhghaaProg.lean LOADS. Nothing in Lean hashes anything: it is a label: what it is worth is what the hold of that sum in a sandbox is worth. -/
noncomputable def Try.pinned : Pinned := { name := "ytcaeaklbglhghaa", sum := "d42b25fdf97f4ec235c8df8e50825b792bef0e44b044bad85fd8152ebc9ba031", checked := Try.checked }
namespace Rows
def none {H : Type} : Left H := { results := [], args := [] }

/-- 'arrearslaw3.InterestMonths': WHATEVER THE INPUT: true; the input reads as it did. -/
def interestMonthsSpec : ChangeSpec := { name := "interestMonths", fn := fun _ => fun
  | [d1, d2] => { results := [.lit (.bool true)], args := [d1, d2] }
  | _ => none }
def interestMonthsRow : OpenClaim := { program := "ytcaeaklbglhghaa", sum := "d42b25fdf97f4ec235c8df8e50825b792bef0e44b044bad85fd8152ebc9ba031", func := "arrears/arrearslaw3.InterestMonths", spec := "interestMonths", named := ["math/bits.divideError", "math/bits.overflowError"], apart := false }
def InterestMonthsSaid : Prop := interestMonthsRow.holds Try.pinned (OpenSpec.ofChange interestMonthsSpec)

/-- ITS FALSE NEIGHBOUR: 'it returns false'. Refute it at one input. -/
def interestMonthsWrong : ChangeSpec := { name := "interestMonths", fn := fun _ => fun
  | [d1, d2] => { results := [.lit (.bool false)], args := [d1, d2] }
  | _ => none }
def InterestMonthsWrongFalsely : Prop := interestMonthsRow.holds Try.pinned (OpenSpec.ofChange interestMonthsWrong)

/-- 'arrearslaw3.InterestNearest': WHATEVER THE INPUT: true; the input reads as it did. -/
def interestNearestSpec : ChangeSpec := { name := "interestNearest", fn := fun _ => fun
  | [d1, d2] => { results := [.lit (.bool true)], args := [d1, d2] }
  | _ => none }
def interestNearestRow : OpenClaim := { program := "ytcaeaklbglhghaa", sum := "d42b25fdf97f4ec235c8df8e50825b792bef0e44b044bad85fd8152ebc9ba031", func := "arrears/arrearslaw3.InterestNearest", spec := "interestNearest", named := ["math/bits.divideError", "math/bits.overflowError"], apart := false }
def InterestNearestSaid : Prop := interestNearestRow.holds Try.pinned (OpenSpec.ofChange interestNearestSpec)

/-- ITS FALSE NEIGHBOUR: 'it returns false'. Refute it at one input. -/
def interestNearestWrong : ChangeSpec := { name := "interestNearest", fn := fun _ => fun
  | [d1, d2] => { results := [.lit (.bool false)], args := [d1, d2] }
  | _ => none }
def InterestNearestWrongFalsely : Prop := interestNearestRow.holds Try.pinned (OpenSpec.ofChange interestNearestWrong)

/-- 'arrearslaw3.InterestTwoSpans': WHATEVER THE INPUT: true; the input reads as it did. -/
def interestTwoSpansSpec : ChangeSpec := { name := "interestTwoSpans", fn := fun _ => fun
  | [d1, d2, d3, d4, d5] => { results := [.lit (.bool true)], args := [d1, d2, d3, d4, d5] }
  | _ => none }
def interestTwoSpansRow : OpenClaim := { program := "ytcaeaklbglhghaa", sum := "d42b25fdf97f4ec235c8df8e50825b792bef0e44b044bad85fd8152ebc9ba031", func := "arrears/arrearslaw3.InterestTwoSpans", spec := "interestTwoSpans", named := ["math/bits.divideError", "math/bits.overflowError"], apart := false }
def InterestTwoSpansSaid : Prop := interestTwoSpansRow.holds Try.pinned (OpenSpec.ofChange interestTwoSpansSpec)

/-- ITS FALSE NEIGHBOUR: 'it returns false'. Refute it at one input. -/
def interestTwoSpansWrong : ChangeSpec := { name := "interestTwoSpans", fn := fun _ => fun
  | [d1, d2, d3, d4, d5] => { results := [.lit (.bool false)], args := [d1, d2, d3, d4, d5] }
  | _ => none }
def InterestTwoSpansWrongFalsely : Prop := interestTwoSpansRow.holds Try.pinned (OpenSpec.ofChange interestTwoSpansWrong)

/-- 'arrearslaw3.InterestYear': WHATEVER THE INPUT: true; the input reads as it did. -/
def interestYearSpec : ChangeSpec := { name := "interestYear", fn := fun _ => fun
  | [d1, d2] => { results := [.lit (.bool true)], args := [d1, d2] }
  | _ => none }
def interestYearRow : OpenClaim := { program := "ytcaeaklbglhghaa", sum := "d42b25fdf97f4ec235c8df8e50825b792bef0e44b044bad85fd8152ebc9ba031", func := "arrears/arrearslaw3.InterestYear", spec := "interestYear", named := ["math/bits.divideError", "math/bits.overflowError"], apart := false }
def InterestYearSaid : Prop := interestYearRow.holds Try.pinned (OpenSpec.ofChange interestYearSpec)

/-- ITS FALSE NEIGHBOUR: 'it returns false'. Refute it at one input. -/
def interestYearWrong : ChangeSpec := { name := "interestYear", fn := fun _ => fun
  | [d1, d2] => { results := [.lit (.bool false)], args := [d1, d2] }
  | _ => none }
def InterestYearWrongFalsely : Prop := interestYearRow.holds Try.pinned (OpenSpec.ofChange interestYearWrong)

/-- 'arrearslaw3.InterestSpans': WHATEVER THE INPUT: true; the input reads as it did. -/
def interestSpansSpec : ChangeSpec := { name := "interestSpans", fn := fun _ => fun
  | [d1, d2, d3, d4] => { results := [.lit (.bool true)], args := [d1, d2, d3, d4] }
  | _ => none }
def interestSpansRow : OpenClaim := { program := "ytcaeaklbglhghaa", sum := "d42b25fdf97f4ec235c8df8e50825b792bef0e44b044bad85fd8152ebc9ba031", func := "arrears/arrearslaw3.InterestSpans", spec := "interestSpans", named := ["math/bits.divideError", "math/bits.overflowError"], apart := false }
def InterestSpansSaid : Prop := interestSpansRow.holds Try.pinned (OpenSpec.ofChange interestSpansSpec)

/-- ITS FALSE NEIGHBOUR: 'it returns false'. Refute it at one input. -/
def interestSpansWrong : ChangeSpec := { name := "interestSpans", fn := fun _ => fun
  | [d1, d2, d3, d4] => { results := [.lit (.bool false)], args := [d1, d2, d3, d4] }
  | _ => none }
def InterestSpansWrongFalsely : Prop := interestSpansRow.holds Try.pinned (OpenSpec.ofChange interestSpansWrong)

/-- 'arrearslaw3.InterestDayByDay': WHATEVER THE INPUT: true; the input reads as it did. -/
def interestDayByDaySpec : ChangeSpec := { name := "interestDayByDay", fn := fun _ => fun
  | [d1, d2, d3, d4] => { results := [.lit (.bool true)], args := [d1, d2, d3, d4] }
  | _ => none }
def interestDayByDayRow : OpenClaim := { program := "ytcaeaklbglhghaa", sum := "d42b25fdf97f4ec235c8df8e50825b792bef0e44b044bad85fd8152ebc9ba031", func := "arrears/arrearslaw3.InterestDayByDay", spec := "interestDayByDay", named := ["math/bits.divideError", "math/bits.overflowError"], apart := false }
def InterestDayByDaySaid : Prop := interestDayByDayRow.holds Try.pinned (OpenSpec.ofChange interestDayByDaySpec)

/-- ITS FALSE NEIGHBOUR: 'it returns false'. Refute it at one input. -/
def interestDayByDayWrong : ChangeSpec := { name := "interestDayByDay", fn := fun _ => fun
  | [d1, d2, d3, d4] => { results := [.lit (.bool false)], args := [d1, d2, d3, d4] }
  | _ => none }
def InterestDayByDayWrongFalsely : Prop := interestDayByDayRow.holds Try.pinned (OpenSpec.ofChange interestDayByDayWrong)

/-- 'arrearslaw3.InterestLevels': WHATEVER THE INPUT: true; the input reads as it did. -/
def interestLevelsSpec : ChangeSpec := { name := "interestLevels", fn := fun _ => fun
  | [d1, d2, d3] => { results := [.lit (.bool true)], args := [d1, d2, d3] }
  | _ => none }
def interestLevelsRow : OpenClaim := { program := "ytcaeaklbglhghaa", sum := "d42b25fdf97f4ec235c8df8e50825b792bef0e44b044bad85fd8152ebc9ba031", func := "arrears/arrearslaw3.InterestLevels", spec := "interestLevels", unfollowed := true, recurses := true, named := ["math/bits.divideError", "math/bits.overflowError"], apart := false }
def InterestLevelsSaid : Prop := interestLevelsRow.holds Try.pinned (OpenSpec.ofChange interestLevelsSpec)

/-- ITS FALSE NEIGHBOUR: 'it returns false'. Refute it at one input. -/
def interestLevelsWrong : ChangeSpec := { name := "interestLevels", fn := fun _ => fun
  | [d1, d2, d3] => { results := [.lit (.bool false)], args := [d1, d2, d3] }
  | _ => none }
def InterestLevelsWrongFalsely : Prop := interestLevelsRow.holds Try.pinned (OpenSpec.ofChange interestLevelsWrong)

/-- 'arrearslaw3.InterestLeast': WHATEVER THE INPUT: true; the input reads as it did. -/
def interestLeastSpec : ChangeSpec := { name := "interestLeast", fn := fun _ => fun
  | [d1, d2, d3] => { results := [.lit (.bool true)], args := [d1, d2, d3] }
  | _ => none }
def interestLeastRow : OpenClaim := { program := "ytcaeaklbglhghaa", sum := "d42b25fdf97f4ec235c8df8e50825b792bef0e44b044bad85fd8152ebc9ba031", func := "arrears/arrearslaw3.InterestLeast", spec := "interestLeast", unfollowed := true, recurses := true, named := ["math/bits.divideError", "math/bits.overflowError"], apart := false }
def InterestLeastSaid : Prop := interestLeastRow.holds Try.pinned (OpenSpec.ofChange interestLeastSpec)

/-- ITS FALSE NEIGHBOUR: 'it returns false'. Refute it at one input. -/
def interestLeastWrong : ChangeSpec := { name := "interestLeast", fn := fun _ => fun
  | [d1, d2, d3] => { results := [.lit (.bool false)], args := [d1, d2, d3] }
  | _ => none }
def InterestLeastWrongFalsely : Prop := interestLeastRow.holds Try.pinned (OpenSpec.ofChange interestLeastWrong)

/-- 'arrearslaw3.InterestCheaper': WHATEVER THE INPUT: true; the input reads as it did. -/
def interestCheaperSpec : ChangeSpec := { name := "interestCheaper", fn := fun _ => fun
  | [d1, d2, d3] => { results := [.lit (.bool true)], args := [d1, d2, d3] }
  | _ => none }
def interestCheaperRow : OpenClaim := { program := "ytcaeaklbglhghaa", sum := "d42b25fdf97f4ec235c8df8e50825b792bef0e44b044bad85fd8152ebc9ba031", func := "arrears/arrearslaw3.InterestCheaper", spec := "interestCheaper", unfollowed := true, recurses := true, named := ["math/bits.divideError", "math/bits.overflowError"], apart := false }
def InterestCheaperSaid : Prop := interestCheaperRow.holds Try.pinned (OpenSpec.ofChange interestCheaperSpec)

/-- ITS FALSE NEIGHBOUR: 'it returns false'. Refute it at one input. -/
def interestCheaperWrong : ChangeSpec := { name := "interestCheaper", fn := fun _ => fun
  | [d1, d2, d3] => { results := [.lit (.bool false)], args := [d1, d2, d3] }
  | _ => none }
def InterestCheaperWrongFalsely : Prop := interestCheaperRow.holds Try.pinned (OpenSpec.ofChange interestCheaperWrong)

/- THE SECOND FORM. 'bulk': how many values and letters a reading holds, each counted each time it is reached (what is shared counts as often as it is met; a slice's spare places count too). A statement '..UptoSaid' is the law's where the arguments, and the package variables that the reading takes, are together of bulk at most 1048576: NARROWER than '..Said'. Prove '..Said' where nothing that the law and all that it calls make is longer than what came in: it says more and counts as full. Else prove '..UptoSaid'. A law counts once. -/
mutual
def uptoBulk {H : Type} : DataW H → Nat
  | .lit (.string bytes) => bytes.length + 1
  | .lit _ => 1
  | .nil => 1
  | .ptr d => uptoBulk d + 1
  | .slice elems spare => uptoBulkAll elems + uptoBulkAll spare + 1
  | .agg parts => uptoBulkAll parts + 1
  | .iface _ d => uptoBulk d + 1
  | .map entries => uptoBulkEntries entries + 1
  | .held _ => 1
def uptoBulkAll {H : Type} : List (DataW H) → Nat
  | [] => 0
  | d :: r => uptoBulk d + uptoBulkAll r
def uptoBulkEntries {H : Type} : List (Lit × DataW H) → Nat
  | [] => 0
  | x :: r => uptoBulkEntry x + uptoBulkEntries r
def uptoBulkEntry {H : Type} : Lit × DataW H → Nat
  | (.string bytes, d) => bytes.length + uptoBulk d + 1
  | (_, d) => uptoBulk d + 1
 end
def uptoSmall : (H : Type) → List (DataW H) → Bool := fun _ ds => decide (uptoBulkAll ds ≤ 1048576)
def OpenSpec.upto (s : _root_.Go.ChangeSpec) : _root_.Go.OpenSpec := { _root_.Go.OpenSpec.ofChange s with cond := some uptoSmall }

/-- 'arrearslaw3.InterestMonths', WHERE WHAT IT READS IS OF BULK AT MOST 1048576: true; the input reads as it did. -/
def interestMonthsUptoRow : OpenClaim := { program := "ytcaeaklbglhghaa", sum := "d42b25fdf97f4ec235c8df8e50825b792bef0e44b044bad85fd8152ebc9ba031", func := "arrears/arrearslaw3.InterestMonths", spec := "interestMonths", named := ["math/bits.divideError", "math/bits.overflowError"], apart := false, narrowed := true }
def InterestMonthsUptoSaid : Prop := interestMonthsUptoRow.holds Try.pinned (OpenSpec.upto interestMonthsSpec)

/-- 'arrearslaw3.InterestNearest', WHERE WHAT IT READS IS OF BULK AT MOST 1048576: true; the input reads as it did. -/
def interestNearestUptoRow : OpenClaim := { program := "ytcaeaklbglhghaa", sum := "d42b25fdf97f4ec235c8df8e50825b792bef0e44b044bad85fd8152ebc9ba031", func := "arrears/arrearslaw3.InterestNearest", spec := "interestNearest", named := ["math/bits.divideError", "math/bits.overflowError"], apart := false, narrowed := true }
def InterestNearestUptoSaid : Prop := interestNearestUptoRow.holds Try.pinned (OpenSpec.upto interestNearestSpec)

/-- 'arrearslaw3.InterestTwoSpans', WHERE WHAT IT READS IS OF BULK AT MOST 1048576: true; the input reads as it did. -/
def interestTwoSpansUptoRow : OpenClaim := { program := "ytcaeaklbglhghaa", sum := "d42b25fdf97f4ec235c8df8e50825b792bef0e44b044bad85fd8152ebc9ba031", func := "arrears/arrearslaw3.InterestTwoSpans", spec := "interestTwoSpans", named := ["math/bits.divideError", "math/bits.overflowError"], apart := false, narrowed := true }
def InterestTwoSpansUptoSaid : Prop := interestTwoSpansUptoRow.holds Try.pinned (OpenSpec.upto interestTwoSpansSpec)

/-- 'arrearslaw3.InterestYear', WHERE WHAT IT READS IS OF BULK AT MOST 1048576: true; the input reads as it did. -/
def interestYearUptoRow : OpenClaim := { program := "ytcaeaklbglhghaa", sum := "d42b25fdf97f4ec235c8df8e50825b792bef0e44b044bad85fd8152ebc9ba031", func := "arrears/arrearslaw3.InterestYear", spec := "interestYear", named := ["math/bits.divideError", "math/bits.overflowError"], apart := false, narrowed := true }
def InterestYearUptoSaid : Prop := interestYearUptoRow.holds Try.pinned (OpenSpec.upto interestYearSpec)

/-- 'arrearslaw3.InterestSpans', WHERE WHAT IT READS IS OF BULK AT MOST 1048576: true; the input reads as it did. -/
def interestSpansUptoRow : OpenClaim := { program := "ytcaeaklbglhghaa", sum := "d42b25fdf97f4ec235c8df8e50825b792bef0e44b044bad85fd8152ebc9ba031", func := "arrears/arrearslaw3.InterestSpans", spec := "interestSpans", named := ["math/bits.divideError", "math/bits.overflowError"], apart := false, narrowed := true }
def InterestSpansUptoSaid : Prop := interestSpansUptoRow.holds Try.pinned (OpenSpec.upto interestSpansSpec)

/-- 'arrearslaw3.InterestDayByDay', WHERE WHAT IT READS IS OF BULK AT MOST 1048576: true; the input reads as it did. -/
def interestDayByDayUptoRow : OpenClaim := { program := "ytcaeaklbglhghaa", sum := "d42b25fdf97f4ec235c8df8e50825b792bef0e44b044bad85fd8152ebc9ba031", func := "arrears/arrearslaw3.InterestDayByDay", spec := "interestDayByDay", named := ["math/bits.divideError", "math/bits.overflowError"], apart := false, narrowed := true }
def InterestDayByDayUptoSaid : Prop := interestDayByDayUptoRow.holds Try.pinned (OpenSpec.upto interestDayByDaySpec)

/-- 'arrearslaw3.InterestLevels', WHERE WHAT IT READS IS OF BULK AT MOST 1048576: true; the input reads as it did. -/
def interestLevelsUptoRow : OpenClaim := { program := "ytcaeaklbglhghaa", sum := "d42b25fdf97f4ec235c8df8e50825b792bef0e44b044bad85fd8152ebc9ba031", func := "arrears/arrearslaw3.InterestLevels", spec := "interestLevels", unfollowed := true, recurses := true, named := ["math/bits.divideError", "math/bits.overflowError"], apart := false, narrowed := true }
def InterestLevelsUptoSaid : Prop := interestLevelsUptoRow.holds Try.pinned (OpenSpec.upto interestLevelsSpec)

/-- 'arrearslaw3.InterestLeast', WHERE WHAT IT READS IS OF BULK AT MOST 1048576: true; the input reads as it did. -/
def interestLeastUptoRow : OpenClaim := { program := "ytcaeaklbglhghaa", sum := "d42b25fdf97f4ec235c8df8e50825b792bef0e44b044bad85fd8152ebc9ba031", func := "arrears/arrearslaw3.InterestLeast", spec := "interestLeast", unfollowed := true, recurses := true, named := ["math/bits.divideError", "math/bits.overflowError"], apart := false, narrowed := true }
def InterestLeastUptoSaid : Prop := interestLeastUptoRow.holds Try.pinned (OpenSpec.upto interestLeastSpec)

/-- 'arrearslaw3.InterestCheaper', WHERE WHAT IT READS IS OF BULK AT MOST 1048576: true; the input reads as it did. -/
def interestCheaperUptoRow : OpenClaim := { program := "ytcaeaklbglhghaa", sum := "d42b25fdf97f4ec235c8df8e50825b792bef0e44b044bad85fd8152ebc9ba031", func := "arrears/arrearslaw3.InterestCheaper", spec := "interestCheaper", unfollowed := true, recurses := true, named := ["math/bits.divideError", "math/bits.overflowError"], apart := false, narrowed := true }
def InterestCheaperUptoSaid : Prop := interestCheaperUptoRow.holds Try.pinned (OpenSpec.upto interestCheaperSpec)

end Rows
end Go.Proofs.Ytcaeaklbglhghaa
