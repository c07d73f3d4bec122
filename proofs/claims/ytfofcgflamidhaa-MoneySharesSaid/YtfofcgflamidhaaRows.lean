/-
  No cell of these rows narrows 'for every input' (looked for: loops, veiled, ifaces, maps, wideKeys, modest, calm, conditions, laid).
  DERIVED. THE GIVEN ROWS OF THIS SEAT. 8 by the template 'for every input the law returns true; each argument reads behind the call as it read before'; 0 by the template 'total and deterministic' (their statements: YtfofcgflamidhaaTotals.lean).
  GIVEN WITH THE SEED: the statements are not yours to turn. If you find one false, say at which input.
  Laid BY PROGRAM, IN A SANDBOX (cutbox-rows.mjs): the forced cells as the released guide's own fill.sh prints them over the translation e31ab6b99d00d273… (all of the seat's roots in one cut). By AI agents, Wed Nov 11 2026. No macro, syntax, notation, axiom, sorry.
-/
import Derived.Test.YtfofcgflamidhaaChecked
import GoSem.Claim
import GoSem.ClaimJoined
import GoSem.ClaimMapViews
import Derived.JoinedTies
import Derived.KernelRfl
namespace Go.Proofs.Ytfofcgflamidhaa
/- THE CELL 'sum', in the pinned program and in every row, IS THE sha256 OF THE DUMP (.gsa) THAT YtfofcgflamidhaaProg.lean LOADS. Nothing in Lean hashes anything: it is a label: what it is worth is what the hold of that sum in a sandbox is worth. -/
noncomputable def Try.pinned : Pinned := { name := "ytfofcgflamidhaa", sum := "e31ab6b99d00d273a6f4f1bceadfe7437274317bed29ef71c1aa307ef2774954", checked := Try.checked }
namespace Rows
def none {H : Type} : Left H := { results := [], args := [] }

/-- 'arrearslaw1.MoneyTotals': WHATEVER THE INPUT: true; the input reads as it did. -/
def moneyTotalsSpec : ChangeSpec := { name := "moneyTotals", fn := fun _ => fun
  | [d] => { results := [.lit (.bool true)], args := [d] }
  | _ => none }
def moneyTotalsRow : OpenClaim := { program := "ytfofcgflamidhaa", sum := "e31ab6b99d00d273a6f4f1bceadfe7437274317bed29ef71c1aa307ef2774954", func := "arrears/arrearslaw1.MoneyTotals", spec := "moneyTotals", inPlace := ["math/bits.Add64"], apart := false }
def MoneyTotalsSaid : Prop := moneyTotalsRow.holds Try.pinned (OpenSpec.ofChange moneyTotalsSpec)

/-- ITS FALSE NEIGHBOUR: 'it returns false'. Refute it at one input. -/
def moneyTotalsWrong : ChangeSpec := { name := "moneyTotals", fn := fun _ => fun
  | [d] => { results := [.lit (.bool false)], args := [d] }
  | _ => none }
def MoneyTotalsWrongFalsely : Prop := moneyTotalsRow.holds Try.pinned (OpenSpec.ofChange moneyTotalsWrong)

/-- 'arrearslaw1.MoneyOrderless': WHATEVER THE INPUT: true; the input reads as it did. -/
def moneyOrderlessSpec : ChangeSpec := { name := "moneyOrderless", fn := fun _ => fun
  | [d1, d2] => { results := [.lit (.bool true)], args := [d1, d2] }
  | _ => none }
def moneyOrderlessRow : OpenClaim := { program := "ytfofcgflamidhaa", sum := "e31ab6b99d00d273a6f4f1bceadfe7437274317bed29ef71c1aa307ef2774954", func := "arrears/arrearslaw1.MoneyOrderless", spec := "moneyOrderless", inPlace := ["math/bits.Add64"], apart := false }
def MoneyOrderlessSaid : Prop := moneyOrderlessRow.holds Try.pinned (OpenSpec.ofChange moneyOrderlessSpec)

/-- ITS FALSE NEIGHBOUR: 'it returns false'. Refute it at one input. -/
def moneyOrderlessWrong : ChangeSpec := { name := "moneyOrderless", fn := fun _ => fun
  | [d1, d2] => { results := [.lit (.bool false)], args := [d1, d2] }
  | _ => none }
def MoneyOrderlessWrongFalsely : Prop := moneyOrderlessRow.holds Try.pinned (OpenSpec.ofChange moneyOrderlessWrong)

/-- 'arrearslaw1.MoneyNearest': WHATEVER THE INPUT: true; the input reads as it did. -/
def moneyNearestSpec : ChangeSpec := { name := "moneyNearest", fn := fun _ => fun
  | [d1, d2, d3] => { results := [.lit (.bool true)], args := [d1, d2, d3] }
  | _ => none }
def moneyNearestRow : OpenClaim := { program := "ytfofcgflamidhaa", sum := "e31ab6b99d00d273a6f4f1bceadfe7437274317bed29ef71c1aa307ef2774954", func := "arrears/arrearslaw1.MoneyNearest", spec := "moneyNearest", named := ["math/bits.divideError", "math/bits.overflowError"], apart := false }
def MoneyNearestSaid : Prop := moneyNearestRow.holds Try.pinned (OpenSpec.ofChange moneyNearestSpec)

/-- ITS FALSE NEIGHBOUR: 'it returns false'. Refute it at one input. -/
def moneyNearestWrong : ChangeSpec := { name := "moneyNearest", fn := fun _ => fun
  | [d1, d2, d3] => { results := [.lit (.bool false)], args := [d1, d2, d3] }
  | _ => none }
def MoneyNearestWrongFalsely : Prop := moneyNearestRow.holds Try.pinned (OpenSpec.ofChange moneyNearestWrong)

/-- 'arrearslaw1.MoneyRounds': WHATEVER THE INPUT: true; the input reads as it did. -/
def moneyRoundsSpec : ChangeSpec := { name := "moneyRounds", fn := fun _ => fun
  | [d1, d2, d3] => { results := [.lit (.bool true)], args := [d1, d2, d3] }
  | _ => none }
def moneyRoundsRow : OpenClaim := { program := "ytfofcgflamidhaa", sum := "e31ab6b99d00d273a6f4f1bceadfe7437274317bed29ef71c1aa307ef2774954", func := "arrears/arrearslaw1.MoneyRounds", spec := "moneyRounds", named := ["math/bits.divideError", "math/bits.overflowError"], apart := false }
def MoneyRoundsSaid : Prop := moneyRoundsRow.holds Try.pinned (OpenSpec.ofChange moneyRoundsSpec)

/-- ITS FALSE NEIGHBOUR: 'it returns false'. Refute it at one input. -/
def moneyRoundsWrong : ChangeSpec := { name := "moneyRounds", fn := fun _ => fun
  | [d1, d2, d3] => { results := [.lit (.bool false)], args := [d1, d2, d3] }
  | _ => none }
def MoneyRoundsWrongFalsely : Prop := moneyRoundsRow.holds Try.pinned (OpenSpec.ofChange moneyRoundsWrong)

/-- 'arrearslaw1.MoneyFloors': WHATEVER THE INPUT: true; the input reads as it did. -/
def moneyFloorsSpec : ChangeSpec := { name := "moneyFloors", fn := fun _ => fun
  | [d1, d2, d3] => { results := [.lit (.bool true)], args := [d1, d2, d3] }
  | _ => none }
def moneyFloorsRow : OpenClaim := { program := "ytfofcgflamidhaa", sum := "e31ab6b99d00d273a6f4f1bceadfe7437274317bed29ef71c1aa307ef2774954", func := "arrears/arrearslaw1.MoneyFloors", spec := "moneyFloors", named := ["math/bits.divideError", "math/bits.overflowError"], apart := false }
def MoneyFloorsSaid : Prop := moneyFloorsRow.holds Try.pinned (OpenSpec.ofChange moneyFloorsSpec)

/-- ITS FALSE NEIGHBOUR: 'it returns false'. Refute it at one input. -/
def moneyFloorsWrong : ChangeSpec := { name := "moneyFloors", fn := fun _ => fun
  | [d1, d2, d3] => { results := [.lit (.bool false)], args := [d1, d2, d3] }
  | _ => none }
def MoneyFloorsWrongFalsely : Prop := moneyFloorsRow.holds Try.pinned (OpenSpec.ofChange moneyFloorsWrong)

/-- 'arrearslaw1.MoneyFloorRest': WHATEVER THE INPUT: true; the input reads as it did. -/
def moneyFloorRestSpec : ChangeSpec := { name := "moneyFloorRest", fn := fun _ => fun
  | [d1, d2, d3] => { results := [.lit (.bool true)], args := [d1, d2, d3] }
  | _ => none }
def moneyFloorRestRow : OpenClaim := { program := "ytfofcgflamidhaa", sum := "e31ab6b99d00d273a6f4f1bceadfe7437274317bed29ef71c1aa307ef2774954", func := "arrears/arrearslaw1.MoneyFloorRest", spec := "moneyFloorRest", named := ["math/bits.divideError", "math/bits.overflowError"], apart := false }
def MoneyFloorRestSaid : Prop := moneyFloorRestRow.holds Try.pinned (OpenSpec.ofChange moneyFloorRestSpec)

/-- ITS FALSE NEIGHBOUR: 'it returns false'. Refute it at one input. -/
def moneyFloorRestWrong : ChangeSpec := { name := "moneyFloorRest", fn := fun _ => fun
  | [d1, d2, d3] => { results := [.lit (.bool false)], args := [d1, d2, d3] }
  | _ => none }
def MoneyFloorRestWrongFalsely : Prop := moneyFloorRestRow.holds Try.pinned (OpenSpec.ofChange moneyFloorRestWrong)

/-- 'arrearslaw1.MoneySplits': WHATEVER THE INPUT: true; the input reads as it did. -/
def moneySplitsSpec : ChangeSpec := { name := "moneySplits", fn := fun _ => fun
  | [d1, d2] => { results := [.lit (.bool true)], args := [d1, d2] }
  | _ => none }
def moneySplitsRow : OpenClaim := { program := "ytfofcgflamidhaa", sum := "e31ab6b99d00d273a6f4f1bceadfe7437274317bed29ef71c1aa307ef2774954", func := "arrears/arrearslaw1.MoneySplits", spec := "moneySplits", inPlace := ["math/bits.Add64"], named := ["math/bits.divideError", "math/bits.overflowError"], apart := false }
def MoneySplitsSaid : Prop := moneySplitsRow.holds Try.pinned (OpenSpec.ofChange moneySplitsSpec)

/-- ITS FALSE NEIGHBOUR: 'it returns false'. Refute it at one input. -/
def moneySplitsWrong : ChangeSpec := { name := "moneySplits", fn := fun _ => fun
  | [d1, d2] => { results := [.lit (.bool false)], args := [d1, d2] }
  | _ => none }
def MoneySplitsWrongFalsely : Prop := moneySplitsRow.holds Try.pinned (OpenSpec.ofChange moneySplitsWrong)

/-- 'arrearslaw1.MoneyShares': WHATEVER THE INPUT: true; the input reads as it did. -/
def moneySharesSpec : ChangeSpec := { name := "moneyShares", fn := fun _ => fun
  | [d1, d2] => { results := [.lit (.bool true)], args := [d1, d2] }
  | _ => none }
def moneySharesRow : OpenClaim := { program := "ytfofcgflamidhaa", sum := "e31ab6b99d00d273a6f4f1bceadfe7437274317bed29ef71c1aa307ef2774954", func := "arrears/arrearslaw1.MoneyShares", spec := "moneyShares", inPlace := ["math/bits.Add64"], named := ["math/bits.divideError", "math/bits.overflowError"], apart := false }
def MoneySharesSaid : Prop := moneySharesRow.holds Try.pinned (OpenSpec.ofChange moneySharesSpec)

/-- ITS FALSE NEIGHBOUR: 'it returns false'. Refute it at one input. -/
def moneySharesWrong : ChangeSpec := { name := "moneyShares", fn := fun _ => fun
  | [d1, d2] => { results := [.lit (.bool false)], args := [d1, d2] }
  | _ => none }
def MoneySharesWrongFalsely : Prop := moneySharesRow.holds Try.pinned (OpenSpec.ofChange moneySharesWrong)

/- THE SECOND FORM. 'bulk': how many values and letters a reading holds, each counted each time it is reached (what is shared counts as often as it is met; a slice's spare places count too). A statement '..UptoSaid' is the law's where the arguments, and the package variables that the reading takes, are together of bulk at most 1048576: NARROWER than '..Said'. Prove '..Said' where nothing that the law and all that it calls make is longer than what came in: it says more and counts as full. Else prove '..UptoSaid'. A law counts once. -/
mutual
def uptoBulk {H : Type} : DataW H → Nat
  | .lit (.string bytes) => bytes.length + 1
  | .lit _ => 1
  | .nil => 1
  | .ptr d => uptoBulk d + 1
  | .slice elems spare => uptoBulkAll elems + uptoBulkAll spare + 1
  | .agg parts => uptoBulkAll parts + 1
  | .iface _ d => uptoBulk d + 1
  | .map entries => uptoBulkEntries entries + 1
  | .held _ => 1
def uptoBulkAll {H : Type} : List (DataW H) → Nat
  | [] => 0
  | d :: r => uptoBulk d + uptoBulkAll r
def uptoBulkEntries {H : Type} : List (Lit × DataW H) → Nat
  | [] => 0
  | x :: r => uptoBulkEntry x + uptoBulkEntries r
def uptoBulkEntry {H : Type} : Lit × DataW H → Nat
  | (.string bytes, d) => bytes.length + uptoBulk d + 1
  | (_, d) => uptoBulk d + 1
 end
def uptoSmall : (H : Type) → List (DataW H) → Bool := fun _ ds => decide (uptoBulkAll ds ≤ 1048576)
def OpenSpec.upto (s : _root_.Go.ChangeSpec) : _root_.Go.OpenSpec := { _root_.Go.OpenSpec.ofChange s with cond := some uptoSmall }

/-- 'arrearslaw1.MoneyTotals', WHERE WHAT IT READS IS OF BULK AT MOST 1048576: true; the input reads as it did. -/
def moneyTotalsUptoRow : OpenClaim := { program := "ytfofcgflamidhaa", sum := "e31ab6b99d00d273a6f4f1bceadfe7437274317bed29ef71c1aa307ef2774954", func := "arrears/arrearslaw1.MoneyTotals", spec := "moneyTotals", inPlace := ["math/bits.Add64"], apart := false, narrowed := true }
def MoneyTotalsUptoSaid : Prop := moneyTotalsUptoRow.holds Try.pinned (OpenSpec.upto moneyTotalsSpec)

/-- 'arrearslaw1.MoneyOrderless', WHERE WHAT IT READS IS OF BULK AT MOST 1048576: true; the input reads as it did. -/
def moneyOrderlessUptoRow : OpenClaim := { program := "ytfofcgflamidhaa", sum := "e31ab6b99d00d273a6f4f1bceadfe7437274317bed29ef71c1aa307ef2774954", func := "arrears/arrearslaw1.MoneyOrderless", spec := "moneyOrderless", inPlace := ["math/bits.Add64"], apart := false, narrowed := true }
def MoneyOrderlessUptoSaid : Prop := moneyOrderlessUptoRow.holds Try.pinned (OpenSpec.upto moneyOrderlessSpec)

/-- 'arrearslaw1.MoneyNearest', WHERE WHAT IT READS IS OF BULK AT MOST 1048576: true; the input reads as it did. -/
def moneyNearestUptoRow : OpenClaim := { program := "ytfofcgflamidhaa", sum := "e31ab6b99d00d273a6f4f1bceadfe7437274317bed29ef71c1aa307ef2774954", func := "arrears/arrearslaw1.MoneyNearest", spec := "moneyNearest", named := ["math/bits.divideError", "math/bits.overflowError"], apart := false, narrowed := true }
def MoneyNearestUptoSaid : Prop := moneyNearestUptoRow.holds Try.pinned (OpenSpec.upto moneyNearestSpec)

/-- 'arrearslaw1.MoneyRounds', WHERE WHAT IT READS IS OF BULK AT MOST 1048576: true; the input reads as it did. -/
def moneyRoundsUptoRow : OpenClaim := { program := "ytfofcgflamidhaa", sum := "e31ab6b99d00d273a6f4f1bceadfe7437274317bed29ef71c1aa307ef2774954", func := "arrears/arrearslaw1.MoneyRounds", spec := "moneyRounds", named := ["math/bits.divideError", "math/bits.overflowError"], apart := false, narrowed := true }
def MoneyRoundsUptoSaid : Prop := moneyRoundsUptoRow.holds Try.pinned (OpenSpec.upto moneyRoundsSpec)

/-- 'arrearslaw1.MoneyFloors', WHERE WHAT IT READS IS OF BULK AT MOST 1048576: true; the input reads as it did. -/
def moneyFloorsUptoRow : OpenClaim := { program := "ytfofcgflamidhaa", sum := "e31ab6b99d00d273a6f4f1bceadfe7437274317bed29ef71c1aa307ef2774954", func := "arrears/arrearslaw1.MoneyFloors", spec := "moneyFloors", named := ["math/bits.divideError", "math/bits.overflowError"], apart := false, narrowed := true }
def MoneyFloorsUptoSaid : Prop := moneyFloorsUptoRow.holds Try.pinned (OpenSpec.upto moneyFloorsSpec)

/-- 'arrearslaw1.MoneyFloorRest', WHERE WHAT IT READS IS OF BULK AT MOST 1048576: true; the input reads as it did. -/
def moneyFloorRestUptoRow : OpenClaim := { program := "ytfofcgflamidhaa", sum := "e31ab6b99d00d273a6f4f1bceadfe7437274317bed29ef71c1aa307ef2774954", func := "arrears/arrearslaw1.MoneyFloorRest", spec := "moneyFloorRest", named := ["math/bits.divideError", "math/bits.overflowError"], apart := false, narrowed := true }
def MoneyFloorRestUptoSaid : Prop := moneyFloorRestUptoRow.holds Try.pinned (OpenSpec.upto moneyFloorRestSpec)

/-- 'arrearslaw1.MoneySplits', WHERE WHAT IT READS IS OF BULK AT MOST 1048576: true; the input reads as it did. -/
def moneySplitsUptoRow : OpenClaim := { program := "ytfofcgflamidhaa", sum := "e31ab6b99d00d273a6f4f1bceadfe7437274317bed29ef71c1aa307ef2774954", func := "arrears/arrearslaw1.MoneySplits", spec := "moneySplits", inPlace := ["math/bits.Add64"], named := ["math/bits.divideError", "math/bits.overflowError"], apart := false, narrowed := true }
def MoneySplitsUptoSaid : Prop := moneySplitsUptoRow.holds Try.pinned (OpenSpec.upto moneySplitsSpec)

/-- 'arrearslaw1.MoneyShares', WHERE WHAT IT READS IS OF BULK AT MOST 1048576: true; the input reads as it did. -/
def moneySharesUptoRow : OpenClaim := { program := "ytfofcgflamidhaa", sum := "e31ab6b99d00d273a6f4f1bceadfe7437274317bed29ef71c1aa307ef2774954", func := "arrears/arrearslaw1.MoneyShares", spec := "moneyShares", inPlace := ["math/bits.Add64"], named := ["math/bits.divideError", "math/bits.overflowError"], apart := false, narrowed := true }
def MoneySharesUptoSaid : Prop := moneySharesUptoRow.holds Try.pinned (OpenSpec.upto moneySharesSpec)

end Rows
end Go.Proofs.Ytfofcgflamidhaa
