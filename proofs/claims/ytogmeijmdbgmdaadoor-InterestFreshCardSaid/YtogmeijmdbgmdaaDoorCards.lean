/-
  DERIVED. GIVEN WITH THE SEED: THE CARDS: each row of YtogmeijmdbgmdaaDoorRows.lean that lists a variable, with what it lists TIED to the program's text (the seventh form; the later family's looks); each row that meets fmt, with fmt's text TOLD by the authors' own Lean function (tested against real Go, not proved from fmt's source: count such statements apart). THE CARD IS WHAT COUNTS. Prove the row's statement (the work); the ties are given (YtogmeijmdbgmdaaDoorTie.lean); close each card by the builder's one call (the guide's Derived/Test/ToyasCard.lean, 'card_holds'). Laid BY PROGRAM, IN A SANDBOX (cutbox-door.mjs). By AI agents, Wed Nov 11 2026. No macro, syntax, notation, axiom, sorry.
-/
import Derived.Test.YtogmeijmdbgmdaaDoorRows
import GoSem.ClaimSeven
namespace Go.Proofs.YtogmeijmdbgmdaaDoor
namespace Rows

/-- THE TIED CARD OF 'arrearslaw3.InterestPlans'. -/
def interestPlansCard : Claim7 := { stood := { row := interestPlansRow, standIns := [], harness := (true, "59225eccd50af926e99cd355febe66e0e11319d96a2aeb0344c870146c7ae1e7"), looks := false }, kinds := [], alts := [], laidByText := true, laidKinds := [.data], laidTests := true, laidLooks := .later }
def InterestPlansCardSaid : Prop := Claim7.holds Tryd.pinned (.plain (OpenSpec.ofChange interestPlansSpec)) interestPlansCard

/-- THE TIED CARD OF 'arrearslaw3.InterestAmortizes'. -/
def interestAmortizesCard : Claim7 := { stood := { row := interestAmortizesRow, standIns := [], harness := (true, "59225eccd50af926e99cd355febe66e0e11319d96a2aeb0344c870146c7ae1e7"), looks := false }, kinds := [], alts := [], laidByText := true, laidKinds := [.data], laidTests := true, laidLooks := .later }
def InterestAmortizesCardSaid : Prop := Claim7.holds Tryd.pinned (.plain (OpenSpec.ofChange interestAmortizesSpec)) interestAmortizesCard

/-- THE TIED CARD OF 'arrearslaw3.InterestFresh'. -/
def interestFreshCard : Claim7 := { stood := { row := interestFreshRow, standIns := [], harness := (true, "59225eccd50af926e99cd355febe66e0e11319d96a2aeb0344c870146c7ae1e7"), looks := false }, kinds := [], alts := [], laidByText := true, laidKinds := [.data], laidTests := true, laidLooks := .later }
def InterestFreshCardSaid : Prop := Claim7.holds Tryd.pinned (.plain (OpenSpec.ofChange interestFreshSpec)) interestFreshCard

/-- THE SECOND FORM's CARD OF 'arrearslaw3.InterestPlans'. -/
def interestPlansUptoCard : Claim7 := { stood := { row := interestPlansUptoRow, standIns := [], harness := (true, "59225eccd50af926e99cd355febe66e0e11319d96a2aeb0344c870146c7ae1e7"), looks := false }, kinds := [], alts := [], laidByText := true, laidKinds := [.data], laidTests := true, laidLooks := .later }
def InterestPlansUptoCardSaid : Prop := Claim7.holds Tryd.pinned (.plain (OpenSpec.upto interestPlansSpec)) interestPlansUptoCard

/-- THE SECOND FORM's CARD OF 'arrearslaw3.InterestAmortizes'. -/
def interestAmortizesUptoCard : Claim7 := { stood := { row := interestAmortizesUptoRow, standIns := [], harness := (true, "59225eccd50af926e99cd355febe66e0e11319d96a2aeb0344c870146c7ae1e7"), looks := false }, kinds := [], alts := [], laidByText := true, laidKinds := [.data], laidTests := true, laidLooks := .later }
def InterestAmortizesUptoCardSaid : Prop := Claim7.holds Tryd.pinned (.plain (OpenSpec.upto interestAmortizesSpec)) interestAmortizesUptoCard

/-- THE SECOND FORM's CARD OF 'arrearslaw3.InterestFresh'. -/
def interestFreshUptoCard : Claim7 := { stood := { row := interestFreshUptoRow, standIns := [], harness := (true, "59225eccd50af926e99cd355febe66e0e11319d96a2aeb0344c870146c7ae1e7"), looks := false }, kinds := [], alts := [], laidByText := true, laidKinds := [.data], laidTests := true, laidLooks := .later }
def InterestFreshUptoCardSaid : Prop := Claim7.holds Tryd.pinned (.plain (OpenSpec.upto interestFreshSpec)) interestFreshUptoCard
end Rows
end Go.Proofs.YtogmeijmdbgmdaaDoor
