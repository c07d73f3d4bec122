/-
  DERIVED. GIVEN WITH THE SEED: THE CARDS: each row of YtfofcgflamidhaaDoorRows.lean that lists a variable, with what it lists TIED to the program's text (the seventh form; the later family's looks); each row that meets fmt, with fmt's text TOLD by the authors' own Lean function (tested against real Go, not proved from fmt's source: count such statements apart). THE CARD IS WHAT COUNTS. Prove the row's statement (the work); the ties are given (YtfofcgflamidhaaDoorTie.lean); close each card by the builder's one call (the guide's Derived/Test/ToyasCard.lean, 'card_holds'). Laid BY PROGRAM, IN A SANDBOX (cutbox-door.mjs). By AI agents, Wed Nov 11 2026. No macro, syntax, notation, axiom, sorry.
-/
import Derived.Test.YtfofcgflamidhaaDoorRows
import GoSem.ClaimSeven
namespace Go.Proofs.YtfofcgflamidhaaDoor
namespace Rows

/-- THE TIED CARD OF 'arrearslaw1.MoneyRoundTrip'. -/
def moneyRoundTripCard : Claim7 := { stood := { row := moneyRoundTripRow, standIns := [], harness := (true, "3ee96a176a50bf64755dbd901325874d6d4361a5e301a4378658caf7ab7ef0b3"), looks := false }, kinds := [], alts := [], laidByText := true, laidKinds := [.data, .data, .data], laidTests := true, laidLooks := .later }
def MoneyRoundTripCardSaid : Prop := Claim7.holds Tryd.pinned (.plain (OpenSpec.ofChange moneyRoundTripSpec)) moneyRoundTripCard

/-- THE TIED CARD OF 'arrearslaw1.MoneyExact'. -/
def moneyExactCard : Claim7 := { stood := { row := moneyExactRow, standIns := [], harness := (true, "3ee96a176a50bf64755dbd901325874d6d4361a5e301a4378658caf7ab7ef0b3"), looks := false }, kinds := [], alts := [], laidByText := true, laidKinds := [.data, .data, .data], laidTests := true, laidLooks := .later }
def MoneyExactCardSaid : Prop := Claim7.holds Tryd.pinned (.plain (OpenSpec.ofChange moneyExactSpec)) moneyExactCard

/-- THE SECOND FORM's CARD OF 'arrearslaw1.MoneyRoundTrip'. -/
def moneyRoundTripUptoCard : Claim7 := { stood := { row := moneyRoundTripUptoRow, standIns := [], harness := (true, "3ee96a176a50bf64755dbd901325874d6d4361a5e301a4378658caf7ab7ef0b3"), looks := false }, kinds := [], alts := [], laidByText := true, laidKinds := [.data, .data, .data], laidTests := true, laidLooks := .later }
def MoneyRoundTripUptoCardSaid : Prop := Claim7.holds Tryd.pinned (.plain (OpenSpec.upto moneyRoundTripSpec)) moneyRoundTripUptoCard

/-- THE SECOND FORM's CARD OF 'arrearslaw1.MoneyExact'. -/
def moneyExactUptoCard : Claim7 := { stood := { row := moneyExactUptoRow, standIns := [], harness := (true, "3ee96a176a50bf64755dbd901325874d6d4361a5e301a4378658caf7ab7ef0b3"), looks := false }, kinds := [], alts := [], laidByText := true, laidKinds := [.data, .data, .data], laidTests := true, laidLooks := .later }
def MoneyExactUptoCardSaid : Prop := Claim7.holds Tryd.pinned (.plain (OpenSpec.upto moneyExactSpec)) moneyExactUptoCard
end Rows
end Go.Proofs.YtfofcgflamidhaaDoor
