/-
  DERIVED. GIVEN WITH THE SEED: THE CARDS: each row of YtkbbngkfncbgkaaDoorRows.lean that lists a variable, with what it lists TIED to the program's text (the seventh form; the later family's looks); each row that meets fmt, with fmt's text TOLD by the authors' own Lean function (tested against real Go, not proved from fmt's source: count such statements apart). THE CARD IS WHAT COUNTS. Prove the row's statement (the work); the ties are given (YtkbbngkfncbgkaaDoorTie.lean); close each card by the builder's one call (the guide's Derived/Test/ToyasCard.lean, 'card_holds'). Laid BY PROGRAM, IN A SANDBOX (cutbox-door.mjs). By AI agents, Wed Nov 11 2026. No macro, syntax, notation, axiom, sorry.
-/
import Derived.Test.YtkbbngkfncbgkaaDoorRows
import GoSem.ClaimSeven
namespace Go.Proofs.YtkbbngkfncbgkaaDoor
namespace Rows

/-- THE TIED CARD OF 'arrearslaw11.TimerqPuts'. -/
def timerqPutsCard : Claim7 := { stood := { row := timerqPutsRow, standIns := [], harness := (true, "c942c5782e666fc434dc346633dda202d39fd5ea44285a03e90138335dd0b27b"), looks := false }, kinds := [], alts := [], laidByText := true, laidKinds := [.data, .data, .data], laidTests := true, laidLooks := .later }
def TimerqPutsCardSaid : Prop := Claim7.holds Tryd.pinned (.plain (OpenSpec.ofChange timerqPutsSpec)) timerqPutsCard

/-- THE TIED CARD OF 'arrearslaw11.TimerqMoves'. -/
def timerqMovesCard : Claim7 := { stood := { row := timerqMovesRow, standIns := [], harness := (true, "c942c5782e666fc434dc346633dda202d39fd5ea44285a03e90138335dd0b27b"), looks := false }, kinds := [], alts := [], laidByText := true, laidKinds := [.data, .data, .data], laidTests := true, laidLooks := .later }
def TimerqMovesCardSaid : Prop := Claim7.holds Tryd.pinned (.plain (OpenSpec.ofChange timerqMovesSpec)) timerqMovesCard

/-- THE TIED CARD OF 'arrearslaw11.TimerqPops'. -/
def timerqPopsCard : Claim7 := { stood := { row := timerqPopsRow, standIns := [], harness := (true, "c942c5782e666fc434dc346633dda202d39fd5ea44285a03e90138335dd0b27b"), looks := false }, kinds := [], alts := [], laidByText := true, laidKinds := [.data, .data, .data], laidTests := true, laidLooks := .later }
def TimerqPopsCardSaid : Prop := Claim7.holds Tryd.pinned (.plain (OpenSpec.ofChange timerqPopsSpec)) timerqPopsCard

/-- THE TIED CARD OF 'arrearslaw11.TimerqExact'. -/
def timerqExactCard : Claim7 := { stood := { row := timerqExactRow, standIns := [], harness := (true, "c942c5782e666fc434dc346633dda202d39fd5ea44285a03e90138335dd0b27b"), looks := false }, kinds := [], alts := [], laidByText := true, laidKinds := [.data, .data, .data], laidTests := true, laidLooks := .later }
def TimerqExactCardSaid : Prop := Claim7.holds Tryd.pinned (.plain (OpenSpec.ofChange timerqExactSpec)) timerqExactCard

/-- THE SECOND FORM's CARD OF 'arrearslaw11.TimerqPuts'. -/
def timerqPutsUptoCard : Claim7 := { stood := { row := timerqPutsUptoRow, standIns := [], harness := (true, "c942c5782e666fc434dc346633dda202d39fd5ea44285a03e90138335dd0b27b"), looks := false }, kinds := [], alts := [], laidByText := true, laidKinds := [.data, .data, .data], laidTests := true, laidLooks := .later }
def TimerqPutsUptoCardSaid : Prop := Claim7.holds Tryd.pinned (.plain (OpenSpec.upto timerqPutsSpec)) timerqPutsUptoCard

/-- THE SECOND FORM's CARD OF 'arrearslaw11.TimerqMoves'. -/
def timerqMovesUptoCard : Claim7 := { stood := { row := timerqMovesUptoRow, standIns := [], harness := (true, "c942c5782e666fc434dc346633dda202d39fd5ea44285a03e90138335dd0b27b"), looks := false }, kinds := [], alts := [], laidByText := true, laidKinds := [.data, .data, .data], laidTests := true, laidLooks := .later }
def TimerqMovesUptoCardSaid : Prop := Claim7.holds Tryd.pinned (.plain (OpenSpec.upto timerqMovesSpec)) timerqMovesUptoCard

/-- THE SECOND FORM's CARD OF 'arrearslaw11.TimerqPops'. -/
def timerqPopsUptoCard : Claim7 := { stood := { row := timerqPopsUptoRow, standIns := [], harness := (true, "c942c5782e666fc434dc346633dda202d39fd5ea44285a03e90138335dd0b27b"), looks := false }, kinds := [], alts := [], laidByText := true, laidKinds := [.data, .data, .data], laidTests := true, laidLooks := .later }
def TimerqPopsUptoCardSaid : Prop := Claim7.holds Tryd.pinned (.plain (OpenSpec.upto timerqPopsSpec)) timerqPopsUptoCard

/-- THE SECOND FORM's CARD OF 'arrearslaw11.TimerqExact'. -/
def timerqExactUptoCard : Claim7 := { stood := { row := timerqExactUptoRow, standIns := [], harness := (true, "c942c5782e666fc434dc346633dda202d39fd5ea44285a03e90138335dd0b27b"), looks := false }, kinds := [], alts := [], laidByText := true, laidKinds := [.data, .data, .data], laidTests := true, laidLooks := .later }
def TimerqExactUptoCardSaid : Prop := Claim7.holds Tryd.pinned (.plain (OpenSpec.upto timerqExactSpec)) timerqExactUptoCard
end Rows
end Go.Proofs.YtkbbngkfncbgkaaDoor
