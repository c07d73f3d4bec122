/-
  DERIVED. GIVEN WITH THE SEED: THE CARDS: each row of YtpglakfafanhoaaDoorRows.lean that lists a variable, with what it lists TIED to the program's text (the seventh form; the later family's looks); each row that meets fmt, with fmt's text TOLD by the authors' own Lean function (tested against real Go, not proved from fmt's source: count such statements apart). THE CARD IS WHAT COUNTS. Prove the row's statement (the work); the ties are given (YtpglakfafanhoaaDoorTie.lean); close each card by the builder's one call (the guide's Derived/Test/ToyasCard.lean, 'card_holds'). Laid BY PROGRAM, IN A SANDBOX (cutbox-door.mjs). By AI agents, Wed Nov 11 2026. No macro, syntax, notation, axiom, sorry.
-/
import Derived.Test.YtpglakfafanhoaaDoorRows
import GoSem.ClaimSeven
namespace Go.Proofs.YtpglakfafanhoaaDoor
namespace Rows

/-- THE TIED CARD OF 'arrearslaw18.ScriptShows'. -/
def scriptShowsCard : Claim7 := { stood := { row := scriptShowsRow, standIns := [], harness := (true, "afd034b9590f93b38b5e37c877ec3f50746465f1a06ae413ae8a019f11eb20aa"), looks := false }, kinds := [], alts := [], laidByText := true, laidKinds := [.data, .data, .data], laidTests := true, laidLooks := .later }
def ScriptShowsCardSaid : Prop := Claim7.holds Tryd.pinned (.plain (OpenSpec.ofChange scriptShowsSpec)) scriptShowsCard

/-- THE TIED CARD OF 'arrearslaw18.ScriptReadsBack'. -/
def scriptReadsBackCard : Claim7 := { stood := { row := scriptReadsBackRow, standIns := [], harness := (true, "afd034b9590f93b38b5e37c877ec3f50746465f1a06ae413ae8a019f11eb20aa"), looks := false }, kinds := [], alts := [], laidByText := true, laidKinds := [.data, .data, .data], laidTests := true, laidLooks := .later }
def ScriptReadsBackCardSaid : Prop := Claim7.holds Tryd.pinned (.plain (OpenSpec.ofChange scriptReadsBackSpec)) scriptReadsBackCard

/-- THE SECOND FORM's CARD OF 'arrearslaw18.ScriptShows'. -/
def scriptShowsUptoCard : Claim7 := { stood := { row := scriptShowsUptoRow, standIns := [], harness := (true, "afd034b9590f93b38b5e37c877ec3f50746465f1a06ae413ae8a019f11eb20aa"), looks := false }, kinds := [], alts := [], laidByText := true, laidKinds := [.data, .data, .data], laidTests := true, laidLooks := .later }
def ScriptShowsUptoCardSaid : Prop := Claim7.holds Tryd.pinned (.plain (OpenSpec.upto scriptShowsSpec)) scriptShowsUptoCard

/-- THE SECOND FORM's CARD OF 'arrearslaw18.ScriptReadsBack'. -/
def scriptReadsBackUptoCard : Claim7 := { stood := { row := scriptReadsBackUptoRow, standIns := [], harness := (true, "afd034b9590f93b38b5e37c877ec3f50746465f1a06ae413ae8a019f11eb20aa"), looks := false }, kinds := [], alts := [], laidByText := true, laidKinds := [.data, .data, .data], laidTests := true, laidLooks := .later }
def ScriptReadsBackUptoCardSaid : Prop := Claim7.holds Tryd.pinned (.plain (OpenSpec.upto scriptReadsBackSpec)) scriptReadsBackUptoCard
end Rows
end Go.Proofs.YtpglakfafanhoaaDoor
