/-
  DERIVED. GIVEN WITH THE SEED: THE CARDS: each row of YtjhodgcjkobpoaaDoorRows.lean that lists a variable, with what it lists TIED to the program's text (the seventh form; the later family's looks); each row that meets fmt, with fmt's text TOLD by the authors' own Lean function (tested against real Go, not proved from fmt's source: count such statements apart). THE CARD IS WHAT COUNTS. Prove the row's statement (the work); the ties are given (YtjhodgcjkobpoaaDoorTie.lean); close each card by the builder's one call (the guide's Derived/Test/ToyasCard.lean, 'card_holds'). Laid BY PROGRAM, IN A SANDBOX (cutbox-door.mjs). By AI agents, Wed Nov 11 2026. No macro, syntax, notation, axiom, sorry.
-/
import Derived.Test.YtjhodgcjkobpoaaDoorRows
import GoSem.ClaimSeven
namespace Go.Proofs.YtjhodgcjkobpoaaDoor
namespace Rows

/-- THE TIED CARD OF 'arrearslaw18.ScriptFormats'. -/
def scriptFormatsCard : Claim7 := { stood := { row := scriptFormatsRow, standIns := [], harness := (true, "683341f351c859bbf6b5bf4836f9c6536aa9ee899910ba7bb69e27f615b74898"), looks := true }, kinds := [], alts := [], laidByText := true, laidKinds := [.data, .data, .data, .data, .data], laidTests := true, laidLooks := .later }
def ScriptFormatsCardSaid : Prop := Claim7.holds Tryd.pinned (.plain (OpenSpec.ofChange scriptFormatsSpec)) scriptFormatsCard

/-- THE TIED CARD OF 'arrearslaw18.ScriptAmounts'. -/
def scriptAmountsCard : Claim7 := { stood := { row := scriptAmountsRow, standIns := [], harness := (true, "683341f351c859bbf6b5bf4836f9c6536aa9ee899910ba7bb69e27f615b74898"), looks := true }, kinds := [], alts := [], laidByText := true, laidKinds := [.data, .data, .data, .data, .handle, .data, .data, .pinned], laidTests := true, laidLooks := .later }
def ScriptAmountsCardSaid : Prop := Claim7.holds Tryd.pinned (.plain (OpenSpec.ofChange scriptAmountsSpec)) scriptAmountsCard

/-- THE TIED CARD OF 'arrearslaw18.ScriptGivesBack'. -/
def scriptGivesBackCard : Claim7 := { stood := { row := scriptGivesBackRow, standIns := [], harness := (true, "683341f351c859bbf6b5bf4836f9c6536aa9ee899910ba7bb69e27f615b74898"), looks := true }, kinds := [], alts := [], laidByText := true, laidKinds := [.data, .data, .data, .data, .handle, .data, .data, .pinned], laidTests := true, laidLooks := .later }
def ScriptGivesBackCardSaid : Prop := Claim7.holds Tryd.pinned (.plain (OpenSpec.ofChange scriptGivesBackSpec)) scriptGivesBackCard

/-- THE TIED CARD OF 'arrearslaw18.ScriptOneForm'. -/
def scriptOneFormCard : Claim7 := { stood := { row := scriptOneFormRow, standIns := [], harness := (true, "683341f351c859bbf6b5bf4836f9c6536aa9ee899910ba7bb69e27f615b74898"), looks := true }, kinds := [], alts := [], laidByText := true, laidKinds := [.data, .data, .data, .data, .handle, .data, .data, .pinned], laidTests := true, laidLooks := .later }
def ScriptOneFormCardSaid : Prop := Claim7.holds Tryd.pinned (.plain (OpenSpec.ofChange scriptOneFormSpec)) scriptOneFormCard

/-- THE SECOND FORM's CARD OF 'arrearslaw18.ScriptFormats'. -/
def scriptFormatsUptoCard : Claim7 := { stood := { row := scriptFormatsUptoRow, standIns := [], harness := (true, "683341f351c859bbf6b5bf4836f9c6536aa9ee899910ba7bb69e27f615b74898"), looks := true }, kinds := [], alts := [], laidByText := true, laidKinds := [.data, .data, .data, .data, .data], laidTests := true, laidLooks := .later }
def ScriptFormatsUptoCardSaid : Prop := Claim7.holds Tryd.pinned (.plain (OpenSpec.upto scriptFormatsSpec)) scriptFormatsUptoCard

/-- THE SECOND FORM's CARD OF 'arrearslaw18.ScriptAmounts'. -/
def scriptAmountsUptoCard : Claim7 := { stood := { row := scriptAmountsUptoRow, standIns := [], harness := (true, "683341f351c859bbf6b5bf4836f9c6536aa9ee899910ba7bb69e27f615b74898"), looks := true }, kinds := [], alts := [], laidByText := true, laidKinds := [.data, .data, .data, .data, .handle, .data, .data, .pinned], laidTests := true, laidLooks := .later }
def ScriptAmountsUptoCardSaid : Prop := Claim7.holds Tryd.pinned (.plain (OpenSpec.upto scriptAmountsSpec)) scriptAmountsUptoCard

/-- THE SECOND FORM's CARD OF 'arrearslaw18.ScriptGivesBack'. -/
def scriptGivesBackUptoCard : Claim7 := { stood := { row := scriptGivesBackUptoRow, standIns := [], harness := (true, "683341f351c859bbf6b5bf4836f9c6536aa9ee899910ba7bb69e27f615b74898"), looks := true }, kinds := [], alts := [], laidByText := true, laidKinds := [.data, .data, .data, .data, .handle, .data, .data, .pinned], laidTests := true, laidLooks := .later }
def ScriptGivesBackUptoCardSaid : Prop := Claim7.holds Tryd.pinned (.plain (OpenSpec.upto scriptGivesBackSpec)) scriptGivesBackUptoCard

/-- THE SECOND FORM's CARD OF 'arrearslaw18.ScriptOneForm'. -/
def scriptOneFormUptoCard : Claim7 := { stood := { row := scriptOneFormUptoRow, standIns := [], harness := (true, "683341f351c859bbf6b5bf4836f9c6536aa9ee899910ba7bb69e27f615b74898"), looks := true }, kinds := [], alts := [], laidByText := true, laidKinds := [.data, .data, .data, .data, .handle, .data, .data, .pinned], laidTests := true, laidLooks := .later }
def ScriptOneFormUptoCardSaid : Prop := Claim7.holds Tryd.pinned (.plain (OpenSpec.upto scriptOneFormSpec)) scriptOneFormUptoCard
end Rows
end Go.Proofs.YtjhodgcjkobpoaaDoor
