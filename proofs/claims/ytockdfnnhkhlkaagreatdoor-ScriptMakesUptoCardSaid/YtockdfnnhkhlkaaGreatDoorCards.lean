/-
  DERIVED. GIVEN WITH THE SEED: THE CARDS: each row of YtockdfnnhkhlkaaGreatDoorRows.lean that lists a variable, with what it lists TIED to the program's text (the seventh form; the later family's looks); each row that meets fmt, with fmt's text TOLD by the authors' own Lean function (tested against real Go, not proved from fmt's source: count such statements apart). THE CARD IS WHAT COUNTS. Prove the row's statement (the work); the ties are given (YtockdfnnhkhlkaaGreatDoorTie.lean); close each card by the builder's one call (the guide's Derived/Test/ToyasCard.lean, 'card_holds'). Laid BY PROGRAM, IN A SANDBOX (cutbox-door.mjs). By AI agents, Wed Nov 11 2026. No macro, syntax, notation, axiom, sorry.
-/
import Derived.Test.YtockdfnnhkhlkaaGreatDoorRows
import GoSem.ClaimSeven
namespace Go.Proofs.YtockdfnnhkhlkaaGreatDoor
namespace Rows

/-- THE TIED CARD OF 'althinglaw14.ChainOfNothing'. -/
def chainOfNothingCard : Claim7 := { stood := { row := chainOfNothingRow, standIns := [], harness := (true, "ca017903dae1be76a6120c8c46aca48e3904b56abb20938806a391cecf5c85d9"), looks := false }, kinds := [], alts := [], laidByText := true, laidKinds := [.listed, .data], laidTests := true, laidLooks := .later }
def ChainOfNothingCardSaid : Prop := Claim7.holds Tryz.pinned (.plain (OpenSpec.ofChange chainOfNothingSpec)) chainOfNothingCard

/-- THE TIED CARD OF 'althinglaw15.ScriptRows'. -/
def scriptRowsCard : Claim7 := { stood := { row := scriptRowsRow, standIns := [], harness := (true, "ca017903dae1be76a6120c8c46aca48e3904b56abb20938806a391cecf5c85d9"), looks := false }, kinds := [], alts := [], laidByText := true, laidKinds := [.listed, .data], laidTests := true, laidLooks := .later }
def ScriptRowsCardSaid : Prop := Claim7.holds Tryz.pinned (.plain (OpenSpec.ofChange scriptRowsSpec)) scriptRowsCard

/-- THE TIED CARD OF 'althinglaw15.ScriptStops'. -/
def scriptStopsCard : Claim7 := { stood := { row := scriptStopsRow, standIns := [], harness := (true, "ca017903dae1be76a6120c8c46aca48e3904b56abb20938806a391cecf5c85d9"), looks := false }, kinds := [], alts := [], laidByText := true, laidKinds := [.listed, .data], laidTests := true, laidLooks := .later }
def ScriptStopsCardSaid : Prop := Claim7.holds Tryz.pinned (.plain (OpenSpec.ofChange scriptStopsSpec)) scriptStopsCard

/-- THE TIED CARD OF 'althinglaw15.ScriptMakes'. -/
def scriptMakesCard : Claim7 := { stood := { row := scriptMakesRow, standIns := [], harness := (true, "ca017903dae1be76a6120c8c46aca48e3904b56abb20938806a391cecf5c85d9"), looks := false }, kinds := [], alts := [], laidByText := true, laidKinds := [.listed, .data], laidTests := true, laidLooks := .later }
def ScriptMakesCardSaid : Prop := Claim7.holds Tryz.pinned (.plain (OpenSpec.ofChange scriptMakesSpec)) scriptMakesCard

/-- THE TIED CARD OF 'althinglaw15.ScriptBlocks'. -/
def scriptBlocksCard : Claim7 := { stood := { row := scriptBlocksRow, standIns := [], harness := (true, "ca017903dae1be76a6120c8c46aca48e3904b56abb20938806a391cecf5c85d9"), looks := false }, kinds := [], alts := [], laidByText := true, laidKinds := [.listed, .data], laidTests := true, laidLooks := .later }
def ScriptBlocksCardSaid : Prop := Claim7.holds Tryz.pinned (.plain (OpenSpec.ofChange scriptBlocksSpec)) scriptBlocksCard

/-- THE SECOND FORM's CARD OF 'althinglaw14.ChainOfNothing'. -/
def chainOfNothingUptoCard : Claim7 := { stood := { row := chainOfNothingUptoRow, standIns := [], harness := (true, "ca017903dae1be76a6120c8c46aca48e3904b56abb20938806a391cecf5c85d9"), looks := false }, kinds := [], alts := [], laidByText := true, laidKinds := [.listed, .data], laidTests := true, laidLooks := .later }
def ChainOfNothingUptoCardSaid : Prop := Claim7.holds Tryz.pinned (.plain (OpenSpec.upto chainOfNothingSpec)) chainOfNothingUptoCard

/-- THE SECOND FORM's CARD OF 'althinglaw15.ScriptRows'. -/
def scriptRowsUptoCard : Claim7 := { stood := { row := scriptRowsUptoRow, standIns := [], harness := (true, "ca017903dae1be76a6120c8c46aca48e3904b56abb20938806a391cecf5c85d9"), looks := false }, kinds := [], alts := [], laidByText := true, laidKinds := [.listed, .data], laidTests := true, laidLooks := .later }
def ScriptRowsUptoCardSaid : Prop := Claim7.holds Tryz.pinned (.plain (OpenSpec.upto scriptRowsSpec)) scriptRowsUptoCard

/-- THE SECOND FORM's CARD OF 'althinglaw15.ScriptStops'. -/
def scriptStopsUptoCard : Claim7 := { stood := { row := scriptStopsUptoRow, standIns := [], harness := (true, "ca017903dae1be76a6120c8c46aca48e3904b56abb20938806a391cecf5c85d9"), looks := false }, kinds := [], alts := [], laidByText := true, laidKinds := [.listed, .data], laidTests := true, laidLooks := .later }
def ScriptStopsUptoCardSaid : Prop := Claim7.holds Tryz.pinned (.plain (OpenSpec.upto scriptStopsSpec)) scriptStopsUptoCard

/-- THE SECOND FORM's CARD OF 'althinglaw15.ScriptMakes'. -/
def scriptMakesUptoCard : Claim7 := { stood := { row := scriptMakesUptoRow, standIns := [], harness := (true, "ca017903dae1be76a6120c8c46aca48e3904b56abb20938806a391cecf5c85d9"), looks := false }, kinds := [], alts := [], laidByText := true, laidKinds := [.listed, .data], laidTests := true, laidLooks := .later }
def ScriptMakesUptoCardSaid : Prop := Claim7.holds Tryz.pinned (.plain (OpenSpec.upto scriptMakesSpec)) scriptMakesUptoCard

/-- THE SECOND FORM's CARD OF 'althinglaw15.ScriptBlocks'. -/
def scriptBlocksUptoCard : Claim7 := { stood := { row := scriptBlocksUptoRow, standIns := [], harness := (true, "ca017903dae1be76a6120c8c46aca48e3904b56abb20938806a391cecf5c85d9"), looks := false }, kinds := [], alts := [], laidByText := true, laidKinds := [.listed, .data], laidTests := true, laidLooks := .later }
def ScriptBlocksUptoCardSaid : Prop := Claim7.holds Tryz.pinned (.plain (OpenSpec.upto scriptBlocksSpec)) scriptBlocksUptoCard
end Rows
end Go.Proofs.YtockdfnnhkhlkaaGreatDoor
