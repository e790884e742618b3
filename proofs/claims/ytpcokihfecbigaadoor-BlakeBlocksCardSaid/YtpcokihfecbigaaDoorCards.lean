/-
  DERIVED. GIVEN WITH THE SEED: THE CARDS: each row of YtpcokihfecbigaaDoorRows.lean that lists a variable, with what it lists TIED to the program's text (the seventh form; the later family's looks); each row that meets fmt, with fmt's text TOLD by the authors' own Lean function (tested against real Go, not proved from fmt's source: count such statements apart). THE CARD IS WHAT COUNTS. Prove the row's statement (the work); the ties are given (YtpcokihfecbigaaDoorTie.lean); close each card by the builder's one call (the guide's Derived/Test/ToyasCard.lean, 'card_holds'). Laid BY PROGRAM, IN A SANDBOX (cutbox-door.mjs). By AI agents, Wed Nov 11 2026. No macro, syntax, notation, axiom, sorry.
-/
import Derived.Test.YtpcokihfecbigaaDoorRows
import GoSem.ClaimSeven
namespace Go.Proofs.YtpcokihfecbigaaDoor
namespace Rows

/-- THE TIED CARD OF 'althinglaw2.BlakeTells'. -/
def blakeTellsCard : Claim7 := { stood := { row := blakeTellsRow, standIns := [], harness := (true, "03724181d54186f410bc65e8d38e1c8b02862d05347ad8a7a5f13c3a8643d6a9"), looks := false }, kinds := [], alts := [], laidByText := true, laidKinds := [.listed, .data], laidTests := true, laidLooks := .later }
def BlakeTellsCardSaid : Prop := Claim7.holds Tryd.pinned (.plain (OpenSpec.ofChange blakeTellsSpec)) blakeTellsCard

/-- THE TIED CARD OF 'althinglaw2.BlakeRows'. -/
def blakeRowsCard : Claim7 := { stood := { row := blakeRowsRow, standIns := [], harness := (true, "03724181d54186f410bc65e8d38e1c8b02862d05347ad8a7a5f13c3a8643d6a9"), looks := false }, kinds := [], alts := [], laidByText := true, laidKinds := [.listed, .data], laidTests := true, laidLooks := .later }
def BlakeRowsCardSaid : Prop := Claim7.holds Tryd.pinned (.plain (OpenSpec.ofChange blakeRowsSpec)) blakeRowsCard

/-- THE TIED CARD OF 'althinglaw2.BlakeBlocks'. -/
def blakeBlocksCard : Claim7 := { stood := { row := blakeBlocksRow, standIns := [], harness := (true, "03724181d54186f410bc65e8d38e1c8b02862d05347ad8a7a5f13c3a8643d6a9"), looks := false }, kinds := [], alts := [], laidByText := true, laidKinds := [.listed, .data], laidTests := true, laidLooks := .later }
def BlakeBlocksCardSaid : Prop := Claim7.holds Tryd.pinned (.plain (OpenSpec.ofChange blakeBlocksSpec)) blakeBlocksCard

/-- THE TIED CARD OF 'althinglaw2.BlakeKeys'. -/
def blakeKeysCard : Claim7 := { stood := { row := blakeKeysRow, standIns := [], harness := (true, "03724181d54186f410bc65e8d38e1c8b02862d05347ad8a7a5f13c3a8643d6a9"), looks := false }, kinds := [], alts := [], laidByText := true, laidKinds := [.listed, .data], laidTests := true, laidLooks := .later }
def BlakeKeysCardSaid : Prop := Claim7.holds Tryd.pinned (.plain (OpenSpec.ofChange blakeKeysSpec)) blakeKeysCard

/-- THE TIED CARD OF 'althinglaw2.BlakeHex'. -/
def blakeHexCard : Claim7 := { stood := { row := blakeHexRow, standIns := [], harness := (true, "03724181d54186f410bc65e8d38e1c8b02862d05347ad8a7a5f13c3a8643d6a9"), looks := false }, kinds := [], alts := [], laidByText := true, laidKinds := [.listed, .data], laidTests := true, laidLooks := .later }
def BlakeHexCardSaid : Prop := Claim7.holds Tryd.pinned (.plain (OpenSpec.ofChange blakeHexSpec)) blakeHexCard

/-- THE TIED CARD OF 'althinglaw2.BlakeOwn'. -/
def blakeOwnCard : Claim7 := { stood := { row := blakeOwnRow, standIns := [], harness := (true, "03724181d54186f410bc65e8d38e1c8b02862d05347ad8a7a5f13c3a8643d6a9"), looks := false }, kinds := [], alts := [], laidByText := true, laidKinds := [.listed, .data], laidTests := true, laidLooks := .later }
def BlakeOwnCardSaid : Prop := Claim7.holds Tryd.pinned (.plain (OpenSpec.ofChange blakeOwnSpec)) blakeOwnCard

/-- THE SECOND FORM's CARD OF 'althinglaw2.BlakeTells'. -/
def blakeTellsUptoCard : Claim7 := { stood := { row := blakeTellsUptoRow, standIns := [], harness := (true, "03724181d54186f410bc65e8d38e1c8b02862d05347ad8a7a5f13c3a8643d6a9"), looks := false }, kinds := [], alts := [], laidByText := true, laidKinds := [.listed, .data], laidTests := true, laidLooks := .later }
def BlakeTellsUptoCardSaid : Prop := Claim7.holds Tryd.pinned (.plain (OpenSpec.upto blakeTellsSpec)) blakeTellsUptoCard

/-- THE SECOND FORM's CARD OF 'althinglaw2.BlakeRows'. -/
def blakeRowsUptoCard : Claim7 := { stood := { row := blakeRowsUptoRow, standIns := [], harness := (true, "03724181d54186f410bc65e8d38e1c8b02862d05347ad8a7a5f13c3a8643d6a9"), looks := false }, kinds := [], alts := [], laidByText := true, laidKinds := [.listed, .data], laidTests := true, laidLooks := .later }
def BlakeRowsUptoCardSaid : Prop := Claim7.holds Tryd.pinned (.plain (OpenSpec.upto blakeRowsSpec)) blakeRowsUptoCard

/-- THE SECOND FORM's CARD OF 'althinglaw2.BlakeBlocks'. -/
def blakeBlocksUptoCard : Claim7 := { stood := { row := blakeBlocksUptoRow, standIns := [], harness := (true, "03724181d54186f410bc65e8d38e1c8b02862d05347ad8a7a5f13c3a8643d6a9"), looks := false }, kinds := [], alts := [], laidByText := true, laidKinds := [.listed, .data], laidTests := true, laidLooks := .later }
def BlakeBlocksUptoCardSaid : Prop := Claim7.holds Tryd.pinned (.plain (OpenSpec.upto blakeBlocksSpec)) blakeBlocksUptoCard

/-- THE SECOND FORM's CARD OF 'althinglaw2.BlakeKeys'. -/
def blakeKeysUptoCard : Claim7 := { stood := { row := blakeKeysUptoRow, standIns := [], harness := (true, "03724181d54186f410bc65e8d38e1c8b02862d05347ad8a7a5f13c3a8643d6a9"), looks := false }, kinds := [], alts := [], laidByText := true, laidKinds := [.listed, .data], laidTests := true, laidLooks := .later }
def BlakeKeysUptoCardSaid : Prop := Claim7.holds Tryd.pinned (.plain (OpenSpec.upto blakeKeysSpec)) blakeKeysUptoCard

/-- THE SECOND FORM's CARD OF 'althinglaw2.BlakeHex'. -/
def blakeHexUptoCard : Claim7 := { stood := { row := blakeHexUptoRow, standIns := [], harness := (true, "03724181d54186f410bc65e8d38e1c8b02862d05347ad8a7a5f13c3a8643d6a9"), looks := false }, kinds := [], alts := [], laidByText := true, laidKinds := [.listed, .data], laidTests := true, laidLooks := .later }
def BlakeHexUptoCardSaid : Prop := Claim7.holds Tryd.pinned (.plain (OpenSpec.upto blakeHexSpec)) blakeHexUptoCard

/-- THE SECOND FORM's CARD OF 'althinglaw2.BlakeOwn'. -/
def blakeOwnUptoCard : Claim7 := { stood := { row := blakeOwnUptoRow, standIns := [], harness := (true, "03724181d54186f410bc65e8d38e1c8b02862d05347ad8a7a5f13c3a8643d6a9"), looks := false }, kinds := [], alts := [], laidByText := true, laidKinds := [.listed, .data], laidTests := true, laidLooks := .later }
def BlakeOwnUptoCardSaid : Prop := Claim7.holds Tryd.pinned (.plain (OpenSpec.upto blakeOwnSpec)) blakeOwnUptoCard
end Rows
end Go.Proofs.YtpcokihfecbigaaDoor
