/-
  DERIVED. GIVEN WITH THE SEED: THE CARDS: each row of YtilckocpgififaaDoorRows.lean that lists a variable, with what it lists TIED to the program's text (the seventh form; the later family's looks); each row that meets fmt, with fmt's text TOLD by the authors' own Lean function (tested against real Go, not proved from fmt's source: count such statements apart). THE CARD IS WHAT COUNTS. Prove the row's statement (the work); the ties are given (YtilckocpgififaaDoorTie.lean); close each card by the builder's one call (the guide's Derived/Test/ToyasCard.lean, 'card_holds'). Laid BY PROGRAM, IN A SANDBOX (cutbox-door.mjs). By AI agents, Wed Nov 11 2026. No macro, syntax, notation, axiom, sorry.
-/
import Derived.Test.YtilckocpgififaaDoorRows
import GoSem.ClaimSeven
namespace Go.Proofs.YtilckocpgififaaDoor
namespace Rows

/-- THE TIED CARD OF 'althinglaw7.CodeSums'. -/
def codeSumsCard : Claim7 := { stood := { row := codeSumsRow, standIns := [], harness := (true, "d0f712555510da5ebc838359b0fbfb6ab54e0f595d8fc0ae49970d8674c69419"), looks := false }, kinds := [], alts := [], laidByText := true, laidKinds := [.listed, .data], laidTests := true, laidLooks := .later }
def CodeSumsCardSaid : Prop := Claim7.holds Tryd.pinned (.plain (OpenSpec.ofChange codeSumsSpec)) codeSumsCard

/-- THE TIED CARD OF 'althinglaw7.CodeCalls'. -/
def codeCallsCard : Claim7 := { stood := { row := codeCallsRow, standIns := [], harness := (true, "d0f712555510da5ebc838359b0fbfb6ab54e0f595d8fc0ae49970d8674c69419"), looks := false }, kinds := [], alts := [], laidByText := true, laidKinds := [.listed, .data], laidTests := true, laidLooks := .later }
def CodeCallsCardSaid : Prop := Claim7.holds Tryd.pinned (.plain (OpenSpec.ofChange codeCallsSpec)) codeCallsCard

/-- THE SECOND FORM's CARD OF 'althinglaw7.CodeSums'. -/
def codeSumsUptoCard : Claim7 := { stood := { row := codeSumsUptoRow, standIns := [], harness := (true, "d0f712555510da5ebc838359b0fbfb6ab54e0f595d8fc0ae49970d8674c69419"), looks := false }, kinds := [], alts := [], laidByText := true, laidKinds := [.listed, .data], laidTests := true, laidLooks := .later }
def CodeSumsUptoCardSaid : Prop := Claim7.holds Tryd.pinned (.plain (OpenSpec.upto codeSumsSpec)) codeSumsUptoCard

/-- THE SECOND FORM's CARD OF 'althinglaw7.CodeCalls'. -/
def codeCallsUptoCard : Claim7 := { stood := { row := codeCallsUptoRow, standIns := [], harness := (true, "d0f712555510da5ebc838359b0fbfb6ab54e0f595d8fc0ae49970d8674c69419"), looks := false }, kinds := [], alts := [], laidByText := true, laidKinds := [.listed, .data], laidTests := true, laidLooks := .later }
def CodeCallsUptoCardSaid : Prop := Claim7.holds Tryd.pinned (.plain (OpenSpec.upto codeCallsSpec)) codeCallsUptoCard
end Rows
end Go.Proofs.YtilckocpgififaaDoor
