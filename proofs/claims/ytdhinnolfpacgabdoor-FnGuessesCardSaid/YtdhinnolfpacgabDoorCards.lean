/-
  DERIVED. GIVEN WITH THE SEED: THE CARDS: each row of YtdhinnolfpacgabDoorRows.lean that lists a variable, with what it lists TIED to the program's text (the seventh form; the later family's looks); each row that meets fmt, with fmt's text TOLD by the authors' own Lean function (tested against real Go, not proved from fmt's source: count such statements apart). THE CARD IS WHAT COUNTS. Prove the row's statement (the work); the ties are given (YtdhinnolfpacgabDoorTie.lean); close each card by the builder's one call (the guide's Derived/Test/ToyasCard.lean, 'card_holds'). Laid BY PROGRAM, IN A SANDBOX (cutbox-door.mjs). By AI agents, Wed Nov 11 2026. No macro, syntax, notation, axiom, sorry.
-/
import Derived.Test.YtdhinnolfpacgabDoorRows
import GoSem.ClaimSeven
namespace Go.Proofs.YtdhinnolfpacgabDoor
namespace Rows

/-- THE TIED CARD OF 'laws.FnGuesses'. -/
def fnGuessesCard : Claim7 := { stood := { row := fnGuessesRow, standIns := [], harness := (true, "23dfa78af2384464412030a127fb2599b4dbfea169f28302807a863291d20b91"), looks := false }, kinds := [], alts := [], laidByText := true, laidKinds := [.data, .data, .data], laidTests := true, laidLooks := .later }
def FnGuessesCardSaid : Prop := Claim7.holds Tryd.pinned (.plain (OpenSpec.ofChange fnGuessesSpec)) fnGuessesCard

/-- THE SECOND FORM's CARD OF 'laws.FnGuesses'. -/
def fnGuessesUptoCard : Claim7 := { stood := { row := fnGuessesUptoRow, standIns := [], harness := (true, "23dfa78af2384464412030a127fb2599b4dbfea169f28302807a863291d20b91"), looks := false }, kinds := [], alts := [], laidByText := true, laidKinds := [.data, .data, .data], laidTests := true, laidLooks := .later }
def FnGuessesUptoCardSaid : Prop := Claim7.holds Tryd.pinned (.plain (OpenSpec.upto fnGuessesSpec)) fnGuessesUptoCard
end Rows
end Go.Proofs.YtdhinnolfpacgabDoor
