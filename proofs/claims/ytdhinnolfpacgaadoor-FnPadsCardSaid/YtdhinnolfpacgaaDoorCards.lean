/-
  DERIVED. GIVEN WITH THE SEED: THE CARDS: each row of YtdhinnolfpacgaaDoorRows.lean that lists a variable, with what it lists TIED to the program's text (the seventh form; the later family's looks); each row that meets fmt, with fmt's text TOLD by the authors' own Lean function (tested against real Go, not proved from fmt's source: count such statements apart). THE CARD IS WHAT COUNTS. Prove the row's statement (the work); the ties are given (YtdhinnolfpacgaaDoorTie.lean); close each card by the builder's one call (the guide's Derived/Test/ToyasCard.lean, 'card_holds'). Laid BY PROGRAM, IN A SANDBOX (cutbox-door.mjs). By AI agents, Wed Nov 11 2026. No macro, syntax, notation, axiom, sorry.
-/
import Derived.Test.YtdhinnolfpacgaaDoorRows
import GoSem.ClaimSeven
namespace Go.Proofs.YtdhinnolfpacgaaDoor
namespace Rows

/-- THE TIED CARD OF 'laws.FnExactMatchOf'. -/
def fnExactMatchOfCard : Claim7 := { stood := { row := fnExactMatchOfRow, standIns := [], harness := (true, "d9c6ea92c556a9337ef9455060cd5f29caa42fb501f86575642976908da462f8"), looks := false }, kinds := [], alts := [], laidByText := true, laidKinds := [.data, .data, .data], laidTests := true, laidLooks := .later }
def FnExactMatchOfCardSaid : Prop := Claim7.holds Tryd.pinned (.plain (OpenSpec.ofChange fnExactMatchOfSpec)) fnExactMatchOfCard

/-- THE TIED CARD OF 'laws.FnExactTry'. -/
def fnExactTryCard : Claim7 := { stood := { row := fnExactTryRow, standIns := [], harness := (true, "d9c6ea92c556a9337ef9455060cd5f29caa42fb501f86575642976908da462f8"), looks := false }, kinds := [], alts := [], laidByText := true, laidKinds := [.data, .data, .data], laidTests := true, laidLooks := .later }
def FnExactTryCardSaid : Prop := Claim7.holds Tryd.pinned (.plain (OpenSpec.ofChange fnExactTrySpec)) fnExactTryCard

/-- THE TIED CARD OF 'laws.FnExactResync'. -/
def fnExactResyncCard : Claim7 := { stood := { row := fnExactResyncRow, standIns := [], harness := (true, "d9c6ea92c556a9337ef9455060cd5f29caa42fb501f86575642976908da462f8"), looks := false }, kinds := [], alts := [], laidByText := true, laidKinds := [.data, .data, .data], laidTests := true, laidLooks := .later }
def FnExactResyncCardSaid : Prop := Claim7.holds Tryd.pinned (.plain (OpenSpec.ofChange fnExactResyncSpec)) fnExactResyncCard

/-- THE TIED CARD OF 'laws.FnPads'. -/
def fnPadsCard : Claim7 := { stood := { row := fnPadsRow, standIns := [], harness := (true, "d9c6ea92c556a9337ef9455060cd5f29caa42fb501f86575642976908da462f8"), looks := false }, kinds := [], alts := [], laidByText := true, laidKinds := [.data, .data, .data], laidTests := true, laidLooks := .later }
def FnPadsCardSaid : Prop := Claim7.holds Tryd.pinned (.plain (OpenSpec.ofChange fnPadsSpec)) fnPadsCard

/-- THE TIED CARD OF 'laws.FnResync'. -/
def fnResyncCard : Claim7 := { stood := { row := fnResyncRow, standIns := [], harness := (true, "d9c6ea92c556a9337ef9455060cd5f29caa42fb501f86575642976908da462f8"), looks := false }, kinds := [], alts := [], laidByText := true, laidKinds := [.data, .data, .data], laidTests := true, laidLooks := .later }
def FnResyncCardSaid : Prop := Claim7.holds Tryd.pinned (.plain (OpenSpec.ofChange fnResyncSpec)) fnResyncCard

/-- THE TIED CARD OF 'laws.FnCounts'. -/
def fnCountsCard : Claim7 := { stood := { row := fnCountsRow, standIns := [], harness := (true, "d9c6ea92c556a9337ef9455060cd5f29caa42fb501f86575642976908da462f8"), looks := false }, kinds := [], alts := [], laidByText := true, laidKinds := [.data, .data, .data], laidTests := true, laidLooks := .later }
def FnCountsCardSaid : Prop := Claim7.holds Tryd.pinned (.plain (OpenSpec.ofChange fnCountsSpec)) fnCountsCard

/-- THE SECOND FORM's CARD OF 'laws.FnExactMatchOf'. -/
def fnExactMatchOfUptoCard : Claim7 := { stood := { row := fnExactMatchOfUptoRow, standIns := [], harness := (true, "d9c6ea92c556a9337ef9455060cd5f29caa42fb501f86575642976908da462f8"), looks := false }, kinds := [], alts := [], laidByText := true, laidKinds := [.data, .data, .data], laidTests := true, laidLooks := .later }
def FnExactMatchOfUptoCardSaid : Prop := Claim7.holds Tryd.pinned (.plain (OpenSpec.upto fnExactMatchOfSpec)) fnExactMatchOfUptoCard

/-- THE SECOND FORM's CARD OF 'laws.FnExactTry'. -/
def fnExactTryUptoCard : Claim7 := { stood := { row := fnExactTryUptoRow, standIns := [], harness := (true, "d9c6ea92c556a9337ef9455060cd5f29caa42fb501f86575642976908da462f8"), looks := false }, kinds := [], alts := [], laidByText := true, laidKinds := [.data, .data, .data], laidTests := true, laidLooks := .later }
def FnExactTryUptoCardSaid : Prop := Claim7.holds Tryd.pinned (.plain (OpenSpec.upto fnExactTrySpec)) fnExactTryUptoCard

/-- THE SECOND FORM's CARD OF 'laws.FnExactResync'. -/
def fnExactResyncUptoCard : Claim7 := { stood := { row := fnExactResyncUptoRow, standIns := [], harness := (true, "d9c6ea92c556a9337ef9455060cd5f29caa42fb501f86575642976908da462f8"), looks := false }, kinds := [], alts := [], laidByText := true, laidKinds := [.data, .data, .data], laidTests := true, laidLooks := .later }
def FnExactResyncUptoCardSaid : Prop := Claim7.holds Tryd.pinned (.plain (OpenSpec.upto fnExactResyncSpec)) fnExactResyncUptoCard

/-- THE SECOND FORM's CARD OF 'laws.FnPads'. -/
def fnPadsUptoCard : Claim7 := { stood := { row := fnPadsUptoRow, standIns := [], harness := (true, "d9c6ea92c556a9337ef9455060cd5f29caa42fb501f86575642976908da462f8"), looks := false }, kinds := [], alts := [], laidByText := true, laidKinds := [.data, .data, .data], laidTests := true, laidLooks := .later }
def FnPadsUptoCardSaid : Prop := Claim7.holds Tryd.pinned (.plain (OpenSpec.upto fnPadsSpec)) fnPadsUptoCard

/-- THE SECOND FORM's CARD OF 'laws.FnResync'. -/
def fnResyncUptoCard : Claim7 := { stood := { row := fnResyncUptoRow, standIns := [], harness := (true, "d9c6ea92c556a9337ef9455060cd5f29caa42fb501f86575642976908da462f8"), looks := false }, kinds := [], alts := [], laidByText := true, laidKinds := [.data, .data, .data], laidTests := true, laidLooks := .later }
def FnResyncUptoCardSaid : Prop := Claim7.holds Tryd.pinned (.plain (OpenSpec.upto fnResyncSpec)) fnResyncUptoCard

/-- THE SECOND FORM's CARD OF 'laws.FnCounts'. -/
def fnCountsUptoCard : Claim7 := { stood := { row := fnCountsUptoRow, standIns := [], harness := (true, "d9c6ea92c556a9337ef9455060cd5f29caa42fb501f86575642976908da462f8"), looks := false }, kinds := [], alts := [], laidByText := true, laidKinds := [.data, .data, .data], laidTests := true, laidLooks := .later }
def FnCountsUptoCardSaid : Prop := Claim7.holds Tryd.pinned (.plain (OpenSpec.upto fnCountsSpec)) fnCountsUptoCard
end Rows
end Go.Proofs.YtdhinnolfpacgaaDoor
