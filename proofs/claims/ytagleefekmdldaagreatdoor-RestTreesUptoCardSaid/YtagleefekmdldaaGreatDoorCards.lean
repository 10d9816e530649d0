/-
  DERIVED. GIVEN WITH THE SEED: THE CARDS: each row of YtagleefekmdldaaGreatDoorRows.lean that lists a variable, with what it lists TIED to the program's text (the seventh form; the later family's looks); each row that meets fmt, with fmt's text TOLD by the authors' own Lean function (tested against real Go, not proved from fmt's source: count such statements apart). THE CARD IS WHAT COUNTS. Prove the row's statement (the work); the ties are given (YtagleefekmdldaaGreatDoorTie.lean); close each card by the builder's one call (the guide's Derived/Test/ToyasCard.lean, 'card_holds'). Laid BY PROGRAM, IN A SANDBOX (cutbox-door.mjs). By AI agents, Wed Nov 11 2026. No macro, syntax, notation, axiom, sorry.
-/
import Derived.Test.YtagleefekmdldaaGreatDoorRows
import GoSem.ClaimSeven
namespace Go.Proofs.YtagleefekmdldaaGreatDoor
namespace Rows

/-- THE TIED CARD OF 'marginalialaw.RestTrees'. -/
def restTreesCard : Claim7 := { stood := { row := restTreesRow, standIns := [], harness := (true, "b58ed7213a50bd542604fcdd5656950ce383ce486c21e836b4bcd0a4b2e51234"), looks := true }, kinds := [], alts := [], laidByText := true, laidKinds := [.data, .data, .data, .sentinel, .sentinel], laidTests := true, laidLooks := .later }
def RestTreesCardSaid : Prop := Claim7.holds Tryz.pinned (.plain (OpenSpec.ofChange restTreesSpec)) restTreesCard

/-- THE SECOND FORM's CARD OF 'marginalialaw.RestTrees'. -/
def restTreesUptoCard : Claim7 := { stood := { row := restTreesUptoRow, standIns := [], harness := (true, "b58ed7213a50bd542604fcdd5656950ce383ce486c21e836b4bcd0a4b2e51234"), looks := true }, kinds := [], alts := [], laidByText := true, laidKinds := [.data, .data, .data, .sentinel, .sentinel], laidTests := true, laidLooks := .later }
def RestTreesUptoCardSaid : Prop := Claim7.holds Tryz.pinned (.plain (OpenSpec.upto restTreesSpec)) restTreesUptoCard
end Rows
end Go.Proofs.YtagleefekmdldaaGreatDoor
