/-
  DERIVED. GIVEN WITH THE SEED: THE CARDS: each row of YteidgdpaolieaaaGreatDoorRows.lean that lists a variable, with what it lists TIED to the program's text (the seventh form; the later family's looks); each row that meets fmt, with fmt's text TOLD by the authors' own Lean function (tested against real Go, not proved from fmt's source: count such statements apart). THE CARD IS WHAT COUNTS. Prove the row's statement (the work); the ties are given (YteidgdpaolieaaaGreatDoorTie.lean); close each card by the builder's one call (the guide's Derived/Test/ToyasCard.lean, 'card_holds'). Laid BY PROGRAM, IN A SANDBOX (cutbox-door.mjs). By AI agents, Wed Nov 11 2026. No macro, syntax, notation, axiom, sorry.
-/
import Derived.Test.YteidgdpaolieaaaGreatDoorRows
import GoSem.ClaimSeven
namespace Go.Proofs.YteidgdpaolieaaaGreatDoor
namespace Rows

/-- THE TIED CARD OF 'marginalialaw.CleanTells'. -/
def cleanTellsCard : Claim7 := { stood := { row := cleanTellsRow, standIns := [], harness := (true, "db3240662dbddebf82cb7ae2ec60b297d726f7d2c5a03377e5e7a8c8325f47e5"), looks := true }, kinds := [], alts := [], laidByText := true, laidKinds := [.data, .data, .data, .sentinel, .sentinel], laidTests := true, laidLooks := .later }
def CleanTellsCardSaid : Prop := Claim7.holds Tryz.pinned (.plain (OpenSpec.ofChange cleanTellsSpec)) cleanTellsCard

/-- THE TIED CARD OF 'marginalialaw.CleanText'. -/
def cleanTextCard : Claim7 := { stood := { row := cleanTextRow, standIns := [], harness := (true, "db3240662dbddebf82cb7ae2ec60b297d726f7d2c5a03377e5e7a8c8325f47e5"), looks := true }, kinds := [], alts := [], laidByText := true, laidKinds := [.data, .data, .data, .sentinel, .sentinel], laidTests := true, laidLooks := .later }
def CleanTextCardSaid : Prop := Claim7.holds Tryz.pinned (.plain (OpenSpec.ofChange cleanTextSpec)) cleanTextCard

/-- THE TIED CARD OF 'marginalialaw.CleanStays'. -/
def cleanStaysCard : Claim7 := { stood := { row := cleanStaysRow, standIns := [], harness := (true, "db3240662dbddebf82cb7ae2ec60b297d726f7d2c5a03377e5e7a8c8325f47e5"), looks := true }, kinds := [], alts := [], laidByText := true, laidKinds := [.data, .data, .data, .sentinel, .sentinel], laidTests := true, laidLooks := .later }
def CleanStaysCardSaid : Prop := Claim7.holds Tryz.pinned (.plain (OpenSpec.ofChange cleanStaysSpec)) cleanStaysCard

/-- THE TIED CARD OF 'marginalialaw.CleanGood'. -/
def cleanGoodCard : Claim7 := { stood := { row := cleanGoodRow, standIns := [], harness := (true, "db3240662dbddebf82cb7ae2ec60b297d726f7d2c5a03377e5e7a8c8325f47e5"), looks := true }, kinds := [], alts := [], laidByText := true, laidKinds := [.data, .data, .data, .sentinel, .sentinel], laidTests := true, laidLooks := .later }
def CleanGoodCardSaid : Prop := Claim7.holds Tryz.pinned (.plain (OpenSpec.ofChange cleanGoodSpec)) cleanGoodCard

/-- THE SECOND FORM's CARD OF 'marginalialaw.CleanTells'. -/
def cleanTellsUptoCard : Claim7 := { stood := { row := cleanTellsUptoRow, standIns := [], harness := (true, "db3240662dbddebf82cb7ae2ec60b297d726f7d2c5a03377e5e7a8c8325f47e5"), looks := true }, kinds := [], alts := [], laidByText := true, laidKinds := [.data, .data, .data, .sentinel, .sentinel], laidTests := true, laidLooks := .later }
def CleanTellsUptoCardSaid : Prop := Claim7.holds Tryz.pinned (.plain (OpenSpec.upto cleanTellsSpec)) cleanTellsUptoCard

/-- THE SECOND FORM's CARD OF 'marginalialaw.CleanText'. -/
def cleanTextUptoCard : Claim7 := { stood := { row := cleanTextUptoRow, standIns := [], harness := (true, "db3240662dbddebf82cb7ae2ec60b297d726f7d2c5a03377e5e7a8c8325f47e5"), looks := true }, kinds := [], alts := [], laidByText := true, laidKinds := [.data, .data, .data, .sentinel, .sentinel], laidTests := true, laidLooks := .later }
def CleanTextUptoCardSaid : Prop := Claim7.holds Tryz.pinned (.plain (OpenSpec.upto cleanTextSpec)) cleanTextUptoCard

/-- THE SECOND FORM's CARD OF 'marginalialaw.CleanStays'. -/
def cleanStaysUptoCard : Claim7 := { stood := { row := cleanStaysUptoRow, standIns := [], harness := (true, "db3240662dbddebf82cb7ae2ec60b297d726f7d2c5a03377e5e7a8c8325f47e5"), looks := true }, kinds := [], alts := [], laidByText := true, laidKinds := [.data, .data, .data, .sentinel, .sentinel], laidTests := true, laidLooks := .later }
def CleanStaysUptoCardSaid : Prop := Claim7.holds Tryz.pinned (.plain (OpenSpec.upto cleanStaysSpec)) cleanStaysUptoCard

/-- THE SECOND FORM's CARD OF 'marginalialaw.CleanGood'. -/
def cleanGoodUptoCard : Claim7 := { stood := { row := cleanGoodUptoRow, standIns := [], harness := (true, "db3240662dbddebf82cb7ae2ec60b297d726f7d2c5a03377e5e7a8c8325f47e5"), looks := true }, kinds := [], alts := [], laidByText := true, laidKinds := [.data, .data, .data, .sentinel, .sentinel], laidTests := true, laidLooks := .later }
def CleanGoodUptoCardSaid : Prop := Claim7.holds Tryz.pinned (.plain (OpenSpec.upto cleanGoodSpec)) cleanGoodUptoCard
end Rows
end Go.Proofs.YteidgdpaolieaaaGreatDoor
