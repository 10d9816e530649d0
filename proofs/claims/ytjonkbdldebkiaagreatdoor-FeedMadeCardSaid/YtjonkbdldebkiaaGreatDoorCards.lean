/-
  DERIVED. GIVEN WITH THE SEED: THE CARDS: each row of YtjonkbdldebkiaaGreatDoorRows.lean that lists a variable, with what it lists TIED to the program's text (the seventh form; the later family's looks); each row that meets fmt, with fmt's text TOLD by the authors' own Lean function (tested against real Go, not proved from fmt's source: count such statements apart). THE CARD IS WHAT COUNTS. Prove the row's statement (the work); the ties are given (YtjonkbdldebkiaaGreatDoorTie.lean); close each card by the builder's one call (the guide's Derived/Test/ToyasCard.lean, 'card_holds'). Laid BY PROGRAM, IN A SANDBOX (cutbox-door.mjs). By AI agents, Wed Nov 11 2026. No macro, syntax, notation, axiom, sorry.
-/
import Derived.Test.YtjonkbdldebkiaaGreatDoorRows
import GoSem.ClaimSeven
namespace Go.Proofs.YtjonkbdldebkiaaGreatDoor
namespace Rows

/-- THE TIED CARD OF 'marginalialaw.DeskRuns'. -/
def deskRunsCard : Claim7 := { stood := { row := deskRunsRow, standIns := [], harness := (true, "f1e5cb51c26763023603ec3ce2e181005d82885c87ca2f921e8239eb845bfd20"), looks := true }, kinds := [], alts := [], laidByText := true, laidKinds := [.data, .data, .data, .sentinel, .sentinel], laidTests := true, laidLooks := .later }
def DeskRunsCardSaid : Prop := Claim7.holds Tryz.pinned (.plain (OpenSpec.ofChange deskRunsSpec)) deskRunsCard

/-- THE TIED CARD OF 'marginalialaw.ReportClean'. -/
def reportCleanCard : Claim7 := { stood := { row := reportCleanRow, standIns := [], harness := (true, "f1e5cb51c26763023603ec3ce2e181005d82885c87ca2f921e8239eb845bfd20"), looks := true }, kinds := [], alts := [], laidByText := true, laidKinds := [.data, .data, .data, .sentinel, .sentinel], laidTests := true, laidLooks := .later }
def ReportCleanCardSaid : Prop := Claim7.holds Tryz.pinned (.plain (OpenSpec.ofChange reportCleanSpec)) reportCleanCard

/-- THE TIED CARD OF 'marginalialaw.FeedMade'. -/
def feedMadeCard : Claim7 := { stood := { row := feedMadeRow, standIns := [], harness := (true, "f1e5cb51c26763023603ec3ce2e181005d82885c87ca2f921e8239eb845bfd20"), looks := true }, kinds := [], alts := [], laidByText := true, laidKinds := [.data, .data, .data, .sentinel, .sentinel], laidTests := true, laidLooks := .later }
def FeedMadeCardSaid : Prop := Claim7.holds Tryz.pinned (.plain (OpenSpec.ofChange feedMadeSpec)) feedMadeCard

/-- THE TIED CARD OF 'marginalialaw.FeedRight'. -/
def feedRightCard : Claim7 := { stood := { row := feedRightRow, standIns := [], harness := (true, "f1e5cb51c26763023603ec3ce2e181005d82885c87ca2f921e8239eb845bfd20"), looks := true }, kinds := [], alts := [], laidByText := true, laidKinds := [.data, .data, .data, .sentinel, .sentinel], laidTests := true, laidLooks := .later }
def FeedRightCardSaid : Prop := Claim7.holds Tryz.pinned (.plain (OpenSpec.ofChange feedRightSpec)) feedRightCard

/-- THE TIED CARD OF 'marginalialaw.DeskTwice'. -/
def deskTwiceCard : Claim7 := { stood := { row := deskTwiceRow, standIns := [], harness := (true, "f1e5cb51c26763023603ec3ce2e181005d82885c87ca2f921e8239eb845bfd20"), looks := true }, kinds := [], alts := [], laidByText := true, laidKinds := [.data, .data, .data, .sentinel, .sentinel], laidTests := true, laidLooks := .later }
def DeskTwiceCardSaid : Prop := Claim7.holds Tryz.pinned (.plain (OpenSpec.ofChange deskTwiceSpec)) deskTwiceCard

/-- THE SECOND FORM's CARD OF 'marginalialaw.DeskRuns'. -/
def deskRunsUptoCard : Claim7 := { stood := { row := deskRunsUptoRow, standIns := [], harness := (true, "f1e5cb51c26763023603ec3ce2e181005d82885c87ca2f921e8239eb845bfd20"), looks := true }, kinds := [], alts := [], laidByText := true, laidKinds := [.data, .data, .data, .sentinel, .sentinel], laidTests := true, laidLooks := .later }
def DeskRunsUptoCardSaid : Prop := Claim7.holds Tryz.pinned (.plain (OpenSpec.upto deskRunsSpec)) deskRunsUptoCard

/-- THE SECOND FORM's CARD OF 'marginalialaw.ReportClean'. -/
def reportCleanUptoCard : Claim7 := { stood := { row := reportCleanUptoRow, standIns := [], harness := (true, "f1e5cb51c26763023603ec3ce2e181005d82885c87ca2f921e8239eb845bfd20"), looks := true }, kinds := [], alts := [], laidByText := true, laidKinds := [.data, .data, .data, .sentinel, .sentinel], laidTests := true, laidLooks := .later }
def ReportCleanUptoCardSaid : Prop := Claim7.holds Tryz.pinned (.plain (OpenSpec.upto reportCleanSpec)) reportCleanUptoCard

/-- THE SECOND FORM's CARD OF 'marginalialaw.FeedMade'. -/
def feedMadeUptoCard : Claim7 := { stood := { row := feedMadeUptoRow, standIns := [], harness := (true, "f1e5cb51c26763023603ec3ce2e181005d82885c87ca2f921e8239eb845bfd20"), looks := true }, kinds := [], alts := [], laidByText := true, laidKinds := [.data, .data, .data, .sentinel, .sentinel], laidTests := true, laidLooks := .later }
def FeedMadeUptoCardSaid : Prop := Claim7.holds Tryz.pinned (.plain (OpenSpec.upto feedMadeSpec)) feedMadeUptoCard

/-- THE SECOND FORM's CARD OF 'marginalialaw.FeedRight'. -/
def feedRightUptoCard : Claim7 := { stood := { row := feedRightUptoRow, standIns := [], harness := (true, "f1e5cb51c26763023603ec3ce2e181005d82885c87ca2f921e8239eb845bfd20"), looks := true }, kinds := [], alts := [], laidByText := true, laidKinds := [.data, .data, .data, .sentinel, .sentinel], laidTests := true, laidLooks := .later }
def FeedRightUptoCardSaid : Prop := Claim7.holds Tryz.pinned (.plain (OpenSpec.upto feedRightSpec)) feedRightUptoCard

/-- THE SECOND FORM's CARD OF 'marginalialaw.DeskTwice'. -/
def deskTwiceUptoCard : Claim7 := { stood := { row := deskTwiceUptoRow, standIns := [], harness := (true, "f1e5cb51c26763023603ec3ce2e181005d82885c87ca2f921e8239eb845bfd20"), looks := true }, kinds := [], alts := [], laidByText := true, laidKinds := [.data, .data, .data, .sentinel, .sentinel], laidTests := true, laidLooks := .later }
def DeskTwiceUptoCardSaid : Prop := Claim7.holds Tryz.pinned (.plain (OpenSpec.upto deskTwiceSpec)) deskTwiceUptoCard
end Rows
end Go.Proofs.YtjonkbdldebkiaaGreatDoor
