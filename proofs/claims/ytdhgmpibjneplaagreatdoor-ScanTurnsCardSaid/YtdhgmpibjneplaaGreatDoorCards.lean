/-
  DERIVED. GIVEN WITH THE SEED: THE CARDS: each row of YtdhgmpibjneplaaGreatDoorRows.lean that lists a variable, with what it lists TIED to the program's text (the seventh form; the later family's looks); each row that meets fmt, with fmt's text TOLD by the authors' own Lean function (tested against real Go, not proved from fmt's source: count such statements apart). THE CARD IS WHAT COUNTS. Prove the row's statement (the work); the ties are given (YtdhgmpibjneplaaGreatDoorTie.lean); close each card by the builder's one call (the guide's Derived/Test/ToyasCard.lean, 'card_holds'). Laid BY PROGRAM, IN A SANDBOX (cutbox-door.mjs). By AI agents, Wed Nov 11 2026. No macro, syntax, notation, axiom, sorry.
-/
import Derived.Test.YtdhgmpibjneplaaGreatDoorRows
import GoSem.ClaimSeven
namespace Go.Proofs.YtdhgmpibjneplaaGreatDoor
namespace Rows

/-- THE TIED CARD OF 'marlaw13.ScanTrue'. -/
def scanTrueCard : Claim7 := { stood := { row := scanTrueRow, standIns := [], harness := (true, "f5ef2650900c287e3b2356e1a3eec04e33378e50b2db46ab15e5abc7617dd621"), looks := false }, kinds := [], alts := [], laidByText := true, laidKinds := [.data, .data, .data, .pinned], laidTests := true, laidLooks := .later }
def ScanTrueCardSaid : Prop := Claim7.holds Tryz.pinned (.plain (OpenSpec.ofChange scanTrueSpec)) scanTrueCard

/-- THE TIED CARD OF 'marlaw13.ScanStatus'. -/
def scanStatusCard : Claim7 := { stood := { row := scanStatusRow, standIns := [], harness := (true, "f5ef2650900c287e3b2356e1a3eec04e33378e50b2db46ab15e5abc7617dd621"), looks := false }, kinds := [], alts := [], laidByText := true, laidKinds := [.data, .data, .data, .pinned], laidTests := true, laidLooks := .later }
def ScanStatusCardSaid : Prop := Claim7.holds Tryz.pinned (.plain (OpenSpec.ofChange scanStatusSpec)) scanStatusCard

/-- THE TIED CARD OF 'marlaw13.ScanTurns'. -/
def scanTurnsCard : Claim7 := { stood := { row := scanTurnsRow, standIns := [], harness := (true, "f5ef2650900c287e3b2356e1a3eec04e33378e50b2db46ab15e5abc7617dd621"), looks := false }, kinds := [], alts := [], laidByText := true, laidKinds := [.data, .data, .data, .pinned], laidTests := true, laidLooks := .later }
def ScanTurnsCardSaid : Prop := Claim7.holds Tryz.pinned (.plain (OpenSpec.ofChange scanTurnsSpec)) scanTurnsCard

/-- THE TIED CARD OF 'marlaw16.TableMay'. -/
def tableMayCard : Claim7 := { stood := { row := tableMayRow, standIns := [], harness := (true, "f5ef2650900c287e3b2356e1a3eec04e33378e50b2db46ab15e5abc7617dd621"), looks := false }, kinds := [], alts := [], laidByText := true, laidKinds := [.data, .data, .data, .pinned], laidTests := true, laidLooks := .later }
def TableMayCardSaid : Prop := Claim7.holds Tryz.pinned (.plain (OpenSpec.ofChange tableMaySpec)) tableMayCard

/-- THE TIED CARD OF 'marlaw16.TablePaths'. -/
def tablePathsCard : Claim7 := { stood := { row := tablePathsRow, standIns := [], harness := (true, "f5ef2650900c287e3b2356e1a3eec04e33378e50b2db46ab15e5abc7617dd621"), looks := false }, kinds := [], alts := [], laidByText := true, laidKinds := [.data, .data, .data, .pinned], laidTests := true, laidLooks := .later }
def TablePathsCardSaid : Prop := Claim7.holds Tryz.pinned (.plain (OpenSpec.ofChange tablePathsSpec)) tablePathsCard

/-- THE SECOND FORM's CARD OF 'marlaw13.ScanTrue'. -/
def scanTrueUptoCard : Claim7 := { stood := { row := scanTrueUptoRow, standIns := [], harness := (true, "f5ef2650900c287e3b2356e1a3eec04e33378e50b2db46ab15e5abc7617dd621"), looks := false }, kinds := [], alts := [], laidByText := true, laidKinds := [.data, .data, .data, .pinned], laidTests := true, laidLooks := .later }
def ScanTrueUptoCardSaid : Prop := Claim7.holds Tryz.pinned (.plain (OpenSpec.upto scanTrueSpec)) scanTrueUptoCard

/-- THE SECOND FORM's CARD OF 'marlaw13.ScanStatus'. -/
def scanStatusUptoCard : Claim7 := { stood := { row := scanStatusUptoRow, standIns := [], harness := (true, "f5ef2650900c287e3b2356e1a3eec04e33378e50b2db46ab15e5abc7617dd621"), looks := false }, kinds := [], alts := [], laidByText := true, laidKinds := [.data, .data, .data, .pinned], laidTests := true, laidLooks := .later }
def ScanStatusUptoCardSaid : Prop := Claim7.holds Tryz.pinned (.plain (OpenSpec.upto scanStatusSpec)) scanStatusUptoCard

/-- THE SECOND FORM's CARD OF 'marlaw13.ScanTurns'. -/
def scanTurnsUptoCard : Claim7 := { stood := { row := scanTurnsUptoRow, standIns := [], harness := (true, "f5ef2650900c287e3b2356e1a3eec04e33378e50b2db46ab15e5abc7617dd621"), looks := false }, kinds := [], alts := [], laidByText := true, laidKinds := [.data, .data, .data, .pinned], laidTests := true, laidLooks := .later }
def ScanTurnsUptoCardSaid : Prop := Claim7.holds Tryz.pinned (.plain (OpenSpec.upto scanTurnsSpec)) scanTurnsUptoCard

/-- THE SECOND FORM's CARD OF 'marlaw16.TableMay'. -/
def tableMayUptoCard : Claim7 := { stood := { row := tableMayUptoRow, standIns := [], harness := (true, "f5ef2650900c287e3b2356e1a3eec04e33378e50b2db46ab15e5abc7617dd621"), looks := false }, kinds := [], alts := [], laidByText := true, laidKinds := [.data, .data, .data, .pinned], laidTests := true, laidLooks := .later }
def TableMayUptoCardSaid : Prop := Claim7.holds Tryz.pinned (.plain (OpenSpec.upto tableMaySpec)) tableMayUptoCard

/-- THE SECOND FORM's CARD OF 'marlaw16.TablePaths'. -/
def tablePathsUptoCard : Claim7 := { stood := { row := tablePathsUptoRow, standIns := [], harness := (true, "f5ef2650900c287e3b2356e1a3eec04e33378e50b2db46ab15e5abc7617dd621"), looks := false }, kinds := [], alts := [], laidByText := true, laidKinds := [.data, .data, .data, .pinned], laidTests := true, laidLooks := .later }
def TablePathsUptoCardSaid : Prop := Claim7.holds Tryz.pinned (.plain (OpenSpec.upto tablePathsSpec)) tablePathsUptoCard
end Rows
end Go.Proofs.YtdhgmpibjneplaaGreatDoor
