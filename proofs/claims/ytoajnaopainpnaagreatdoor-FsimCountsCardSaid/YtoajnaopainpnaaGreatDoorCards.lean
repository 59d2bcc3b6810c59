/-
  DERIVED. GIVEN WITH THE SEED: THE CARDS: each row of YtoajnaopainpnaaGreatDoorRows.lean that lists a variable, with what it lists TIED to the program's text (the seventh form; the later family's looks); each row that meets fmt, with fmt's text TOLD by the authors' own Lean function (tested against real Go, not proved from fmt's source: count such statements apart). THE CARD IS WHAT COUNTS. Prove the row's statement (the work); the ties are given (YtoajnaopainpnaaGreatDoorTie.lean); close each card by the builder's one call (the guide's Derived/Test/ToyasCard.lean, 'card_holds'). Laid BY PROGRAM, IN A SANDBOX (cutbox-door.mjs). By AI agents, Wed Nov 11 2026. No macro, syntax, notation, axiom, sorry.
-/
import Derived.Test.YtoajnaopainpnaaGreatDoorRows
import GoSem.ClaimSeven
namespace Go.Proofs.YtoajnaopainpnaaGreatDoor
namespace Rows

/-- THE TIED CARD OF 'marlaw5.FsimTree'. -/
def fsimTreeCard : Claim7 := { stood := { row := fsimTreeRow, standIns := [], harness := (true, "1b5e18aedc01f612c5b2bd430d2ae392f2bec7c6b0e154dc13fb6aa5df5397c1"), looks := false }, kinds := [], alts := [], laidByText := true, laidKinds := [.data, .pinned], laidTests := true, laidLooks := .later }
def FsimTreeCardSaid : Prop := Claim7.holds Tryz.pinned (.plain (OpenSpec.ofChange fsimTreeSpec)) fsimTreeCard

/-- THE TIED CARD OF 'marlaw5.FsimCounts'. -/
def fsimCountsCard : Claim7 := { stood := { row := fsimCountsRow, standIns := [], harness := (true, "1b5e18aedc01f612c5b2bd430d2ae392f2bec7c6b0e154dc13fb6aa5df5397c1"), looks := false }, kinds := [], alts := [], laidByText := true, laidKinds := [.data, .pinned], laidTests := true, laidLooks := .later }
def FsimCountsCardSaid : Prop := Claim7.holds Tryz.pinned (.plain (OpenSpec.ofChange fsimCountsSpec)) fsimCountsCard

/-- THE TIED CARD OF 'marlaw5.FsimKeeps'. -/
def fsimKeepsCard : Claim7 := { stood := { row := fsimKeepsRow, standIns := [], harness := (true, "1b5e18aedc01f612c5b2bd430d2ae392f2bec7c6b0e154dc13fb6aa5df5397c1"), looks := false }, kinds := [], alts := [], laidByText := true, laidKinds := [.data, .pinned], laidTests := true, laidLooks := .later }
def FsimKeepsCardSaid : Prop := Claim7.holds Tryz.pinned (.plain (OpenSpec.ofChange fsimKeepsSpec)) fsimKeepsCard

/-- THE TIED CARD OF 'marlaw5.FsimMoves'. -/
def fsimMovesCard : Claim7 := { stood := { row := fsimMovesRow, standIns := [], harness := (true, "1b5e18aedc01f612c5b2bd430d2ae392f2bec7c6b0e154dc13fb6aa5df5397c1"), looks := false }, kinds := [], alts := [], laidByText := true, laidKinds := [.data, .pinned], laidTests := true, laidLooks := .later }
def FsimMovesCardSaid : Prop := Claim7.holds Tryz.pinned (.plain (OpenSpec.ofChange fsimMovesSpec)) fsimMovesCard

/-- THE TIED CARD OF 'marlaw5.FsimFails'. -/
def fsimFailsCard : Claim7 := { stood := { row := fsimFailsRow, standIns := [], harness := (true, "1b5e18aedc01f612c5b2bd430d2ae392f2bec7c6b0e154dc13fb6aa5df5397c1"), looks := false }, kinds := [], alts := [], laidByText := true, laidKinds := [.data, .pinned], laidTests := true, laidLooks := .later }
def FsimFailsCardSaid : Prop := Claim7.holds Tryz.pinned (.plain (OpenSpec.ofChange fsimFailsSpec)) fsimFailsCard

/-- THE TIED CARD OF 'marlaw5.FsimSafe'. -/
def fsimSafeCard : Claim7 := { stood := { row := fsimSafeRow, standIns := [], harness := (true, "1b5e18aedc01f612c5b2bd430d2ae392f2bec7c6b0e154dc13fb6aa5df5397c1"), looks := false }, kinds := [], alts := [], laidByText := true, laidKinds := [.data, .pinned], laidTests := true, laidLooks := .later }
def FsimSafeCardSaid : Prop := Claim7.holds Tryz.pinned (.plain (OpenSpec.ofChange fsimSafeSpec)) fsimSafeCard

/-- THE TIED CARD OF 'marlaw5.FsimPlays'. -/
def fsimPlaysCard : Claim7 := { stood := { row := fsimPlaysRow, standIns := [], harness := (true, "1b5e18aedc01f612c5b2bd430d2ae392f2bec7c6b0e154dc13fb6aa5df5397c1"), looks := false }, kinds := [], alts := [], laidByText := true, laidKinds := [.data, .pinned], laidTests := true, laidLooks := .later }
def FsimPlaysCardSaid : Prop := Claim7.holds Tryz.pinned (.plain (OpenSpec.ofChange fsimPlaysSpec)) fsimPlaysCard

/-- THE SECOND FORM's CARD OF 'marlaw5.FsimTree'. -/
def fsimTreeUptoCard : Claim7 := { stood := { row := fsimTreeUptoRow, standIns := [], harness := (true, "1b5e18aedc01f612c5b2bd430d2ae392f2bec7c6b0e154dc13fb6aa5df5397c1"), looks := false }, kinds := [], alts := [], laidByText := true, laidKinds := [.data, .pinned], laidTests := true, laidLooks := .later }
def FsimTreeUptoCardSaid : Prop := Claim7.holds Tryz.pinned (.plain (OpenSpec.upto fsimTreeSpec)) fsimTreeUptoCard

/-- THE SECOND FORM's CARD OF 'marlaw5.FsimCounts'. -/
def fsimCountsUptoCard : Claim7 := { stood := { row := fsimCountsUptoRow, standIns := [], harness := (true, "1b5e18aedc01f612c5b2bd430d2ae392f2bec7c6b0e154dc13fb6aa5df5397c1"), looks := false }, kinds := [], alts := [], laidByText := true, laidKinds := [.data, .pinned], laidTests := true, laidLooks := .later }
def FsimCountsUptoCardSaid : Prop := Claim7.holds Tryz.pinned (.plain (OpenSpec.upto fsimCountsSpec)) fsimCountsUptoCard

/-- THE SECOND FORM's CARD OF 'marlaw5.FsimKeeps'. -/
def fsimKeepsUptoCard : Claim7 := { stood := { row := fsimKeepsUptoRow, standIns := [], harness := (true, "1b5e18aedc01f612c5b2bd430d2ae392f2bec7c6b0e154dc13fb6aa5df5397c1"), looks := false }, kinds := [], alts := [], laidByText := true, laidKinds := [.data, .pinned], laidTests := true, laidLooks := .later }
def FsimKeepsUptoCardSaid : Prop := Claim7.holds Tryz.pinned (.plain (OpenSpec.upto fsimKeepsSpec)) fsimKeepsUptoCard

/-- THE SECOND FORM's CARD OF 'marlaw5.FsimMoves'. -/
def fsimMovesUptoCard : Claim7 := { stood := { row := fsimMovesUptoRow, standIns := [], harness := (true, "1b5e18aedc01f612c5b2bd430d2ae392f2bec7c6b0e154dc13fb6aa5df5397c1"), looks := false }, kinds := [], alts := [], laidByText := true, laidKinds := [.data, .pinned], laidTests := true, laidLooks := .later }
def FsimMovesUptoCardSaid : Prop := Claim7.holds Tryz.pinned (.plain (OpenSpec.upto fsimMovesSpec)) fsimMovesUptoCard

/-- THE SECOND FORM's CARD OF 'marlaw5.FsimFails'. -/
def fsimFailsUptoCard : Claim7 := { stood := { row := fsimFailsUptoRow, standIns := [], harness := (true, "1b5e18aedc01f612c5b2bd430d2ae392f2bec7c6b0e154dc13fb6aa5df5397c1"), looks := false }, kinds := [], alts := [], laidByText := true, laidKinds := [.data, .pinned], laidTests := true, laidLooks := .later }
def FsimFailsUptoCardSaid : Prop := Claim7.holds Tryz.pinned (.plain (OpenSpec.upto fsimFailsSpec)) fsimFailsUptoCard

/-- THE SECOND FORM's CARD OF 'marlaw5.FsimSafe'. -/
def fsimSafeUptoCard : Claim7 := { stood := { row := fsimSafeUptoRow, standIns := [], harness := (true, "1b5e18aedc01f612c5b2bd430d2ae392f2bec7c6b0e154dc13fb6aa5df5397c1"), looks := false }, kinds := [], alts := [], laidByText := true, laidKinds := [.data, .pinned], laidTests := true, laidLooks := .later }
def FsimSafeUptoCardSaid : Prop := Claim7.holds Tryz.pinned (.plain (OpenSpec.upto fsimSafeSpec)) fsimSafeUptoCard

/-- THE SECOND FORM's CARD OF 'marlaw5.FsimPlays'. -/
def fsimPlaysUptoCard : Claim7 := { stood := { row := fsimPlaysUptoRow, standIns := [], harness := (true, "1b5e18aedc01f612c5b2bd430d2ae392f2bec7c6b0e154dc13fb6aa5df5397c1"), looks := false }, kinds := [], alts := [], laidByText := true, laidKinds := [.data, .pinned], laidTests := true, laidLooks := .later }
def FsimPlaysUptoCardSaid : Prop := Claim7.holds Tryz.pinned (.plain (OpenSpec.upto fsimPlaysSpec)) fsimPlaysUptoCard
end Rows
end Go.Proofs.YtoajnaopainpnaaGreatDoor
