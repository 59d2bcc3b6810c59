/-
  DERIVED. GIVEN WITH THE SEED: THE CARDS: each row of YtgfegpnmlkdjfaaGreatDoorRows.lean that lists a variable, with what it lists TIED to the program's text (the seventh form; the later family's looks); each row that meets fmt, with fmt's text TOLD by the authors' own Lean function (tested against real Go, not proved from fmt's source: count such statements apart). THE CARD IS WHAT COUNTS. Prove the row's statement (the work); the ties are given (YtgfegpnmlkdjfaaGreatDoorTie.lean); close each card by the builder's one call (the guide's Derived/Test/ToyasCard.lean, 'card_holds'). Laid BY PROGRAM, IN A SANDBOX (cutbox-door.mjs). By AI agents, Wed Nov 11 2026. No macro, syntax, notation, axiom, sorry.
-/
import Derived.Test.YtgfegpnmlkdjfaaGreatDoorRows
import GoSem.ClaimSeven
namespace Go.Proofs.YtgfegpnmlkdjfaaGreatDoor
namespace Rows

/-- THE TIED CARD OF 'marlaw17.ThreeTurns'. -/
def threeTurnsCard : Claim7 := { stood := { row := threeTurnsRow, standIns := [], harness := (true, "f1eaddf02a5b5300454141820a5c6ae1e3c5012fa0d4e8f54104d2e17f8fc207"), looks := false }, kinds := [], alts := [], laidByText := true, laidKinds := [.data, .data, .data, .pinned], laidTests := true, laidLooks := .later }
def ThreeTurnsCardSaid : Prop := Claim7.holds Tryz.pinned (.plain (OpenSpec.ofChange threeTurnsSpec)) threeTurnsCard

/-- THE TIED CARD OF 'marlaw17.ThreeKeeps'. -/
def threeKeepsCard : Claim7 := { stood := { row := threeKeepsRow, standIns := [], harness := (true, "f1eaddf02a5b5300454141820a5c6ae1e3c5012fa0d4e8f54104d2e17f8fc207"), looks := false }, kinds := [], alts := [], laidByText := true, laidKinds := [.data, .data, .data, .pinned], laidTests := true, laidLooks := .later }
def ThreeKeepsCardSaid : Prop := Claim7.holds Tryz.pinned (.plain (OpenSpec.ofChange threeKeepsSpec)) threeKeepsCard

/-- THE TIED CARD OF 'marlaw17.ThreeTold'. -/
def threeToldCard : Claim7 := { stood := { row := threeToldRow, standIns := [], harness := (true, "f1eaddf02a5b5300454141820a5c6ae1e3c5012fa0d4e8f54104d2e17f8fc207"), looks := false }, kinds := [], alts := [], laidByText := true, laidKinds := [.data, .data, .data, .pinned], laidTests := true, laidLooks := .later }
def ThreeToldCardSaid : Prop := Claim7.holds Tryz.pinned (.plain (OpenSpec.ofChange threeToldSpec)) threeToldCard

/-- THE SECOND FORM's CARD OF 'marlaw17.ThreeTurns'. -/
def threeTurnsUptoCard : Claim7 := { stood := { row := threeTurnsUptoRow, standIns := [], harness := (true, "f1eaddf02a5b5300454141820a5c6ae1e3c5012fa0d4e8f54104d2e17f8fc207"), looks := false }, kinds := [], alts := [], laidByText := true, laidKinds := [.data, .data, .data, .pinned], laidTests := true, laidLooks := .later }
def ThreeTurnsUptoCardSaid : Prop := Claim7.holds Tryz.pinned (.plain (OpenSpec.upto threeTurnsSpec)) threeTurnsUptoCard

/-- THE SECOND FORM's CARD OF 'marlaw17.ThreeKeeps'. -/
def threeKeepsUptoCard : Claim7 := { stood := { row := threeKeepsUptoRow, standIns := [], harness := (true, "f1eaddf02a5b5300454141820a5c6ae1e3c5012fa0d4e8f54104d2e17f8fc207"), looks := false }, kinds := [], alts := [], laidByText := true, laidKinds := [.data, .data, .data, .pinned], laidTests := true, laidLooks := .later }
def ThreeKeepsUptoCardSaid : Prop := Claim7.holds Tryz.pinned (.plain (OpenSpec.upto threeKeepsSpec)) threeKeepsUptoCard

/-- THE SECOND FORM's CARD OF 'marlaw17.ThreeTold'. -/
def threeToldUptoCard : Claim7 := { stood := { row := threeToldUptoRow, standIns := [], harness := (true, "f1eaddf02a5b5300454141820a5c6ae1e3c5012fa0d4e8f54104d2e17f8fc207"), looks := false }, kinds := [], alts := [], laidByText := true, laidKinds := [.data, .data, .data, .pinned], laidTests := true, laidLooks := .later }
def ThreeToldUptoCardSaid : Prop := Claim7.holds Tryz.pinned (.plain (OpenSpec.upto threeToldSpec)) threeToldUptoCard
end Rows
end Go.Proofs.YtgfegpnmlkdjfaaGreatDoor
