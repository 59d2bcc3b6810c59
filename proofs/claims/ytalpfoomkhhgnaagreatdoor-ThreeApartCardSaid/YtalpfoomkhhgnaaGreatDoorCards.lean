/-
  DERIVED. GIVEN WITH THE SEED: THE CARDS: each row of YtalpfoomkhhgnaaGreatDoorRows.lean that lists a variable, with what it lists TIED to the program's text (the seventh form; the later family's looks); each row that meets fmt, with fmt's text TOLD by the authors' own Lean function (tested against real Go, not proved from fmt's source: count such statements apart). THE CARD IS WHAT COUNTS. Prove the row's statement (the work); the ties are given (YtalpfoomkhhgnaaGreatDoorTie.lean); close each card by the builder's one call (the guide's Derived/Test/ToyasCard.lean, 'card_holds'). Laid BY PROGRAM, IN A SANDBOX (cutbox-door.mjs). By AI agents, Wed Nov 11 2026. No macro, syntax, notation, axiom, sorry.
-/
import Derived.Test.YtalpfoomkhhgnaaGreatDoorRows
import GoSem.ClaimSeven
namespace Go.Proofs.YtalpfoomkhhgnaaGreatDoor
namespace Rows

/-- THE TIED CARD OF 'marlaw16.TableSets'. -/
def tableSetsCard : Claim7 := { stood := { row := tableSetsRow, standIns := [], harness := (true, "d32b05ab1e451233596fbac20dfabfa1b5053c93640fd7b3b56070304a177e57"), looks := false }, kinds := [], alts := [], laidByText := true, laidKinds := [.data, .data, .data, .pinned], laidTests := true, laidLooks := .later }
def TableSetsCardSaid : Prop := Claim7.holds Tryz.pinned (.plain (OpenSpec.ofChange tableSetsSpec)) tableSetsCard

/-- THE TIED CARD OF 'marlaw17.ThreeApart'. -/
def threeApartCard : Claim7 := { stood := { row := threeApartRow, standIns := [], harness := (true, "d32b05ab1e451233596fbac20dfabfa1b5053c93640fd7b3b56070304a177e57"), looks := false }, kinds := [], alts := [], laidByText := true, laidKinds := [.data, .data, .data, .pinned], laidTests := true, laidLooks := .later }
def ThreeApartCardSaid : Prop := Claim7.holds Tryz.pinned (.plain (OpenSpec.ofChange threeApartSpec)) threeApartCard

/-- THE TIED CARD OF 'marlaw17.ThreeLoses'. -/
def threeLosesCard : Claim7 := { stood := { row := threeLosesRow, standIns := [], harness := (true, "d32b05ab1e451233596fbac20dfabfa1b5053c93640fd7b3b56070304a177e57"), looks := false }, kinds := [], alts := [], laidByText := true, laidKinds := [.data, .data, .data, .pinned], laidTests := true, laidLooks := .later }
def ThreeLosesCardSaid : Prop := Claim7.holds Tryz.pinned (.plain (OpenSpec.ofChange threeLosesSpec)) threeLosesCard

/-- THE SECOND FORM's CARD OF 'marlaw16.TableSets'. -/
def tableSetsUptoCard : Claim7 := { stood := { row := tableSetsUptoRow, standIns := [], harness := (true, "d32b05ab1e451233596fbac20dfabfa1b5053c93640fd7b3b56070304a177e57"), looks := false }, kinds := [], alts := [], laidByText := true, laidKinds := [.data, .data, .data, .pinned], laidTests := true, laidLooks := .later }
def TableSetsUptoCardSaid : Prop := Claim7.holds Tryz.pinned (.plain (OpenSpec.upto tableSetsSpec)) tableSetsUptoCard

/-- THE SECOND FORM's CARD OF 'marlaw17.ThreeApart'. -/
def threeApartUptoCard : Claim7 := { stood := { row := threeApartUptoRow, standIns := [], harness := (true, "d32b05ab1e451233596fbac20dfabfa1b5053c93640fd7b3b56070304a177e57"), looks := false }, kinds := [], alts := [], laidByText := true, laidKinds := [.data, .data, .data, .pinned], laidTests := true, laidLooks := .later }
def ThreeApartUptoCardSaid : Prop := Claim7.holds Tryz.pinned (.plain (OpenSpec.upto threeApartSpec)) threeApartUptoCard

/-- THE SECOND FORM's CARD OF 'marlaw17.ThreeLoses'. -/
def threeLosesUptoCard : Claim7 := { stood := { row := threeLosesUptoRow, standIns := [], harness := (true, "d32b05ab1e451233596fbac20dfabfa1b5053c93640fd7b3b56070304a177e57"), looks := false }, kinds := [], alts := [], laidByText := true, laidKinds := [.data, .data, .data, .pinned], laidTests := true, laidLooks := .later }
def ThreeLosesUptoCardSaid : Prop := Claim7.holds Tryz.pinned (.plain (OpenSpec.upto threeLosesSpec)) threeLosesUptoCard
end Rows
end Go.Proofs.YtalpfoomkhhgnaaGreatDoor
