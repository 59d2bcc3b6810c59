/-
  DERIVED. GIVEN WITH THE SEED: THE CARDS: each row of YtfgdmlmfgnhpaaaGreatDoorRows.lean that lists a variable, with what it lists TIED to the program's text (the seventh form; the later family's looks); each row that meets fmt, with fmt's text TOLD by the authors' own Lean function (tested against real Go, not proved from fmt's source: count such statements apart). THE CARD IS WHAT COUNTS. Prove the row's statement (the work); the ties are given (YtfgdmlmfgnhpaaaGreatDoorTie.lean); close each card by the builder's one call (the guide's Derived/Test/ToyasCard.lean, 'card_holds'). Laid BY PROGRAM, IN A SANDBOX (cutbox-door.mjs). By AI agents, Wed Nov 11 2026. No macro, syntax, notation, axiom, sorry.
-/
import Derived.Test.YtfgdmlmfgnhpaaaGreatDoorRows
import GoSem.ClaimSeven
namespace Go.Proofs.YtfgdmlmfgnhpaaaGreatDoor
namespace Rows

/-- THE TIED CARD OF 'marlaw13.ScanPlays'. -/
def scanPlaysCard : Claim7 := { stood := { row := scanPlaysRow, standIns := [], harness := (true, "9e0628d7f7a281aa22dffd57d0127e706845d3d745c59b9d96dfc1b9bcb17d58"), looks := false }, kinds := [], alts := [], laidByText := true, laidKinds := [.data, .data, .data, .pinned], laidTests := true, laidLooks := .later }
def ScanPlaysCardSaid : Prop := Claim7.holds Tryz.pinned (.plain (OpenSpec.ofChange scanPlaysSpec)) scanPlaysCard

/-- THE TIED CARD OF 'marlaw7.StoreLists'. -/
def storeListsCard : Claim7 := { stood := { row := storeListsRow, standIns := [], harness := (true, "9e0628d7f7a281aa22dffd57d0127e706845d3d745c59b9d96dfc1b9bcb17d58"), looks := false }, kinds := [], alts := [], laidByText := true, laidKinds := [.data, .data, .data, .pinned], laidTests := true, laidLooks := .later }
def StoreListsCardSaid : Prop := Claim7.holds Tryz.pinned (.plain (OpenSpec.ofChange storeListsSpec)) storeListsCard

/-- THE TIED CARD OF 'marlaw7.StorePlays'. -/
def storePlaysCard : Claim7 := { stood := { row := storePlaysRow, standIns := [], harness := (true, "9e0628d7f7a281aa22dffd57d0127e706845d3d745c59b9d96dfc1b9bcb17d58"), looks := false }, kinds := [], alts := [], laidByText := true, laidKinds := [.data, .data, .data, .pinned], laidTests := true, laidLooks := .later }
def StorePlaysCardSaid : Prop := Claim7.holds Tryz.pinned (.plain (OpenSpec.ofChange storePlaysSpec)) storePlaysCard

/-- THE TIED CARD OF 'marlaw16.TableMay'. -/
def tableMayCard : Claim7 := { stood := { row := tableMayRow, standIns := [], harness := (true, "9e0628d7f7a281aa22dffd57d0127e706845d3d745c59b9d96dfc1b9bcb17d58"), looks := false }, kinds := [], alts := [], laidByText := true, laidKinds := [.data, .data, .data, .pinned], laidTests := true, laidLooks := .later }
def TableMayCardSaid : Prop := Claim7.holds Tryz.pinned (.plain (OpenSpec.ofChange tableMaySpec)) tableMayCard

/-- THE TIED CARD OF 'marlaw16.TablePaths'. -/
def tablePathsCard : Claim7 := { stood := { row := tablePathsRow, standIns := [], harness := (true, "9e0628d7f7a281aa22dffd57d0127e706845d3d745c59b9d96dfc1b9bcb17d58"), looks := false }, kinds := [], alts := [], laidByText := true, laidKinds := [.data, .data, .data, .pinned], laidTests := true, laidLooks := .later }
def TablePathsCardSaid : Prop := Claim7.holds Tryz.pinned (.plain (OpenSpec.ofChange tablePathsSpec)) tablePathsCard

/-- THE SECOND FORM's CARD OF 'marlaw13.ScanPlays'. -/
def scanPlaysUptoCard : Claim7 := { stood := { row := scanPlaysUptoRow, standIns := [], harness := (true, "9e0628d7f7a281aa22dffd57d0127e706845d3d745c59b9d96dfc1b9bcb17d58"), looks := false }, kinds := [], alts := [], laidByText := true, laidKinds := [.data, .data, .data, .pinned], laidTests := true, laidLooks := .later }
def ScanPlaysUptoCardSaid : Prop := Claim7.holds Tryz.pinned (.plain (OpenSpec.upto scanPlaysSpec)) scanPlaysUptoCard

/-- THE SECOND FORM's CARD OF 'marlaw7.StoreLists'. -/
def storeListsUptoCard : Claim7 := { stood := { row := storeListsUptoRow, standIns := [], harness := (true, "9e0628d7f7a281aa22dffd57d0127e706845d3d745c59b9d96dfc1b9bcb17d58"), looks := false }, kinds := [], alts := [], laidByText := true, laidKinds := [.data, .data, .data, .pinned], laidTests := true, laidLooks := .later }
def StoreListsUptoCardSaid : Prop := Claim7.holds Tryz.pinned (.plain (OpenSpec.upto storeListsSpec)) storeListsUptoCard

/-- THE SECOND FORM's CARD OF 'marlaw7.StorePlays'. -/
def storePlaysUptoCard : Claim7 := { stood := { row := storePlaysUptoRow, standIns := [], harness := (true, "9e0628d7f7a281aa22dffd57d0127e706845d3d745c59b9d96dfc1b9bcb17d58"), looks := false }, kinds := [], alts := [], laidByText := true, laidKinds := [.data, .data, .data, .pinned], laidTests := true, laidLooks := .later }
def StorePlaysUptoCardSaid : Prop := Claim7.holds Tryz.pinned (.plain (OpenSpec.upto storePlaysSpec)) storePlaysUptoCard

/-- THE SECOND FORM's CARD OF 'marlaw16.TableMay'. -/
def tableMayUptoCard : Claim7 := { stood := { row := tableMayUptoRow, standIns := [], harness := (true, "9e0628d7f7a281aa22dffd57d0127e706845d3d745c59b9d96dfc1b9bcb17d58"), looks := false }, kinds := [], alts := [], laidByText := true, laidKinds := [.data, .data, .data, .pinned], laidTests := true, laidLooks := .later }
def TableMayUptoCardSaid : Prop := Claim7.holds Tryz.pinned (.plain (OpenSpec.upto tableMaySpec)) tableMayUptoCard

/-- THE SECOND FORM's CARD OF 'marlaw16.TablePaths'. -/
def tablePathsUptoCard : Claim7 := { stood := { row := tablePathsUptoRow, standIns := [], harness := (true, "9e0628d7f7a281aa22dffd57d0127e706845d3d745c59b9d96dfc1b9bcb17d58"), looks := false }, kinds := [], alts := [], laidByText := true, laidKinds := [.data, .data, .data, .pinned], laidTests := true, laidLooks := .later }
def TablePathsUptoCardSaid : Prop := Claim7.holds Tryz.pinned (.plain (OpenSpec.upto tablePathsSpec)) tablePathsUptoCard
end Rows
end Go.Proofs.YtfgdmlmfgnhpaaaGreatDoor
