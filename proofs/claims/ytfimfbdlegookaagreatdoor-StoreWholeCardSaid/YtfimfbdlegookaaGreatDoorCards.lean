/-
  DERIVED. GIVEN WITH THE SEED: THE CARDS: each row of YtfimfbdlegookaaGreatDoorRows.lean that lists a variable, with what it lists TIED to the program's text (the seventh form; the later family's looks); each row that meets fmt, with fmt's text TOLD by the authors' own Lean function (tested against real Go, not proved from fmt's source: count such statements apart). THE CARD IS WHAT COUNTS. Prove the row's statement (the work); the ties are given (YtfimfbdlegookaaGreatDoorTie.lean); close each card by the builder's one call (the guide's Derived/Test/ToyasCard.lean, 'card_holds'). Laid BY PROGRAM, IN A SANDBOX (cutbox-door.mjs). By AI agents, Wed Nov 11 2026. No macro, syntax, notation, axiom, sorry.
-/
import Derived.Test.YtfimfbdlegookaaGreatDoorRows
import GoSem.ClaimSeven
namespace Go.Proofs.YtfimfbdlegookaaGreatDoor
namespace Rows

/-- THE TIED CARD OF 'marlaw8.RefsApart'. -/
def refsApartCard : Claim7 := { stood := { row := refsApartRow, standIns := [], harness := (true, "a96a085b67d50a76f2d656ed7092bd33075878de2d83e016f3444920650fa8ea"), looks := false }, kinds := [], alts := [], laidByText := true, laidKinds := [.data, .data, .data, .pinned], laidTests := true, laidLooks := .later }
def RefsApartCardSaid : Prop := Claim7.holds Tryz.pinned (.plain (OpenSpec.ofChange refsApartSpec)) refsApartCard

/-- THE TIED CARD OF 'marlaw8.RefsExpect'. -/
def refsExpectCard : Claim7 := { stood := { row := refsExpectRow, standIns := [], harness := (true, "a96a085b67d50a76f2d656ed7092bd33075878de2d83e016f3444920650fa8ea"), looks := false }, kinds := [], alts := [], laidByText := true, laidKinds := [.data, .data, .data, .pinned], laidTests := true, laidLooks := .later }
def RefsExpectCardSaid : Prop := Claim7.holds Tryz.pinned (.plain (OpenSpec.ofChange refsExpectSpec)) refsExpectCard

/-- THE TIED CARD OF 'marlaw8.RefsEither'. -/
def refsEitherCard : Claim7 := { stood := { row := refsEitherRow, standIns := [], harness := (true, "a96a085b67d50a76f2d656ed7092bd33075878de2d83e016f3444920650fa8ea"), looks := false }, kinds := [], alts := [], laidByText := true, laidKinds := [.data, .data, .data, .pinned], laidTests := true, laidLooks := .later }
def RefsEitherCardSaid : Prop := Claim7.holds Tryz.pinned (.plain (OpenSpec.ofChange refsEitherSpec)) refsEitherCard

/-- THE TIED CARD OF 'marlaw8.RefsPlays'. -/
def refsPlaysCard : Claim7 := { stood := { row := refsPlaysRow, standIns := [], harness := (true, "a96a085b67d50a76f2d656ed7092bd33075878de2d83e016f3444920650fa8ea"), looks := false }, kinds := [], alts := [], laidByText := true, laidKinds := [.data, .data, .data, .pinned], laidTests := true, laidLooks := .later }
def RefsPlaysCardSaid : Prop := Claim7.holds Tryz.pinned (.plain (OpenSpec.ofChange refsPlaysSpec)) refsPlaysCard

/-- THE TIED CARD OF 'marlaw7.StoreWhole'. -/
def storeWholeCard : Claim7 := { stood := { row := storeWholeRow, standIns := [], harness := (true, "a96a085b67d50a76f2d656ed7092bd33075878de2d83e016f3444920650fa8ea"), looks := false }, kinds := [], alts := [], laidByText := true, laidKinds := [.data, .data, .data, .pinned], laidTests := true, laidLooks := .later }
def StoreWholeCardSaid : Prop := Claim7.holds Tryz.pinned (.plain (OpenSpec.ofChange storeWholeSpec)) storeWholeCard

/-- THE TIED CARD OF 'marlaw7.StoreLists'. -/
def storeListsCard : Claim7 := { stood := { row := storeListsRow, standIns := [], harness := (true, "a96a085b67d50a76f2d656ed7092bd33075878de2d83e016f3444920650fa8ea"), looks := false }, kinds := [], alts := [], laidByText := true, laidKinds := [.data, .data, .data, .pinned], laidTests := true, laidLooks := .later }
def StoreListsCardSaid : Prop := Claim7.holds Tryz.pinned (.plain (OpenSpec.ofChange storeListsSpec)) storeListsCard

/-- THE TIED CARD OF 'marlaw7.StorePlays'. -/
def storePlaysCard : Claim7 := { stood := { row := storePlaysRow, standIns := [], harness := (true, "a96a085b67d50a76f2d656ed7092bd33075878de2d83e016f3444920650fa8ea"), looks := false }, kinds := [], alts := [], laidByText := true, laidKinds := [.data, .data, .data, .pinned], laidTests := true, laidLooks := .later }
def StorePlaysCardSaid : Prop := Claim7.holds Tryz.pinned (.plain (OpenSpec.ofChange storePlaysSpec)) storePlaysCard

/-- THE SECOND FORM's CARD OF 'marlaw8.RefsApart'. -/
def refsApartUptoCard : Claim7 := { stood := { row := refsApartUptoRow, standIns := [], harness := (true, "a96a085b67d50a76f2d656ed7092bd33075878de2d83e016f3444920650fa8ea"), looks := false }, kinds := [], alts := [], laidByText := true, laidKinds := [.data, .data, .data, .pinned], laidTests := true, laidLooks := .later }
def RefsApartUptoCardSaid : Prop := Claim7.holds Tryz.pinned (.plain (OpenSpec.upto refsApartSpec)) refsApartUptoCard

/-- THE SECOND FORM's CARD OF 'marlaw8.RefsExpect'. -/
def refsExpectUptoCard : Claim7 := { stood := { row := refsExpectUptoRow, standIns := [], harness := (true, "a96a085b67d50a76f2d656ed7092bd33075878de2d83e016f3444920650fa8ea"), looks := false }, kinds := [], alts := [], laidByText := true, laidKinds := [.data, .data, .data, .pinned], laidTests := true, laidLooks := .later }
def RefsExpectUptoCardSaid : Prop := Claim7.holds Tryz.pinned (.plain (OpenSpec.upto refsExpectSpec)) refsExpectUptoCard

/-- THE SECOND FORM's CARD OF 'marlaw8.RefsEither'. -/
def refsEitherUptoCard : Claim7 := { stood := { row := refsEitherUptoRow, standIns := [], harness := (true, "a96a085b67d50a76f2d656ed7092bd33075878de2d83e016f3444920650fa8ea"), looks := false }, kinds := [], alts := [], laidByText := true, laidKinds := [.data, .data, .data, .pinned], laidTests := true, laidLooks := .later }
def RefsEitherUptoCardSaid : Prop := Claim7.holds Tryz.pinned (.plain (OpenSpec.upto refsEitherSpec)) refsEitherUptoCard

/-- THE SECOND FORM's CARD OF 'marlaw8.RefsPlays'. -/
def refsPlaysUptoCard : Claim7 := { stood := { row := refsPlaysUptoRow, standIns := [], harness := (true, "a96a085b67d50a76f2d656ed7092bd33075878de2d83e016f3444920650fa8ea"), looks := false }, kinds := [], alts := [], laidByText := true, laidKinds := [.data, .data, .data, .pinned], laidTests := true, laidLooks := .later }
def RefsPlaysUptoCardSaid : Prop := Claim7.holds Tryz.pinned (.plain (OpenSpec.upto refsPlaysSpec)) refsPlaysUptoCard

/-- THE SECOND FORM's CARD OF 'marlaw7.StoreWhole'. -/
def storeWholeUptoCard : Claim7 := { stood := { row := storeWholeUptoRow, standIns := [], harness := (true, "a96a085b67d50a76f2d656ed7092bd33075878de2d83e016f3444920650fa8ea"), looks := false }, kinds := [], alts := [], laidByText := true, laidKinds := [.data, .data, .data, .pinned], laidTests := true, laidLooks := .later }
def StoreWholeUptoCardSaid : Prop := Claim7.holds Tryz.pinned (.plain (OpenSpec.upto storeWholeSpec)) storeWholeUptoCard

/-- THE SECOND FORM's CARD OF 'marlaw7.StoreLists'. -/
def storeListsUptoCard : Claim7 := { stood := { row := storeListsUptoRow, standIns := [], harness := (true, "a96a085b67d50a76f2d656ed7092bd33075878de2d83e016f3444920650fa8ea"), looks := false }, kinds := [], alts := [], laidByText := true, laidKinds := [.data, .data, .data, .pinned], laidTests := true, laidLooks := .later }
def StoreListsUptoCardSaid : Prop := Claim7.holds Tryz.pinned (.plain (OpenSpec.upto storeListsSpec)) storeListsUptoCard

/-- THE SECOND FORM's CARD OF 'marlaw7.StorePlays'. -/
def storePlaysUptoCard : Claim7 := { stood := { row := storePlaysUptoRow, standIns := [], harness := (true, "a96a085b67d50a76f2d656ed7092bd33075878de2d83e016f3444920650fa8ea"), looks := false }, kinds := [], alts := [], laidByText := true, laidKinds := [.data, .data, .data, .pinned], laidTests := true, laidLooks := .later }
def StorePlaysUptoCardSaid : Prop := Claim7.holds Tryz.pinned (.plain (OpenSpec.upto storePlaysSpec)) storePlaysUptoCard
end Rows
end Go.Proofs.YtfimfbdlegookaaGreatDoor
