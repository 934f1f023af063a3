/-
  DERIVED. GIVEN WITH THE SEED: THE CARDS: each row of YtcpfebjhnbjfbaaGreatDoorRows.lean that lists a variable, with what it lists TIED to the program's text (the seventh form; the later family's looks); each row that meets fmt, with fmt's text TOLD by the authors' own Lean function (tested against real Go, not proved from fmt's source: count such statements apart). THE CARD IS WHAT COUNTS. Prove the row's statement (the work); the ties are given (YtcpfebjhnbjfbaaGreatDoorTie.lean); close each card by the builder's one call (the guide's Derived/Test/ToyasCard.lean, 'card_holds'). Laid BY PROGRAM, IN A SANDBOX (cutbox-door.mjs). By AI agents, Wed Nov 11 2026. No macro, syntax, notation, axiom, sorry.
-/
import Derived.Test.YtcpfebjhnbjfbaaGreatDoorRows
import GoSem.ClaimSeven
namespace Go.Proofs.YtcpfebjhnbjfbaaGreatDoor
namespace Rows

/-- THE TIED CARD OF 'overflightlaw14.AirspaceFlown'. -/
def airspaceFlownCard : Claim7 := { stood := { row := airspaceFlownRow, standIns := [], harness := (true, "86086fdb99ef3b1cb9483b2d06bf8c1d11ac445f0b494979f3af589e4b5f5b62"), looks := true }, kinds := [], alts := [], laidByText := true, laidKinds := [.data, .data, .data, .data, .data, .sentinel, .sentinel, .funcs], laidTests := true, laidLooks := .later }
def AirspaceFlownCardSaid : Prop := Claim7.holds Tryz.pinned (.plain (OpenSpec.ofChange airspaceFlownSpec)) airspaceFlownCard

/-- THE TIED CARD OF 'overflightlaw14.AirspaceSpaces'. -/
def airspaceSpacesCard : Claim7 := { stood := { row := airspaceSpacesRow, standIns := [], harness := (true, "86086fdb99ef3b1cb9483b2d06bf8c1d11ac445f0b494979f3af589e4b5f5b62"), looks := true }, kinds := [], alts := [], laidByText := true, laidKinds := [.data, .data, .data, .data, .data, .sentinel, .sentinel, .funcs], laidTests := true, laidLooks := .later }
def AirspaceSpacesCardSaid : Prop := Claim7.holds Tryz.pinned (.plain (OpenSpec.ofChange airspaceSpacesSpec)) airspaceSpacesCard

/-- THE TIED CARD OF 'overflightlaw14.AirspaceSectors'. -/
def airspaceSectorsCard : Claim7 := { stood := { row := airspaceSectorsRow, standIns := [], harness := (true, "86086fdb99ef3b1cb9483b2d06bf8c1d11ac445f0b494979f3af589e4b5f5b62"), looks := true }, kinds := [], alts := [], laidByText := true, laidKinds := [.data, .data, .data, .data, .data, .sentinel, .sentinel, .funcs], laidTests := true, laidLooks := .later }
def AirspaceSectorsCardSaid : Prop := Claim7.holds Tryz.pinned (.plain (OpenSpec.ofChange airspaceSectorsSpec)) airspaceSectorsCard

/-- THE TIED CARD OF 'overflightlaw14.AirspaceNames'. -/
def airspaceNamesCard : Claim7 := { stood := { row := airspaceNamesRow, standIns := [], harness := (true, "86086fdb99ef3b1cb9483b2d06bf8c1d11ac445f0b494979f3af589e4b5f5b62"), looks := true }, kinds := [], alts := [], laidByText := true, laidKinds := [.data, .data, .data, .data, .data, .sentinel, .sentinel, .funcs], laidTests := true, laidLooks := .later }
def AirspaceNamesCardSaid : Prop := Claim7.holds Tryz.pinned (.plain (OpenSpec.ofChange airspaceNamesSpec)) airspaceNamesCard

/-- THE TIED CARD OF 'overflightlaw14.AirspaceDigest'. -/
def airspaceDigestCard : Claim7 := { stood := { row := airspaceDigestRow, standIns := [], harness := (true, "86086fdb99ef3b1cb9483b2d06bf8c1d11ac445f0b494979f3af589e4b5f5b62"), looks := true }, kinds := [], alts := [], laidByText := true, laidKinds := [.data, .data, .data, .data, .data, .sentinel, .sentinel, .funcs], laidTests := true, laidLooks := .later }
def AirspaceDigestCardSaid : Prop := Claim7.holds Tryz.pinned (.plain (OpenSpec.ofChange airspaceDigestSpec)) airspaceDigestCard

/-- THE SECOND FORM's CARD OF 'overflightlaw14.AirspaceFlown'. -/
def airspaceFlownUptoCard : Claim7 := { stood := { row := airspaceFlownUptoRow, standIns := [], harness := (true, "86086fdb99ef3b1cb9483b2d06bf8c1d11ac445f0b494979f3af589e4b5f5b62"), looks := true }, kinds := [], alts := [], laidByText := true, laidKinds := [.data, .data, .data, .data, .data, .sentinel, .sentinel, .funcs], laidTests := true, laidLooks := .later }
def AirspaceFlownUptoCardSaid : Prop := Claim7.holds Tryz.pinned (.plain (OpenSpec.upto airspaceFlownSpec)) airspaceFlownUptoCard

/-- THE SECOND FORM's CARD OF 'overflightlaw14.AirspaceSpaces'. -/
def airspaceSpacesUptoCard : Claim7 := { stood := { row := airspaceSpacesUptoRow, standIns := [], harness := (true, "86086fdb99ef3b1cb9483b2d06bf8c1d11ac445f0b494979f3af589e4b5f5b62"), looks := true }, kinds := [], alts := [], laidByText := true, laidKinds := [.data, .data, .data, .data, .data, .sentinel, .sentinel, .funcs], laidTests := true, laidLooks := .later }
def AirspaceSpacesUptoCardSaid : Prop := Claim7.holds Tryz.pinned (.plain (OpenSpec.upto airspaceSpacesSpec)) airspaceSpacesUptoCard

/-- THE SECOND FORM's CARD OF 'overflightlaw14.AirspaceSectors'. -/
def airspaceSectorsUptoCard : Claim7 := { stood := { row := airspaceSectorsUptoRow, standIns := [], harness := (true, "86086fdb99ef3b1cb9483b2d06bf8c1d11ac445f0b494979f3af589e4b5f5b62"), looks := true }, kinds := [], alts := [], laidByText := true, laidKinds := [.data, .data, .data, .data, .data, .sentinel, .sentinel, .funcs], laidTests := true, laidLooks := .later }
def AirspaceSectorsUptoCardSaid : Prop := Claim7.holds Tryz.pinned (.plain (OpenSpec.upto airspaceSectorsSpec)) airspaceSectorsUptoCard

/-- THE SECOND FORM's CARD OF 'overflightlaw14.AirspaceNames'. -/
def airspaceNamesUptoCard : Claim7 := { stood := { row := airspaceNamesUptoRow, standIns := [], harness := (true, "86086fdb99ef3b1cb9483b2d06bf8c1d11ac445f0b494979f3af589e4b5f5b62"), looks := true }, kinds := [], alts := [], laidByText := true, laidKinds := [.data, .data, .data, .data, .data, .sentinel, .sentinel, .funcs], laidTests := true, laidLooks := .later }
def AirspaceNamesUptoCardSaid : Prop := Claim7.holds Tryz.pinned (.plain (OpenSpec.upto airspaceNamesSpec)) airspaceNamesUptoCard

/-- THE SECOND FORM's CARD OF 'overflightlaw14.AirspaceDigest'. -/
def airspaceDigestUptoCard : Claim7 := { stood := { row := airspaceDigestUptoRow, standIns := [], harness := (true, "86086fdb99ef3b1cb9483b2d06bf8c1d11ac445f0b494979f3af589e4b5f5b62"), looks := true }, kinds := [], alts := [], laidByText := true, laidKinds := [.data, .data, .data, .data, .data, .sentinel, .sentinel, .funcs], laidTests := true, laidLooks := .later }
def AirspaceDigestUptoCardSaid : Prop := Claim7.holds Tryz.pinned (.plain (OpenSpec.upto airspaceDigestSpec)) airspaceDigestUptoCard
end Rows
end Go.Proofs.YtcpfebjhnbjfbaaGreatDoor
