/-
  DERIVED. GIVEN WITH THE SEED: THE CARDS: each row of YtnoinnijgnfhiaaGreatDoorRows.lean that lists a variable, with what it lists TIED to the program's text (the seventh form; the later family's looks); each row that meets fmt, with fmt's text TOLD by the authors' own Lean function (tested against real Go, not proved from fmt's source: count such statements apart). THE CARD IS WHAT COUNTS. Prove the row's statement (the work); the ties are given (YtnoinnijgnfhiaaGreatDoorTie.lean); close each card by the builder's one call (the guide's Derived/Test/ToyasCard.lean, 'card_holds'). Laid BY PROGRAM, IN A SANDBOX (cutbox-door.mjs). By AI agents, Wed Nov 11 2026. No macro, syntax, notation, axiom, sorry.
-/
import Derived.Test.YtnoinnijgnfhiaaGreatDoorRows
import GoSem.ClaimSeven
namespace Go.Proofs.YtnoinnijgnfhiaaGreatDoor
namespace Rows

/-- THE TIED CARD OF 'overflightlaw40.RoundsFair'. -/
def roundsFairCard : Claim7 := { stood := { row := roundsFairRow, standIns := [], harness := (true, "713377a7c8e2c613e0d74891bbe4c3ec6ab33a4a12ad97acb2b8c8b7bbbe4a2e"), looks := true }, kinds := [], alts := [], laidByText := true, laidKinds := [.data, .data, .funcs], laidTests := true, laidLooks := .later }
def RoundsFairCardSaid : Prop := Claim7.holds Tryz.pinned (.plain (OpenSpec.ofChange roundsFairSpec)) roundsFairCard

/-- THE TIED CARD OF 'overflightlaw40.RoundsOrder'. -/
def roundsOrderCard : Claim7 := { stood := { row := roundsOrderRow, standIns := [], harness := (true, "713377a7c8e2c613e0d74891bbe4c3ec6ab33a4a12ad97acb2b8c8b7bbbe4a2e"), looks := true }, kinds := [], alts := [], laidByText := true, laidKinds := [.data, .data, .funcs], laidTests := true, laidLooks := .later }
def RoundsOrderCardSaid : Prop := Claim7.holds Tryz.pinned (.plain (OpenSpec.ofChange roundsOrderSpec)) roundsOrderCard

/-- THE TIED CARD OF 'overflightlaw40.RoundsValid'. -/
def roundsValidCard : Claim7 := { stood := { row := roundsValidRow, standIns := [], harness := (true, "713377a7c8e2c613e0d74891bbe4c3ec6ab33a4a12ad97acb2b8c8b7bbbe4a2e"), looks := true }, kinds := [], alts := [], laidByText := true, laidKinds := [.data, .data, .funcs], laidTests := true, laidLooks := .later }
def RoundsValidCardSaid : Prop := Claim7.holds Tryz.pinned (.plain (OpenSpec.ofChange roundsValidSpec)) roundsValidCard

/-- THE TIED CARD OF 'overflightlaw40.RoundsOpenings'. -/
def roundsOpeningsCard : Claim7 := { stood := { row := roundsOpeningsRow, standIns := [], harness := (true, "713377a7c8e2c613e0d74891bbe4c3ec6ab33a4a12ad97acb2b8c8b7bbbe4a2e"), looks := true }, kinds := [], alts := [], laidByText := true, laidKinds := [.data, .data, .funcs], laidTests := true, laidLooks := .later }
def RoundsOpeningsCardSaid : Prop := Claim7.holds Tryz.pinned (.plain (OpenSpec.ofChange roundsOpeningsSpec)) roundsOpeningsCard

/-- THE TIED CARD OF 'overflightlaw40.RoundsLeases'. -/
def roundsLeasesCard : Claim7 := { stood := { row := roundsLeasesRow, standIns := [], harness := (true, "713377a7c8e2c613e0d74891bbe4c3ec6ab33a4a12ad97acb2b8c8b7bbbe4a2e"), looks := true }, kinds := [], alts := [], laidByText := true, laidKinds := [.data, .data, .funcs], laidTests := true, laidLooks := .later }
def RoundsLeasesCardSaid : Prop := Claim7.holds Tryz.pinned (.plain (OpenSpec.ofChange roundsLeasesSpec)) roundsLeasesCard

/-- THE SECOND FORM's CARD OF 'overflightlaw40.RoundsFair'. -/
def roundsFairUptoCard : Claim7 := { stood := { row := roundsFairUptoRow, standIns := [], harness := (true, "713377a7c8e2c613e0d74891bbe4c3ec6ab33a4a12ad97acb2b8c8b7bbbe4a2e"), looks := true }, kinds := [], alts := [], laidByText := true, laidKinds := [.data, .data, .funcs], laidTests := true, laidLooks := .later }
def RoundsFairUptoCardSaid : Prop := Claim7.holds Tryz.pinned (.plain (OpenSpec.upto roundsFairSpec)) roundsFairUptoCard

/-- THE SECOND FORM's CARD OF 'overflightlaw40.RoundsOrder'. -/
def roundsOrderUptoCard : Claim7 := { stood := { row := roundsOrderUptoRow, standIns := [], harness := (true, "713377a7c8e2c613e0d74891bbe4c3ec6ab33a4a12ad97acb2b8c8b7bbbe4a2e"), looks := true }, kinds := [], alts := [], laidByText := true, laidKinds := [.data, .data, .funcs], laidTests := true, laidLooks := .later }
def RoundsOrderUptoCardSaid : Prop := Claim7.holds Tryz.pinned (.plain (OpenSpec.upto roundsOrderSpec)) roundsOrderUptoCard

/-- THE SECOND FORM's CARD OF 'overflightlaw40.RoundsValid'. -/
def roundsValidUptoCard : Claim7 := { stood := { row := roundsValidUptoRow, standIns := [], harness := (true, "713377a7c8e2c613e0d74891bbe4c3ec6ab33a4a12ad97acb2b8c8b7bbbe4a2e"), looks := true }, kinds := [], alts := [], laidByText := true, laidKinds := [.data, .data, .funcs], laidTests := true, laidLooks := .later }
def RoundsValidUptoCardSaid : Prop := Claim7.holds Tryz.pinned (.plain (OpenSpec.upto roundsValidSpec)) roundsValidUptoCard

/-- THE SECOND FORM's CARD OF 'overflightlaw40.RoundsOpenings'. -/
def roundsOpeningsUptoCard : Claim7 := { stood := { row := roundsOpeningsUptoRow, standIns := [], harness := (true, "713377a7c8e2c613e0d74891bbe4c3ec6ab33a4a12ad97acb2b8c8b7bbbe4a2e"), looks := true }, kinds := [], alts := [], laidByText := true, laidKinds := [.data, .data, .funcs], laidTests := true, laidLooks := .later }
def RoundsOpeningsUptoCardSaid : Prop := Claim7.holds Tryz.pinned (.plain (OpenSpec.upto roundsOpeningsSpec)) roundsOpeningsUptoCard

/-- THE SECOND FORM's CARD OF 'overflightlaw40.RoundsLeases'. -/
def roundsLeasesUptoCard : Claim7 := { stood := { row := roundsLeasesUptoRow, standIns := [], harness := (true, "713377a7c8e2c613e0d74891bbe4c3ec6ab33a4a12ad97acb2b8c8b7bbbe4a2e"), looks := true }, kinds := [], alts := [], laidByText := true, laidKinds := [.data, .data, .funcs], laidTests := true, laidLooks := .later }
def RoundsLeasesUptoCardSaid : Prop := Claim7.holds Tryz.pinned (.plain (OpenSpec.upto roundsLeasesSpec)) roundsLeasesUptoCard
end Rows
end Go.Proofs.YtnoinnijgnfhiaaGreatDoor
