/-
  DERIVED. GIVEN WITH THE SEED: THE CARDS: each row of YthpjjoanecpemaaGreatDoorRows.lean that lists a variable, with what it lists TIED to the program's text (the seventh form; the later family's looks); each row that meets fmt, with fmt's text TOLD by the authors' own Lean function (tested against real Go, not proved from fmt's source: count such statements apart). THE CARD IS WHAT COUNTS. Prove the row's statement (the work); the ties are given (YthpjjoanecpemaaGreatDoorTie.lean); close each card by the builder's one call (the guide's Derived/Test/ToyasCard.lean, 'card_holds'). Laid BY PROGRAM, IN A SANDBOX (cutbox-door.mjs). By AI agents, Wed Nov 11 2026. No macro, syntax, notation, axiom, sorry.
-/
import Derived.Test.YthpjjoanecpemaaGreatDoorRows
import GoSem.ClaimSeven
namespace Go.Proofs.YthpjjoanecpemaaGreatDoor
namespace Rows

/-- THE TIED CARD OF 'overflightlaw14.AirspaceSource'. -/
def airspaceSourceCard : Claim7 := { stood := { row := airspaceSourceRow, standIns := [], harness := (true, "b8133216628392a55b393202b1e11f3ddf37e2df33088e5ce98396ee07dbdacd"), looks := true }, kinds := [], alts := [], laidByText := true, laidKinds := [.data, .data, .data, .data, .data, .sentinel, .sentinel, .funcs], laidTests := true, laidLooks := .later }
def AirspaceSourceCardSaid : Prop := Claim7.holds Tryz.pinned (.plain (OpenSpec.ofChange airspaceSourceSpec)) airspaceSourceCard

/-- THE SECOND FORM's CARD OF 'overflightlaw14.AirspaceSource'. -/
def airspaceSourceUptoCard : Claim7 := { stood := { row := airspaceSourceUptoRow, standIns := [], harness := (true, "b8133216628392a55b393202b1e11f3ddf37e2df33088e5ce98396ee07dbdacd"), looks := true }, kinds := [], alts := [], laidByText := true, laidKinds := [.data, .data, .data, .data, .data, .sentinel, .sentinel, .funcs], laidTests := true, laidLooks := .later }
def AirspaceSourceUptoCardSaid : Prop := Claim7.holds Tryz.pinned (.plain (OpenSpec.upto airspaceSourceSpec)) airspaceSourceUptoCard
end Rows
end Go.Proofs.YthpjjoanecpemaaGreatDoor
