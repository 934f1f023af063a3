/-
  DERIVED. GIVEN WITH THE SEED: THE CARDS: each row of YtpijakedfmencaaGreatDoorRows.lean that lists a variable, with what it lists TIED to the program's text (the seventh form; the later family's looks); each row that meets fmt, with fmt's text TOLD by the authors' own Lean function (tested against real Go, not proved from fmt's source: count such statements apart). THE CARD IS WHAT COUNTS. Prove the row's statement (the work); the ties are given (YtpijakedfmencaaGreatDoorTie.lean); close each card by the builder's one call (the guide's Derived/Test/ToyasCard.lean, 'card_holds'). Laid BY PROGRAM, IN A SANDBOX (cutbox-door.mjs). By AI agents, Wed Nov 11 2026. No macro, syntax, notation, axiom, sorry.
-/
import Derived.Test.YtpijakedfmencaaGreatDoorRows
import GoSem.ClaimSeven
namespace Go.Proofs.YtpijakedfmencaaGreatDoor
namespace Rows

/-- THE TIED CARD OF 'overflightlaw14.AirspaceCheckSpec'. -/
def airspaceCheckSpecCard : Claim7 := { stood := { row := airspaceCheckSpecRow, standIns := [], harness := (true, "d414e78e89c91cf0a8f23607545b30d82a865bc308289defb6cdaa75bc35f3c8"), looks := true }, kinds := [], alts := [], laidByText := true, laidKinds := [.data, .data, .data, .data, .data, .sentinel, .sentinel, .funcs], laidTests := true, laidLooks := .later }
def AirspaceCheckSpecCardSaid : Prop := Claim7.holds Tryz.pinned (.plain (OpenSpec.ofChange airspaceCheckSpecSpec)) airspaceCheckSpecCard

/-- THE SECOND FORM's CARD OF 'overflightlaw14.AirspaceCheckSpec'. -/
def airspaceCheckSpecUptoCard : Claim7 := { stood := { row := airspaceCheckSpecUptoRow, standIns := [], harness := (true, "d414e78e89c91cf0a8f23607545b30d82a865bc308289defb6cdaa75bc35f3c8"), looks := true }, kinds := [], alts := [], laidByText := true, laidKinds := [.data, .data, .data, .data, .data, .sentinel, .sentinel, .funcs], laidTests := true, laidLooks := .later }
def AirspaceCheckSpecUptoCardSaid : Prop := Claim7.holds Tryz.pinned (.plain (OpenSpec.upto airspaceCheckSpecSpec)) airspaceCheckSpecUptoCard
end Rows
end Go.Proofs.YtpijakedfmencaaGreatDoor
