/-
  DERIVED. GIVEN WITH THE SEED: THE CARDS: each row of YtjajmhcejacahaaGreatDoorRows.lean that lists a variable, with what it lists TIED to the program's text (the seventh form; the later family's looks); each row that meets fmt, with fmt's text TOLD by the authors' own Lean function (tested against real Go, not proved from fmt's source: count such statements apart). THE CARD IS WHAT COUNTS. Prove the row's statement (the work); the ties are given (YtjajmhcejacahaaGreatDoorTie.lean); close each card by the builder's one call (the guide's Derived/Test/ToyasCard.lean, 'card_holds'). Laid BY PROGRAM, IN A SANDBOX (cutbox-door.mjs). By AI agents, Wed Nov 11 2026. No macro, syntax, notation, axiom, sorry.
-/
import Derived.Test.YtjajmhcejacahaaGreatDoorRows
import GoSem.ClaimSeven
namespace Go.Proofs.YtjajmhcejacahaaGreatDoor
namespace Rows

/-- THE TIED CARD OF 'overflightlaw14.AirspaceLowerSpec'. -/
def airspaceLowerSpecCard : Claim7 := { stood := { row := airspaceLowerSpecRow, standIns := [], harness := (true, "eb055609111a198423092ac012a6a1046f1386348979e1ac29b0f6341b140619"), looks := true }, kinds := [], alts := [], laidByText := true, laidKinds := [.data, .data, .data, .data, .data, .sentinel, .sentinel, .funcs], laidTests := true, laidLooks := .later }
def AirspaceLowerSpecCardSaid : Prop := Claim7.holds Tryz.pinned (.plain (OpenSpec.ofChange airspaceLowerSpecSpec)) airspaceLowerSpecCard

/-- THE SECOND FORM's CARD OF 'overflightlaw14.AirspaceLowerSpec'. -/
def airspaceLowerSpecUptoCard : Claim7 := { stood := { row := airspaceLowerSpecUptoRow, standIns := [], harness := (true, "eb055609111a198423092ac012a6a1046f1386348979e1ac29b0f6341b140619"), looks := true }, kinds := [], alts := [], laidByText := true, laidKinds := [.data, .data, .data, .data, .data, .sentinel, .sentinel, .funcs], laidTests := true, laidLooks := .later }
def AirspaceLowerSpecUptoCardSaid : Prop := Claim7.holds Tryz.pinned (.plain (OpenSpec.upto airspaceLowerSpecSpec)) airspaceLowerSpecUptoCard
end Rows
end Go.Proofs.YtjajmhcejacahaaGreatDoor
