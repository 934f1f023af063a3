/-
  DERIVED. GIVEN WITH THE SEED: THE CARDS: each row of YtlephacmljbibaaGreatDoorRows.lean that lists a variable, with what it lists TIED to the program's text (the seventh form; the later family's looks); each row that meets fmt, with fmt's text TOLD by the authors' own Lean function (tested against real Go, not proved from fmt's source: count such statements apart). THE CARD IS WHAT COUNTS. Prove the row's statement (the work); the ties are given (YtlephacmljbibaaGreatDoorTie.lean); close each card by the builder's one call (the guide's Derived/Test/ToyasCard.lean, 'card_holds'). Laid BY PROGRAM, IN A SANDBOX (cutbox-door.mjs). By AI agents, Wed Nov 11 2026. No macro, syntax, notation, axiom, sorry.
-/
import Derived.Test.YtlephacmljbibaaGreatDoorRows
import GoSem.ClaimSeven
namespace Go.Proofs.YtlephacmljbibaaGreatDoor
namespace Rows

/-- THE TIED CARD OF 'overflightlaw09.NamesPrinted'. -/
def namesPrintedCard : Claim7 := { stood := { row := namesPrintedRow, standIns := [], harness := (true, "012891653ad54ab8fd51d8ff139b08c754432513b553ae68155e09317b293420"), looks := true }, kinds := [], alts := [], laidByText := true, laidKinds := [.data, .data, .data, .sentinel, .sentinel, .funcs], laidTests := true, laidLooks := .later }
def NamesPrintedCardSaid : Prop := Claim7.holds Tryz.pinned (.plain (OpenSpec.ofChange namesPrintedSpec)) namesPrintedCard

/-- THE SECOND FORM's CARD OF 'overflightlaw09.NamesPrinted'. -/
def namesPrintedUptoCard : Claim7 := { stood := { row := namesPrintedUptoRow, standIns := [], harness := (true, "012891653ad54ab8fd51d8ff139b08c754432513b553ae68155e09317b293420"), looks := true }, kinds := [], alts := [], laidByText := true, laidKinds := [.data, .data, .data, .sentinel, .sentinel, .funcs], laidTests := true, laidLooks := .later }
def NamesPrintedUptoCardSaid : Prop := Claim7.holds Tryz.pinned (.plain (OpenSpec.upto namesPrintedSpec)) namesPrintedUptoCard
end Rows
end Go.Proofs.YtlephacmljbibaaGreatDoor
