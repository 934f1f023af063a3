/-
  No cell of these rows narrows 'for every input' (looked for: loops, veiled, ifaces, maps, wideKeys, modest, calm, conditions, laid).
  DERIVED. THE GIVEN ROWS OF THIS SEAT. 5 by the template 'for every input the law returns true; each argument reads behind the call as it read before'; 0 by the template 'total and deterministic' (their statements: YtjmofjoifnhloaaTotals.lean).
  GIVEN WITH THE SEED: the statements are not yours to turn. If you find one false, say at which input.
  Laid BY PROGRAM, IN A SANDBOX (cutbox-rows.mjs): the forced cells as the released guide's own fill.sh prints them over the translation 76675ae021ed085c… (all of the seat's roots in one cut). By AI agents, Wed Nov 11 2026. No macro, syntax, notation, axiom, sorry.
-/
import Derived.Test.YtjmofjoifnhloaaChecked
import GoSem.Claim
import GoSem.ClaimJoined
import GoSem.ClaimMapViews
import Derived.JoinedTies
import Derived.KernelRfl
namespace Go.Proofs.Ytjmofjoifnhloaa
/- THE CELL 'sum', in the pinned program and in every row, IS THE sha256 OF THE DUMP (.gsa) THAT YtjmofjoifnhloaaProg.lean LOADS. Nothing in Lean hashes anything: it is a label: what it is worth is what the hold of that sum in a sandbox is worth. -/
noncomputable def Try.pinned : Pinned := { name := "ytjmofjoifnhloaa", sum := "76675ae021ed085c1ad775bdbd66c1476d46e5205e8d64ff896f15ddbb1c92c1", checked := Try.checked }
namespace Rows
def none {H : Type} : Left H := { results := [], args := [] }

/-- 'overflightlaw11.OpeningMinutesSpec': WHATEVER THE INPUT: true; the input reads as it did. -/
def openingMinutesSpecSpec : ChangeSpec := { name := "openingMinutesSpec", fn := fun _ => fun
  | [d1, d2] => { results := [.lit (.bool true)], args := [d1, d2] }
  | _ => none }
def openingMinutesSpecRow : OpenClaim := { program := "ytjmofjoifnhloaa", sum := "76675ae021ed085c1ad775bdbd66c1476d46e5205e8d64ff896f15ddbb1c92c1", func := "overflight/overflightlaw11.OpeningMinutesSpec", spec := "openingMinutesSpec", unfollowed := true, recurses := true, apart := false }
def OpeningMinutesSpecSaid : Prop := openingMinutesSpecRow.holds Try.pinned (OpenSpec.ofChange openingMinutesSpecSpec)

/-- ITS FALSE NEIGHBOUR: 'it returns false'. Refute it at one input. -/
def openingMinutesSpecWrong : ChangeSpec := { name := "openingMinutesSpec", fn := fun _ => fun
  | [d1, d2] => { results := [.lit (.bool false)], args := [d1, d2] }
  | _ => none }
def OpeningMinutesSpecWrongFalsely : Prop := openingMinutesSpecRow.holds Try.pinned (OpenSpec.ofChange openingMinutesSpecWrong)

/-- 'overflightlaw11.OpeningPassableSpec': WHATEVER THE INPUT: true; the input reads as it did. -/
def openingPassableSpecSpec : ChangeSpec := { name := "openingPassableSpec", fn := fun _ => fun
  | [d] => { results := [.lit (.bool true)], args := [d] }
  | _ => none }
def openingPassableSpecRow : OpenClaim := { program := "ytjmofjoifnhloaa", sum := "76675ae021ed085c1ad775bdbd66c1476d46e5205e8d64ff896f15ddbb1c92c1", func := "overflight/overflightlaw11.OpeningPassableSpec", spec := "openingPassableSpec", unfollowed := true, recurses := true, apart := false }
def OpeningPassableSpecSaid : Prop := openingPassableSpecRow.holds Try.pinned (OpenSpec.ofChange openingPassableSpecSpec)

/-- ITS FALSE NEIGHBOUR: 'it returns false'. Refute it at one input. -/
def openingPassableSpecWrong : ChangeSpec := { name := "openingPassableSpec", fn := fun _ => fun
  | [d] => { results := [.lit (.bool false)], args := [d] }
  | _ => none }
def OpeningPassableSpecWrongFalsely : Prop := openingPassableSpecRow.holds Try.pinned (OpenSpec.ofChange openingPassableSpecWrong)

/-- 'overflightlaw11.OpeningBlocked': WHATEVER THE INPUT: true; the input reads as it did. -/
def openingBlockedSpec : ChangeSpec := { name := "openingBlocked", fn := fun _ => fun
  | [d] => { results := [.lit (.bool true)], args := [d] }
  | _ => none }
def openingBlockedRow : OpenClaim := { program := "ytjmofjoifnhloaa", sum := "76675ae021ed085c1ad775bdbd66c1476d46e5205e8d64ff896f15ddbb1c92c1", func := "overflight/overflightlaw11.OpeningBlocked", spec := "openingBlocked", unfollowed := true, recurses := true, apart := false }
def OpeningBlockedSaid : Prop := openingBlockedRow.holds Try.pinned (OpenSpec.ofChange openingBlockedSpec)

/-- ITS FALSE NEIGHBOUR: 'it returns false'. Refute it at one input. -/
def openingBlockedWrong : ChangeSpec := { name := "openingBlocked", fn := fun _ => fun
  | [d] => { results := [.lit (.bool false)], args := [d] }
  | _ => none }
def OpeningBlockedWrongFalsely : Prop := openingBlockedRow.holds Try.pinned (OpenSpec.ofChange openingBlockedWrong)

/-- 'overflightlaw11.OpeningAlways': WHATEVER THE INPUT: true; the input reads as it did. -/
def openingAlwaysSpec : ChangeSpec := { name := "openingAlways", fn := fun _ => fun
  | [d] => { results := [.lit (.bool true)], args := [d] }
  | _ => none }
def openingAlwaysRow : OpenClaim := { program := "ytjmofjoifnhloaa", sum := "76675ae021ed085c1ad775bdbd66c1476d46e5205e8d64ff896f15ddbb1c92c1", func := "overflight/overflightlaw11.OpeningAlways", spec := "openingAlways", unfollowed := true, recurses := true, apart := false }
def OpeningAlwaysSaid : Prop := openingAlwaysRow.holds Try.pinned (OpenSpec.ofChange openingAlwaysSpec)

/-- ITS FALSE NEIGHBOUR: 'it returns false'. Refute it at one input. -/
def openingAlwaysWrong : ChangeSpec := { name := "openingAlways", fn := fun _ => fun
  | [d] => { results := [.lit (.bool false)], args := [d] }
  | _ => none }
def OpeningAlwaysWrongFalsely : Prop := openingAlwaysRow.holds Try.pinned (OpenSpec.ofChange openingAlwaysWrong)

/-- 'overflightlaw11.OpeningClosed': WHATEVER THE INPUT: true; the input reads as it did. -/
def openingClosedSpec : ChangeSpec := { name := "openingClosed", fn := fun _ => fun
  | [d1, d2, d3] => { results := [.lit (.bool true)], args := [d1, d2, d3] }
  | _ => none }
def openingClosedRow : OpenClaim := { program := "ytjmofjoifnhloaa", sum := "76675ae021ed085c1ad775bdbd66c1476d46e5205e8d64ff896f15ddbb1c92c1", func := "overflight/overflightlaw11.OpeningClosed", spec := "openingClosed", unfollowed := true, recurses := true, apart := false }
def OpeningClosedSaid : Prop := openingClosedRow.holds Try.pinned (OpenSpec.ofChange openingClosedSpec)

/-- ITS FALSE NEIGHBOUR: 'it returns false'. Refute it at one input. -/
def openingClosedWrong : ChangeSpec := { name := "openingClosed", fn := fun _ => fun
  | [d1, d2, d3] => { results := [.lit (.bool false)], args := [d1, d2, d3] }
  | _ => none }
def OpeningClosedWrongFalsely : Prop := openingClosedRow.holds Try.pinned (OpenSpec.ofChange openingClosedWrong)

/- THE SECOND FORM. 'bulk': how many values and letters a reading holds, each counted each time it is reached (what is shared counts as often as it is met; a slice's spare places count too). A statement '..UptoSaid' is the law's where the arguments, and the package variables that the reading takes, are together of bulk at most 1048576: NARROWER than '..Said'. Prove '..Said' where nothing that the law and all that it calls make is longer than what came in: it says more and counts as full. Else prove '..UptoSaid'. A law counts once. -/
mutual
def uptoBulk {H : Type} : DataW H → Nat
  | .lit (.string bytes) => bytes.length + 1
  | .lit _ => 1
  | .nil => 1
  | .ptr d => uptoBulk d + 1
  | .slice elems spare => uptoBulkAll elems + uptoBulkAll spare + 1
  | .agg parts => uptoBulkAll parts + 1
  | .iface _ d => uptoBulk d + 1
  | .map entries => uptoBulkEntries entries + 1
  | .held _ => 1
def uptoBulkAll {H : Type} : List (DataW H) → Nat
  | [] => 0
  | d :: r => uptoBulk d + uptoBulkAll r
def uptoBulkEntries {H : Type} : List (Lit × DataW H) → Nat
  | [] => 0
  | x :: r => uptoBulkEntry x + uptoBulkEntries r
def uptoBulkEntry {H : Type} : Lit × DataW H → Nat
  | (.string bytes, d) => bytes.length + uptoBulk d + 1
  | (_, d) => uptoBulk d + 1
 end
def uptoSmall : (H : Type) → List (DataW H) → Bool := fun _ ds => decide (uptoBulkAll ds ≤ 1048576)
def OpenSpec.upto (s : _root_.Go.ChangeSpec) : _root_.Go.OpenSpec := { _root_.Go.OpenSpec.ofChange s with cond := some uptoSmall }

/-- 'overflightlaw11.OpeningMinutesSpec', WHERE WHAT IT READS IS OF BULK AT MOST 1048576: true; the input reads as it did. -/
def openingMinutesSpecUptoRow : OpenClaim := { program := "ytjmofjoifnhloaa", sum := "76675ae021ed085c1ad775bdbd66c1476d46e5205e8d64ff896f15ddbb1c92c1", func := "overflight/overflightlaw11.OpeningMinutesSpec", spec := "openingMinutesSpec", unfollowed := true, recurses := true, apart := false, narrowed := true }
def OpeningMinutesSpecUptoSaid : Prop := openingMinutesSpecUptoRow.holds Try.pinned (OpenSpec.upto openingMinutesSpecSpec)

/-- 'overflightlaw11.OpeningPassableSpec', WHERE WHAT IT READS IS OF BULK AT MOST 1048576: true; the input reads as it did. -/
def openingPassableSpecUptoRow : OpenClaim := { program := "ytjmofjoifnhloaa", sum := "76675ae021ed085c1ad775bdbd66c1476d46e5205e8d64ff896f15ddbb1c92c1", func := "overflight/overflightlaw11.OpeningPassableSpec", spec := "openingPassableSpec", unfollowed := true, recurses := true, apart := false, narrowed := true }
def OpeningPassableSpecUptoSaid : Prop := openingPassableSpecUptoRow.holds Try.pinned (OpenSpec.upto openingPassableSpecSpec)

/-- 'overflightlaw11.OpeningBlocked', WHERE WHAT IT READS IS OF BULK AT MOST 1048576: true; the input reads as it did. -/
def openingBlockedUptoRow : OpenClaim := { program := "ytjmofjoifnhloaa", sum := "76675ae021ed085c1ad775bdbd66c1476d46e5205e8d64ff896f15ddbb1c92c1", func := "overflight/overflightlaw11.OpeningBlocked", spec := "openingBlocked", unfollowed := true, recurses := true, apart := false, narrowed := true }
def OpeningBlockedUptoSaid : Prop := openingBlockedUptoRow.holds Try.pinned (OpenSpec.upto openingBlockedSpec)

/-- 'overflightlaw11.OpeningAlways', WHERE WHAT IT READS IS OF BULK AT MOST 1048576: true; the input reads as it did. -/
def openingAlwaysUptoRow : OpenClaim := { program := "ytjmofjoifnhloaa", sum := "76675ae021ed085c1ad775bdbd66c1476d46e5205e8d64ff896f15ddbb1c92c1", func := "overflight/overflightlaw11.OpeningAlways", spec := "openingAlways", unfollowed := true, recurses := true, apart := false, narrowed := true }
def OpeningAlwaysUptoSaid : Prop := openingAlwaysUptoRow.holds Try.pinned (OpenSpec.upto openingAlwaysSpec)

/-- 'overflightlaw11.OpeningClosed', WHERE WHAT IT READS IS OF BULK AT MOST 1048576: true; the input reads as it did. -/
def openingClosedUptoRow : OpenClaim := { program := "ytjmofjoifnhloaa", sum := "76675ae021ed085c1ad775bdbd66c1476d46e5205e8d64ff896f15ddbb1c92c1", func := "overflight/overflightlaw11.OpeningClosed", spec := "openingClosed", unfollowed := true, recurses := true, apart := false, narrowed := true }
def OpeningClosedUptoSaid : Prop := openingClosedUptoRow.holds Try.pinned (OpenSpec.upto openingClosedSpec)

end Rows
end Go.Proofs.Ytjmofjoifnhloaa
