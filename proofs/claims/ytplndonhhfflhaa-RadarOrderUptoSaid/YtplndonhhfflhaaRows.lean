/-
  No cell of these rows narrows 'for every input' (looked for: loops, veiled, ifaces, maps, wideKeys, modest, calm, conditions, laid).
  DERIVED. THE GIVEN ROWS OF THIS SEAT. 6 by the template 'for every input the law returns true; each argument reads behind the call as it read before'; 0 by the template 'total and deterministic' (their statements: YtplndonhhfflhaaTotals.lean).
  GIVEN WITH THE SEED: the statements are not yours to turn. If you find one false, say at which input.
  Laid BY PROGRAM, IN A SANDBOX (cutbox-rows.mjs): the forced cells as the released guide's own fill.sh prints them over the translation d0fe1495889ee67d… (all of the seat's roots in one cut). By AI agents, Wed Nov 11 2026. No macro, syntax, notation, axiom, sorry.
-/
import Derived.Test.YtplndonhhfflhaaChecked
import GoSem.Claim
import GoSem.ClaimJoined
import GoSem.ClaimMapViews
import Derived.JoinedTies
import Derived.KernelRfl
namespace Go.Proofs.Ytplndonhhfflhaa
/- THE CELL 'sum', in the pinned program and in every row, IS THE sha256 OF THE DUMP (.gsa) THAT YtplndonhhfflhaaProg.lean LOADS. Nothing in Lean hashes anything: it is a label: what it is worth is what the hold of that sum in a sandbox is worth. -/
noncomputable def Try.pinned : Pinned := { name := "ytplndonhhfflhaa", sum := "d0fe1495889ee67d98a4a5f4c0ddf39d0f24e88cdbc3e8532a89d4f2f46be169", checked := Try.checked }
namespace Rows
def none {H : Type} : Left H := { results := [], args := [] }

/-- 'overflightlaw26.RadarCheckSpec': WHATEVER THE INPUT: true; the input reads as it did. -/
def radarCheckSpecSpec : ChangeSpec := { name := "radarCheckSpec", fn := fun _ => fun
  | [d1, d2, d3] => { results := [.lit (.bool true)], args := [d1, d2, d3] }
  | _ => none }
def radarCheckSpecRow : OpenClaim := { program := "ytplndonhhfflhaa", sum := "d0fe1495889ee67d98a4a5f4c0ddf39d0f24e88cdbc3e8532a89d4f2f46be169", func := "overflight/overflightlaw26.RadarCheckSpec", spec := "radarCheckSpec", inPlace := ["slices.overlaps[overflight/api.Status]"], unfollowed := true, recurses := true, apart := false }
def RadarCheckSpecSaid : Prop := radarCheckSpecRow.holds Try.pinned (OpenSpec.ofChange radarCheckSpecSpec)

/-- ITS FALSE NEIGHBOUR: 'it returns false'. Refute it at one input. -/
def radarCheckSpecWrong : ChangeSpec := { name := "radarCheckSpec", fn := fun _ => fun
  | [d1, d2, d3] => { results := [.lit (.bool false)], args := [d1, d2, d3] }
  | _ => none }
def RadarCheckSpecWrongFalsely : Prop := radarCheckSpecRow.holds Try.pinned (OpenSpec.ofChange radarCheckSpecWrong)

/-- 'overflightlaw26.RadarFrom': WHATEVER THE INPUT: true; the input reads as it did. -/
def radarFromSpec : ChangeSpec := { name := "radarFrom", fn := fun _ => fun
  | [d1, d2, d3, d4, d5] => { results := [.lit (.bool true)], args := [d1, d2, d3, d4, d5] }
  | _ => none }
def radarFromRow : OpenClaim := { program := "ytplndonhhfflhaa", sum := "d0fe1495889ee67d98a4a5f4c0ddf39d0f24e88cdbc3e8532a89d4f2f46be169", func := "overflight/overflightlaw26.RadarFrom", spec := "radarFrom", inPlace := ["slices.overlaps[overflight/api.Status]"], unfollowed := true, recurses := true, apart := false }
def RadarFromSaid : Prop := radarFromRow.holds Try.pinned (OpenSpec.ofChange radarFromSpec)

/-- ITS FALSE NEIGHBOUR: 'it returns false'. Refute it at one input. -/
def radarFromWrong : ChangeSpec := { name := "radarFrom", fn := fun _ => fun
  | [d1, d2, d3, d4, d5] => { results := [.lit (.bool false)], args := [d1, d2, d3, d4, d5] }
  | _ => none }
def RadarFromWrongFalsely : Prop := radarFromRow.holds Try.pinned (OpenSpec.ofChange radarFromWrong)

/-- 'overflightlaw26.RadarMore': WHATEVER THE INPUT: true; the input reads as it did. -/
def radarMoreSpec : ChangeSpec := { name := "radarMore", fn := fun _ => fun
  | [d1, d2, d3, d4, d5] => { results := [.lit (.bool true)], args := [d1, d2, d3, d4, d5] }
  | _ => none }
def radarMoreRow : OpenClaim := { program := "ytplndonhhfflhaa", sum := "d0fe1495889ee67d98a4a5f4c0ddf39d0f24e88cdbc3e8532a89d4f2f46be169", func := "overflight/overflightlaw26.RadarMore", spec := "radarMore", inPlace := ["slices.overlaps[overflight/api.Status]"], unfollowed := true, recurses := true, apart := false }
def RadarMoreSaid : Prop := radarMoreRow.holds Try.pinned (OpenSpec.ofChange radarMoreSpec)

/-- ITS FALSE NEIGHBOUR: 'it returns false'. Refute it at one input. -/
def radarMoreWrong : ChangeSpec := { name := "radarMore", fn := fun _ => fun
  | [d1, d2, d3, d4, d5] => { results := [.lit (.bool false)], args := [d1, d2, d3, d4, d5] }
  | _ => none }
def RadarMoreWrongFalsely : Prop := radarMoreRow.holds Try.pinned (OpenSpec.ofChange radarMoreWrong)

/-- 'overflightlaw26.RadarSays': WHATEVER THE INPUT: true; the input reads as it did. -/
def radarSaysSpec : ChangeSpec := { name := "radarSays", fn := fun _ => fun
  | [d1, d2, d3, d4, d5] => { results := [.lit (.bool true)], args := [d1, d2, d3, d4, d5] }
  | _ => none }
def radarSaysRow : OpenClaim := { program := "ytplndonhhfflhaa", sum := "d0fe1495889ee67d98a4a5f4c0ddf39d0f24e88cdbc3e8532a89d4f2f46be169", func := "overflight/overflightlaw26.RadarSays", spec := "radarSays", inPlace := ["slices.overlaps[overflight/api.Status]"], unfollowed := true, recurses := true, apart := false }
def RadarSaysSaid : Prop := radarSaysRow.holds Try.pinned (OpenSpec.ofChange radarSaysSpec)

/-- ITS FALSE NEIGHBOUR: 'it returns false'. Refute it at one input. -/
def radarSaysWrong : ChangeSpec := { name := "radarSays", fn := fun _ => fun
  | [d1, d2, d3, d4, d5] => { results := [.lit (.bool false)], args := [d1, d2, d3, d4, d5] }
  | _ => none }
def RadarSaysWrongFalsely : Prop := radarSaysRow.holds Try.pinned (OpenSpec.ofChange radarSaysWrong)

/-- 'overflightlaw26.RadarOrder': WHATEVER THE INPUT: true; the input reads as it did. -/
def radarOrderSpec : ChangeSpec := { name := "radarOrder", fn := fun _ => fun
  | [d1, d2, d3, d4] => { results := [.lit (.bool true)], args := [d1, d2, d3, d4] }
  | _ => none }
def radarOrderRow : OpenClaim := { program := "ytplndonhhfflhaa", sum := "d0fe1495889ee67d98a4a5f4c0ddf39d0f24e88cdbc3e8532a89d4f2f46be169", func := "overflight/overflightlaw26.RadarOrder", spec := "radarOrder", inPlace := ["slices.overlaps[overflight/api.Status]"], unfollowed := true, recurses := true, apart := false }
def RadarOrderSaid : Prop := radarOrderRow.holds Try.pinned (OpenSpec.ofChange radarOrderSpec)

/-- ITS FALSE NEIGHBOUR: 'it returns false'. Refute it at one input. -/
def radarOrderWrong : ChangeSpec := { name := "radarOrder", fn := fun _ => fun
  | [d1, d2, d3, d4] => { results := [.lit (.bool false)], args := [d1, d2, d3, d4] }
  | _ => none }
def RadarOrderWrongFalsely : Prop := radarOrderRow.holds Try.pinned (OpenSpec.ofChange radarOrderWrong)

/-- 'overflightlaw26.RadarLost': WHATEVER THE INPUT: true; the input reads as it did. -/
def radarLostSpec : ChangeSpec := { name := "radarLost", fn := fun _ => fun
  | [d1, d2, d3, d4] => { results := [.lit (.bool true)], args := [d1, d2, d3, d4] }
  | _ => none }
def radarLostRow : OpenClaim := { program := "ytplndonhhfflhaa", sum := "d0fe1495889ee67d98a4a5f4c0ddf39d0f24e88cdbc3e8532a89d4f2f46be169", func := "overflight/overflightlaw26.RadarLost", spec := "radarLost", inPlace := ["slices.overlaps[overflight/api.Status]"], unfollowed := true, recurses := true, apart := false }
def RadarLostSaid : Prop := radarLostRow.holds Try.pinned (OpenSpec.ofChange radarLostSpec)

/-- ITS FALSE NEIGHBOUR: 'it returns false'. Refute it at one input. -/
def radarLostWrong : ChangeSpec := { name := "radarLost", fn := fun _ => fun
  | [d1, d2, d3, d4] => { results := [.lit (.bool false)], args := [d1, d2, d3, d4] }
  | _ => none }
def RadarLostWrongFalsely : Prop := radarLostRow.holds Try.pinned (OpenSpec.ofChange radarLostWrong)

/- THE SECOND FORM. 'bulk': how many values and letters a reading holds, each counted each time it is reached (what is shared counts as often as it is met; a slice's spare places count too). A statement '..UptoSaid' is the law's where the arguments, and the package variables that the reading takes, are together of bulk at most 1048576: NARROWER than '..Said'. Prove '..Said' where nothing that the law and all that it calls make is longer than what came in: it says more and counts as full. Else prove '..UptoSaid'. A law counts once. -/
mutual
def uptoBulk {H : Type} : DataW H → Nat
  | .lit (.string bytes) => bytes.length + 1
  | .lit _ => 1
  | .nil => 1
  | .ptr d => uptoBulk d + 1
  | .slice elems spare => uptoBulkAll elems + uptoBulkAll spare + 1
  | .agg parts => uptoBulkAll parts + 1
  | .iface _ d => uptoBulk d + 1
  | .map entries => uptoBulkEntries entries + 1
  | .held _ => 1
def uptoBulkAll {H : Type} : List (DataW H) → Nat
  | [] => 0
  | d :: r => uptoBulk d + uptoBulkAll r
def uptoBulkEntries {H : Type} : List (Lit × DataW H) → Nat
  | [] => 0
  | x :: r => uptoBulkEntry x + uptoBulkEntries r
def uptoBulkEntry {H : Type} : Lit × DataW H → Nat
  | (.string bytes, d) => bytes.length + uptoBulk d + 1
  | (_, d) => uptoBulk d + 1
 end
def uptoSmall : (H : Type) → List (DataW H) → Bool := fun _ ds => decide (uptoBulkAll ds ≤ 1048576)
def OpenSpec.upto (s : _root_.Go.ChangeSpec) : _root_.Go.OpenSpec := { _root_.Go.OpenSpec.ofChange s with cond := some uptoSmall }

/-- 'overflightlaw26.RadarCheckSpec', WHERE WHAT IT READS IS OF BULK AT MOST 1048576: true; the input reads as it did. -/
def radarCheckSpecUptoRow : OpenClaim := { program := "ytplndonhhfflhaa", sum := "d0fe1495889ee67d98a4a5f4c0ddf39d0f24e88cdbc3e8532a89d4f2f46be169", func := "overflight/overflightlaw26.RadarCheckSpec", spec := "radarCheckSpec", inPlace := ["slices.overlaps[overflight/api.Status]"], unfollowed := true, recurses := true, apart := false, narrowed := true }
def RadarCheckSpecUptoSaid : Prop := radarCheckSpecUptoRow.holds Try.pinned (OpenSpec.upto radarCheckSpecSpec)

/-- 'overflightlaw26.RadarFrom', WHERE WHAT IT READS IS OF BULK AT MOST 1048576: true; the input reads as it did. -/
def radarFromUptoRow : OpenClaim := { program := "ytplndonhhfflhaa", sum := "d0fe1495889ee67d98a4a5f4c0ddf39d0f24e88cdbc3e8532a89d4f2f46be169", func := "overflight/overflightlaw26.RadarFrom", spec := "radarFrom", inPlace := ["slices.overlaps[overflight/api.Status]"], unfollowed := true, recurses := true, apart := false, narrowed := true }
def RadarFromUptoSaid : Prop := radarFromUptoRow.holds Try.pinned (OpenSpec.upto radarFromSpec)

/-- 'overflightlaw26.RadarMore', WHERE WHAT IT READS IS OF BULK AT MOST 1048576: true; the input reads as it did. -/
def radarMoreUptoRow : OpenClaim := { program := "ytplndonhhfflhaa", sum := "d0fe1495889ee67d98a4a5f4c0ddf39d0f24e88cdbc3e8532a89d4f2f46be169", func := "overflight/overflightlaw26.RadarMore", spec := "radarMore", inPlace := ["slices.overlaps[overflight/api.Status]"], unfollowed := true, recurses := true, apart := false, narrowed := true }
def RadarMoreUptoSaid : Prop := radarMoreUptoRow.holds Try.pinned (OpenSpec.upto radarMoreSpec)

/-- 'overflightlaw26.RadarSays', WHERE WHAT IT READS IS OF BULK AT MOST 1048576: true; the input reads as it did. -/
def radarSaysUptoRow : OpenClaim := { program := "ytplndonhhfflhaa", sum := "d0fe1495889ee67d98a4a5f4c0ddf39d0f24e88cdbc3e8532a89d4f2f46be169", func := "overflight/overflightlaw26.RadarSays", spec := "radarSays", inPlace := ["slices.overlaps[overflight/api.Status]"], unfollowed := true, recurses := true, apart := false, narrowed := true }
def RadarSaysUptoSaid : Prop := radarSaysUptoRow.holds Try.pinned (OpenSpec.upto radarSaysSpec)

/-- 'overflightlaw26.RadarOrder', WHERE WHAT IT READS IS OF BULK AT MOST 1048576: true; the input reads as it did. -/
def radarOrderUptoRow : OpenClaim := { program := "ytplndonhhfflhaa", sum := "d0fe1495889ee67d98a4a5f4c0ddf39d0f24e88cdbc3e8532a89d4f2f46be169", func := "overflight/overflightlaw26.RadarOrder", spec := "radarOrder", inPlace := ["slices.overlaps[overflight/api.Status]"], unfollowed := true, recurses := true, apart := false, narrowed := true }
def RadarOrderUptoSaid : Prop := radarOrderUptoRow.holds Try.pinned (OpenSpec.upto radarOrderSpec)

/-- 'overflightlaw26.RadarLost', WHERE WHAT IT READS IS OF BULK AT MOST 1048576: true; the input reads as it did. -/
def radarLostUptoRow : OpenClaim := { program := "ytplndonhhfflhaa", sum := "d0fe1495889ee67d98a4a5f4c0ddf39d0f24e88cdbc3e8532a89d4f2f46be169", func := "overflight/overflightlaw26.RadarLost", spec := "radarLost", inPlace := ["slices.overlaps[overflight/api.Status]"], unfollowed := true, recurses := true, apart := false, narrowed := true }
def RadarLostUptoSaid : Prop := radarLostUptoRow.holds Try.pinned (OpenSpec.upto radarLostSpec)

end Rows
end Go.Proofs.Ytplndonhhfflhaa
