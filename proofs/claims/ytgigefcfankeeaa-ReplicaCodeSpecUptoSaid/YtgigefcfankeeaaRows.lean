/-
  No cell of these rows narrows 'for every input' (looked for: loops, veiled, ifaces, maps, wideKeys, modest, calm, conditions, laid).
  DERIVED. THE GIVEN ROWS OF THIS SEAT. 6 by the template 'for every input the law returns true; each argument reads behind the call as it read before'; 0 by the template 'total and deterministic' (their statements: YtgigefcfankeeaaTotals.lean).
  GIVEN WITH THE SEED: the statements are not yours to turn. If you find one false, say at which input.
  Laid BY PROGRAM, IN A SANDBOX (cutbox-rows.mjs): the forced cells as the released guide's own fill.sh prints them over the translation 6552fc64feeb6a35… (all of the seat's roots in one cut). By AI agents, Wed Nov 11 2026. No macro, syntax, notation, axiom, sorry.
-/
import Derived.Test.YtgigefcfankeeaaChecked
import GoSem.Claim
import GoSem.ClaimJoined
import GoSem.ClaimMapViews
import Derived.JoinedTies
import Derived.KernelRfl
namespace Go.Proofs.Ytgigefcfankeeaa
/- THE CELL 'sum', in the pinned program and in every row, IS THE sha256 OF THE DUMP (.gsa) THAT YtgigefcfankeeaaProg.lean LOADS. Nothing in Lean hashes anything: it is a label: what it is worth is what the hold of that sum in a sandbox is worth. -/
noncomputable def Try.pinned : Pinned := { name := "ytgigefcfankeeaa", sum := "6552fc64feeb6a350744901361bd6dc5518dac9ec4e5cf1e68aa2be65d9d0abf", checked := Try.checked }
namespace Rows
def none {H : Type} : Left H := { results := [], args := [] }

/-- 'overflightlaw47.ReplicaCodeSpec': WHATEVER THE INPUT: true; the input reads as it did. -/
def replicaCodeSpecSpec : ChangeSpec := { name := "replicaCodeSpec", fn := fun _ => fun
  | [d1, d2] => { results := [.lit (.bool true)], args := [d1, d2] }
  | _ => none }
def replicaCodeSpecRow : OpenClaim := { program := "ytgigefcfankeeaa", sum := "6552fc64feeb6a350744901361bd6dc5518dac9ec4e5cf1e68aa2be65d9d0abf", func := "overflight/overflightlaw47.ReplicaCodeSpec", spec := "replicaCodeSpec", unfollowed := true, recurses := true, apart := false }
def ReplicaCodeSpecSaid : Prop := replicaCodeSpecRow.holds Try.pinned (OpenSpec.ofChange replicaCodeSpecSpec)

/-- ITS FALSE NEIGHBOUR: 'it returns false'. Refute it at one input. -/
def replicaCodeSpecWrong : ChangeSpec := { name := "replicaCodeSpec", fn := fun _ => fun
  | [d1, d2] => { results := [.lit (.bool false)], args := [d1, d2] }
  | _ => none }
def ReplicaCodeSpecWrongFalsely : Prop := replicaCodeSpecRow.holds Try.pinned (OpenSpec.ofChange replicaCodeSpecWrong)

/-- 'overflightlaw47.ReplicaSafe': WHATEVER THE INPUT: true; the input reads as it did. -/
def replicaSafeSpec : ChangeSpec := { name := "replicaSafe", fn := fun _ => fun
  | [d1, d2] => { results := [.lit (.bool true)], args := [d1, d2] }
  | _ => none }
def replicaSafeRow : OpenClaim := { program := "ytgigefcfankeeaa", sum := "6552fc64feeb6a350744901361bd6dc5518dac9ec4e5cf1e68aa2be65d9d0abf", func := "overflight/overflightlaw47.ReplicaSafe", spec := "replicaSafe", unfollowed := true, recurses := true, apart := false }
def ReplicaSafeSaid : Prop := replicaSafeRow.holds Try.pinned (OpenSpec.ofChange replicaSafeSpec)

/-- ITS FALSE NEIGHBOUR: 'it returns false'. Refute it at one input. -/
def replicaSafeWrong : ChangeSpec := { name := "replicaSafe", fn := fun _ => fun
  | [d1, d2] => { results := [.lit (.bool false)], args := [d1, d2] }
  | _ => none }
def ReplicaSafeWrongFalsely : Prop := replicaSafeRow.holds Try.pinned (OpenSpec.ofChange replicaSafeWrong)

/-- 'overflightlaw47.ReplicaLeaders': WHATEVER THE INPUT: true; the input reads as it did. -/
def replicaLeadersSpec : ChangeSpec := { name := "replicaLeaders", fn := fun _ => fun
  | [d1, d2] => { results := [.lit (.bool true)], args := [d1, d2] }
  | _ => none }
def replicaLeadersRow : OpenClaim := { program := "ytgigefcfankeeaa", sum := "6552fc64feeb6a350744901361bd6dc5518dac9ec4e5cf1e68aa2be65d9d0abf", func := "overflight/overflightlaw47.ReplicaLeaders", spec := "replicaLeaders", unfollowed := true, recurses := true, apart := false }
def ReplicaLeadersSaid : Prop := replicaLeadersRow.holds Try.pinned (OpenSpec.ofChange replicaLeadersSpec)

/-- ITS FALSE NEIGHBOUR: 'it returns false'. Refute it at one input. -/
def replicaLeadersWrong : ChangeSpec := { name := "replicaLeaders", fn := fun _ => fun
  | [d1, d2] => { results := [.lit (.bool false)], args := [d1, d2] }
  | _ => none }
def ReplicaLeadersWrongFalsely : Prop := replicaLeadersRow.holds Try.pinned (OpenSpec.ofChange replicaLeadersWrong)

/-- 'overflightlaw47.ReplicaVotes': WHATEVER THE INPUT: true; the input reads as it did. -/
def replicaVotesSpec : ChangeSpec := { name := "replicaVotes", fn := fun _ => fun
  | [d1, d2, d3] => { results := [.lit (.bool true)], args := [d1, d2, d3] }
  | _ => none }
def replicaVotesRow : OpenClaim := { program := "ytgigefcfankeeaa", sum := "6552fc64feeb6a350744901361bd6dc5518dac9ec4e5cf1e68aa2be65d9d0abf", func := "overflight/overflightlaw47.ReplicaVotes", spec := "replicaVotes", unfollowed := true, recurses := true, apart := false }
def ReplicaVotesSaid : Prop := replicaVotesRow.holds Try.pinned (OpenSpec.ofChange replicaVotesSpec)

/-- ITS FALSE NEIGHBOUR: 'it returns false'. Refute it at one input. -/
def replicaVotesWrong : ChangeSpec := { name := "replicaVotes", fn := fun _ => fun
  | [d1, d2, d3] => { results := [.lit (.bool false)], args := [d1, d2, d3] }
  | _ => none }
def ReplicaVotesWrongFalsely : Prop := replicaVotesRow.holds Try.pinned (OpenSpec.ofChange replicaVotesWrong)

/-- 'overflightlaw47.ReplicaKeeps': WHATEVER THE INPUT: true; the input reads as it did. -/
def replicaKeepsSpec : ChangeSpec := { name := "replicaKeeps", fn := fun _ => fun
  | [d1, d2] => { results := [.lit (.bool true)], args := [d1, d2] }
  | _ => none }
def replicaKeepsRow : OpenClaim := { program := "ytgigefcfankeeaa", sum := "6552fc64feeb6a350744901361bd6dc5518dac9ec4e5cf1e68aa2be65d9d0abf", func := "overflight/overflightlaw47.ReplicaKeeps", spec := "replicaKeeps", unfollowed := true, recurses := true, apart := false }
def ReplicaKeepsSaid : Prop := replicaKeepsRow.holds Try.pinned (OpenSpec.ofChange replicaKeepsSpec)

/-- ITS FALSE NEIGHBOUR: 'it returns false'. Refute it at one input. -/
def replicaKeepsWrong : ChangeSpec := { name := "replicaKeeps", fn := fun _ => fun
  | [d1, d2] => { results := [.lit (.bool false)], args := [d1, d2] }
  | _ => none }
def ReplicaKeepsWrongFalsely : Prop := replicaKeepsRow.holds Try.pinned (OpenSpec.ofChange replicaKeepsWrong)

/-- 'overflightlaw47.ReplicaLives': WHATEVER THE INPUT: true; the input reads as it did. -/
def replicaLivesSpec : ChangeSpec := { name := "replicaLives", fn := fun _ => fun
  | [d1, d2, d3] => { results := [.lit (.bool true)], args := [d1, d2, d3] }
  | _ => none }
def replicaLivesRow : OpenClaim := { program := "ytgigefcfankeeaa", sum := "6552fc64feeb6a350744901361bd6dc5518dac9ec4e5cf1e68aa2be65d9d0abf", func := "overflight/overflightlaw47.ReplicaLives", spec := "replicaLives", unfollowed := true, recurses := true, apart := false }
def ReplicaLivesSaid : Prop := replicaLivesRow.holds Try.pinned (OpenSpec.ofChange replicaLivesSpec)

/-- ITS FALSE NEIGHBOUR: 'it returns false'. Refute it at one input. -/
def replicaLivesWrong : ChangeSpec := { name := "replicaLives", fn := fun _ => fun
  | [d1, d2, d3] => { results := [.lit (.bool false)], args := [d1, d2, d3] }
  | _ => none }
def ReplicaLivesWrongFalsely : Prop := replicaLivesRow.holds Try.pinned (OpenSpec.ofChange replicaLivesWrong)

/- THE SECOND FORM. 'bulk': how many values and letters a reading holds, each counted each time it is reached (what is shared counts as often as it is met; a slice's spare places count too). A statement '..UptoSaid' is the law's where the arguments, and the package variables that the reading takes, are together of bulk at most 1048576: NARROWER than '..Said'. Prove '..Said' where nothing that the law and all that it calls make is longer than what came in: it says more and counts as full. Else prove '..UptoSaid'. A law counts once. -/
mutual
def uptoBulk {H : Type} : DataW H → Nat
  | .lit (.string bytes) => bytes.length + 1
  | .lit _ => 1
  | .nil => 1
  | .ptr d => uptoBulk d + 1
  | .slice elems spare => uptoBulkAll elems + uptoBulkAll spare + 1
  | .agg parts => uptoBulkAll parts + 1
  | .iface _ d => uptoBulk d + 1
  | .map entries => uptoBulkEntries entries + 1
  | .held _ => 1
def uptoBulkAll {H : Type} : List (DataW H) → Nat
  | [] => 0
  | d :: r => uptoBulk d + uptoBulkAll r
def uptoBulkEntries {H : Type} : List (Lit × DataW H) → Nat
  | [] => 0
  | x :: r => uptoBulkEntry x + uptoBulkEntries r
def uptoBulkEntry {H : Type} : Lit × DataW H → Nat
  | (.string bytes, d) => bytes.length + uptoBulk d + 1
  | (_, d) => uptoBulk d + 1
 end
def uptoSmall : (H : Type) → List (DataW H) → Bool := fun _ ds => decide (uptoBulkAll ds ≤ 1048576)
def OpenSpec.upto (s : _root_.Go.ChangeSpec) : _root_.Go.OpenSpec := { _root_.Go.OpenSpec.ofChange s with cond := some uptoSmall }

/-- 'overflightlaw47.ReplicaCodeSpec', WHERE WHAT IT READS IS OF BULK AT MOST 1048576: true; the input reads as it did. -/
def replicaCodeSpecUptoRow : OpenClaim := { program := "ytgigefcfankeeaa", sum := "6552fc64feeb6a350744901361bd6dc5518dac9ec4e5cf1e68aa2be65d9d0abf", func := "overflight/overflightlaw47.ReplicaCodeSpec", spec := "replicaCodeSpec", unfollowed := true, recurses := true, apart := false, narrowed := true }
def ReplicaCodeSpecUptoSaid : Prop := replicaCodeSpecUptoRow.holds Try.pinned (OpenSpec.upto replicaCodeSpecSpec)

/-- 'overflightlaw47.ReplicaSafe', WHERE WHAT IT READS IS OF BULK AT MOST 1048576: true; the input reads as it did. -/
def replicaSafeUptoRow : OpenClaim := { program := "ytgigefcfankeeaa", sum := "6552fc64feeb6a350744901361bd6dc5518dac9ec4e5cf1e68aa2be65d9d0abf", func := "overflight/overflightlaw47.ReplicaSafe", spec := "replicaSafe", unfollowed := true, recurses := true, apart := false, narrowed := true }
def ReplicaSafeUptoSaid : Prop := replicaSafeUptoRow.holds Try.pinned (OpenSpec.upto replicaSafeSpec)

/-- 'overflightlaw47.ReplicaLeaders', WHERE WHAT IT READS IS OF BULK AT MOST 1048576: true; the input reads as it did. -/
def replicaLeadersUptoRow : OpenClaim := { program := "ytgigefcfankeeaa", sum := "6552fc64feeb6a350744901361bd6dc5518dac9ec4e5cf1e68aa2be65d9d0abf", func := "overflight/overflightlaw47.ReplicaLeaders", spec := "replicaLeaders", unfollowed := true, recurses := true, apart := false, narrowed := true }
def ReplicaLeadersUptoSaid : Prop := replicaLeadersUptoRow.holds Try.pinned (OpenSpec.upto replicaLeadersSpec)

/-- 'overflightlaw47.ReplicaVotes', WHERE WHAT IT READS IS OF BULK AT MOST 1048576: true; the input reads as it did. -/
def replicaVotesUptoRow : OpenClaim := { program := "ytgigefcfankeeaa", sum := "6552fc64feeb6a350744901361bd6dc5518dac9ec4e5cf1e68aa2be65d9d0abf", func := "overflight/overflightlaw47.ReplicaVotes", spec := "replicaVotes", unfollowed := true, recurses := true, apart := false, narrowed := true }
def ReplicaVotesUptoSaid : Prop := replicaVotesUptoRow.holds Try.pinned (OpenSpec.upto replicaVotesSpec)

/-- 'overflightlaw47.ReplicaKeeps', WHERE WHAT IT READS IS OF BULK AT MOST 1048576: true; the input reads as it did. -/
def replicaKeepsUptoRow : OpenClaim := { program := "ytgigefcfankeeaa", sum := "6552fc64feeb6a350744901361bd6dc5518dac9ec4e5cf1e68aa2be65d9d0abf", func := "overflight/overflightlaw47.ReplicaKeeps", spec := "replicaKeeps", unfollowed := true, recurses := true, apart := false, narrowed := true }
def ReplicaKeepsUptoSaid : Prop := replicaKeepsUptoRow.holds Try.pinned (OpenSpec.upto replicaKeepsSpec)

/-- 'overflightlaw47.ReplicaLives', WHERE WHAT IT READS IS OF BULK AT MOST 1048576: true; the input reads as it did. -/
def replicaLivesUptoRow : OpenClaim := { program := "ytgigefcfankeeaa", sum := "6552fc64feeb6a350744901361bd6dc5518dac9ec4e5cf1e68aa2be65d9d0abf", func := "overflight/overflightlaw47.ReplicaLives", spec := "replicaLives", unfollowed := true, recurses := true, apart := false, narrowed := true }
def ReplicaLivesUptoSaid : Prop := replicaLivesUptoRow.holds Try.pinned (OpenSpec.upto replicaLivesSpec)

end Rows
end Go.Proofs.Ytgigefcfankeeaa
