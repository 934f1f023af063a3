/- Written by shrink.py from texts of ours: comments struck, what is not reached left out, names short. -/
import Derived.Test.YtgigefcfankeeaaU5
import Derived.Test.YtgigefcfankeeaaU8
namespace Go.Proofs.Ytgigefcfankeeaa.laws
theorem replicaVotes:Rows.ReplicaVotesUptoSaid:=W5 Go.Am.law_ReplicaVotes
#print axioms replicaVotes
end Go.Proofs.Ytgigefcfankeeaa.laws
