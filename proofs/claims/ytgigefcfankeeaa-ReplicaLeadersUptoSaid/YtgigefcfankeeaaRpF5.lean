/- Written by shrink.py from texts of ours: comments struck, what is not reached left out, names short. -/
import Derived.Test.YtgigefcfankeeaaU5
import Derived.Test.YtgigefcfankeeaaU9
namespace Go.Proofs.Ytgigefcfankeeaa.laws
theorem replicaLeaders:Rows.ReplicaLeadersUptoSaid:=W6 Go.Am.law_ReplicaLeaders
#print axioms replicaLeaders
end Go.Proofs.Ytgigefcfankeeaa.laws
