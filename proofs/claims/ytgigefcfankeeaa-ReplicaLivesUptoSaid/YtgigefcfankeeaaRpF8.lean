/- Written by shrink.py from texts of ours: comments struck, what is not reached left out, names short. -/
import Derived.Test.YtgigefcfankeeaaU5
import Derived.Test.YtgigefcfankeeaaU10
namespace Go.Proofs.Ytgigefcfankeeaa.laws
theorem replicaLives:Rows.ReplicaLivesUptoSaid:=Z0 Go.Am.law_ReplicaLives
#print axioms replicaLives
end Go.Proofs.Ytgigefcfankeeaa.laws
