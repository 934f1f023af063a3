/- Written by shrink.py from texts of ours: comments struck, what is not reached left out, names short. -/
import Derived.Test.YtgigefcfankeeaaU5
import Derived.Test.YtgigefcfankeeaaU9
namespace Go.Proofs.Ytgigefcfankeeaa.laws
theorem replicaCodeSpec:Rows.ReplicaCodeSpecUptoSaid:=W3 Go.Am.law_ReplicaCodeSpec
#print axioms replicaCodeSpec
end Go.Proofs.Ytgigefcfankeeaa.laws
