/- Written by shrink.py from texts of ours: comments struck, what is not reached left out, names short. -/
import Derived.Test.YtgigefcfankeeaaGreatU5
import Derived.Test.YtgigefcfankeeaaGreatU9
namespace Go.Proofs.YtgigefcfankeeaaGreat.laws
theorem replicaStepSpec:Rows.ReplicaStepSpecUptoSaid:=Wj Go.Am.law_ReplicaStepSpec
#print axioms replicaStepSpec
end Go.Proofs.YtgigefcfankeeaaGreat.laws
