/- Written by shrink.py from texts of ours: comments struck, what is not reached left out, names short. -/
import Derived.Test.YtgigefcfankeeaaU5
import Derived.Test.YtgigefcfankeeaaU9
namespace Go.Proofs.Ytgigefcfankeeaa.laws
theorem replicaSafe:Rows.ReplicaSafeUptoSaid:=Y0 Go.Am.law_ReplicaSafe
#print axioms replicaSafe
end Go.Proofs.Ytgigefcfankeeaa.laws
