/- Written by shrink.py from texts of ours: comments struck, what is not reached left out, names short. -/
import Derived.Test.YtgigefcfankeeaaU5
import Derived.Test.YtgigefcfankeeaaU8
namespace Go.Proofs.Ytgigefcfankeeaa.laws
theorem replicaKeeps:Rows.ReplicaKeepsUptoSaid:=Xh Go.Am.law_ReplicaKeeps
#print axioms replicaKeeps
end Go.Proofs.Ytgigefcfankeeaa.laws
