/- Written by shrink.py from texts of ours: comments struck, what is not reached left out, names short. -/
import Derived.Test.YtjmofjoifnhloaaU4
import Derived.Test.YtjmofjoifnhloaaU6
namespace Go.Proofs.Ytjmofjoifnhloaa.laws
theorem openingAlways:Rows.OpeningAlwaysUptoSaid:=Om Go.Am.law_OpeningAlways
#print axioms openingAlways
end Go.Proofs.Ytjmofjoifnhloaa.laws
