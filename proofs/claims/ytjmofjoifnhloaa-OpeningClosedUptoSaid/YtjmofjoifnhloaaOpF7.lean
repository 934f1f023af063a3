/- OpeningClosed: for every airspace, segment and minute whose values are together no more than 1048576, the law answers true: a segment can be used in exactly the open minutes in which its volume is not closed. Conditions: the bound alone. -/
import Derived.Test.YtjmofjoifnhloaaOpP5
import Derived.Test.YtjmofjoifnhloaaOpL7
namespace Go.Proofs.Ytjmofjoifnhloaa.laws
theorem openingClosed : Rows.OpeningClosedUptoSaid := said_OpeningClosed Go.Am.law_OpeningClosed
#print axioms openingClosed
end Go.Proofs.Ytjmofjoifnhloaa.laws
