/- OpeningPassableSpec: for every airspace whose values are together no more than 1048576, the law answers true: Passable and Blocked agree with the reference. Conditions: the bound alone. -/
import Derived.Test.YtjmofjoifnhloaaOpP5
import Derived.Test.YtjmofjoifnhloaaOpL4
namespace Go.Proofs.Ytjmofjoifnhloaa.laws
theorem openingPassableSpec : Rows.OpeningPassableSpecUptoSaid := said_OpeningPassableSpec Go.Am.law_OpeningPassableSpec
#print axioms openingPassableSpec
end Go.Proofs.Ytjmofjoifnhloaa.laws
