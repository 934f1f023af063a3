/- OpeningMinutesSpec: for every airspace and number whose values are together no more than 1048576, the law answers true: Minutes and Legs agree with the reference. Conditions: the bound alone. -/
import Derived.Test.YtjmofjoifnhloaaOpP5
import Derived.Test.YtjmofjoifnhloaaOpL3
namespace Go.Proofs.Ytjmofjoifnhloaa.laws
theorem openingMinutesSpec : Rows.OpeningMinutesSpecUptoSaid := said_OpeningMinutesSpec Go.Am.law_OpeningMinutesSpec
#print axioms openingMinutesSpec
end Go.Proofs.Ytjmofjoifnhloaa.laws
