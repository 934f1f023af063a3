/- OpeningBlocked: for every airspace whose values are together no more than 1048576, the law answers true: a route is blocked exactly if one of its legs has no minutes. Conditions: the bound alone. -/
import Derived.Test.YtjmofjoifnhloaaOpP5
import Derived.Test.YtjmofjoifnhloaaOpL5
namespace Go.Proofs.Ytjmofjoifnhloaa.laws
theorem openingBlocked : Rows.OpeningBlockedUptoSaid := said_OpeningBlocked Go.Am.law_OpeningBlocked
#print axioms openingBlocked
end Go.Proofs.Ytjmofjoifnhloaa.laws
