/- NamesAgain: for every airspace whose values are together no more than 1048576, the law answers true: resolving again changes nothing. Conditions: the bound alone. -/
import Derived.Test.YtjpafocobkhciaaNmP7
import Derived.Test.YtjpafocobkhciaaNmL6
namespace Go.Proofs.Ytjpafocobkhciaa.laws
theorem namesAgain : Rows.NamesAgainUptoSaid := said_NamesAgain Go.Am.law_NamesAgain
#print axioms namesAgain
end Go.Proofs.Ytjpafocobkhciaa.laws
