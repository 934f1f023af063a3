/- NamesTurned: for every airspace and number whose values are together no more than 1048576, the law answers true: the order of definitions matters for numbers only. Conditions: the bound alone. -/
import Derived.Test.YtjpafocobkhciaaNmP12
import Derived.Test.YtjpafocobkhciaaNmL9
namespace Go.Proofs.Ytjpafocobkhciaa.laws
theorem namesTurned : Rows.NamesTurnedUptoSaid := said_NamesTurned Go.Am.law_NamesTurned
#print axioms namesTurned
end Go.Proofs.Ytjpafocobkhciaa.laws
