/- NamesMeans: for every airspace whose values are together no more than 1048576, the law answers true: each number is that of the definition with the name. Conditions: the bound alone. -/
import Derived.Test.YtjpafocobkhciaaNmP6
import Derived.Test.YtjpafocobkhciaaNmL5
namespace Go.Proofs.Ytjpafocobkhciaa.laws
theorem namesMeans : Rows.NamesMeansUptoSaid := said_NamesMeans Go.Am.law_NamesMeans
#print axioms namesMeans
end Go.Proofs.Ytjpafocobkhciaa.laws
