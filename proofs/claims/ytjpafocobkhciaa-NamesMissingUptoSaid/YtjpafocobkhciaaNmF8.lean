/- NamesMissing: for every airspace and choice whose values are together no more than 1048576, the law answers true: names without a definition are refused. Conditions: the bound alone. -/
import Derived.Test.YtjpafocobkhciaaNmP11
import Derived.Test.YtjpafocobkhciaaNmL8
namespace Go.Proofs.Ytjpafocobkhciaa.laws
theorem namesMissing : Rows.NamesMissingUptoSaid := said_NamesMissing Go.Am.law_NamesMissing
#print axioms namesMissing
end Go.Proofs.Ytjpafocobkhciaa.laws
