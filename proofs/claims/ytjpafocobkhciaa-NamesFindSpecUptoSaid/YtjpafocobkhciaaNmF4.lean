/- NamesFindSpec: for every airspace and name whose values are together no more than 1048576, the law answers true: Volume, Airport and Class of the program find what the reference finds. Conditions: the bound alone. -/
import Derived.Test.YtjpafocobkhciaaNmP4
import Derived.Test.YtjpafocobkhciaaNmL4
namespace Go.Proofs.Ytjpafocobkhciaa.laws
theorem namesFindSpec : Rows.NamesFindSpecUptoSaid := said_NamesFindSpec Go.Am.law_NamesFindSpec
#print axioms namesFindSpec
end Go.Proofs.Ytjpafocobkhciaa.laws
