/- NamesTwice: for every airspace and number whose values are together no more than 1048576, the law answers true: second definitions are refused. Conditions: the bound alone. -/
import Derived.Test.YtjpafocobkhciaaNmP13
import Derived.Test.YtjpafocobkhciaaNmL7
namespace Go.Proofs.Ytjpafocobkhciaa.laws
theorem namesTwice : Rows.NamesTwiceUptoSaid := said_NamesTwice Go.Am.law_NamesTwice
#print axioms namesTwice
end Go.Proofs.Ytjpafocobkhciaa.laws
