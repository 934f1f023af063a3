/- NamesResolveSpec: for every airspace whose values are together no more than 1048576, the law answers true: Resolve of the program agrees with the reference. Conditions: the bound alone. -/
import Derived.Test.YtjpafocobkhciaaNmP3
import Derived.Test.YtjpafocobkhciaaNmL3
namespace Go.Proofs.Ytjpafocobkhciaa.laws
theorem namesResolveSpec : Rows.NamesResolveSpecUptoSaid := said_NamesResolveSpec Go.Am.law_NamesResolveSpec
#print axioms namesResolveSpec
end Go.Proofs.Ytjpafocobkhciaa.laws
