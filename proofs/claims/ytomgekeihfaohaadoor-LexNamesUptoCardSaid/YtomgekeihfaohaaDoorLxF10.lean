/- LexNames: for all arguments whose values are together no more than 1048576, the law answers true: a source is one name alone just when Name says so. Conditions: the bound alone. -/
import Derived.Test.YtomgekeihfaohaaDoorLxP7
import Derived.Test.YtomgekeihfaohaaDoorLxL10
namespace Go.Proofs.YtomgekeihfaohaaDoor.laws
theorem lexNames : Rows.LexNamesUptoCardSaid := said_LexNames Go.Am.law_LexNames
#print axioms lexNames
end Go.Proofs.YtomgekeihfaohaaDoor.laws
