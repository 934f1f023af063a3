/- LexTextSpec: for all arguments whose values are together no more than 1048576, the law answers true: the written text, sameness and names are those of the law's own functions. Conditions: the bound alone. -/
import Derived.Test.YtomgekeihfaohaaDoorLxP6
import Derived.Test.YtomgekeihfaohaaDoorLxL4
namespace Go.Proofs.YtomgekeihfaohaaDoor.laws
theorem lexTextSpec : Rows.LexTextSpecUptoCardSaid := said_LexTextSpec Go.Am.law_LexTextSpec
#print axioms lexTextSpec
end Go.Proofs.YtomgekeihfaohaaDoor.laws
