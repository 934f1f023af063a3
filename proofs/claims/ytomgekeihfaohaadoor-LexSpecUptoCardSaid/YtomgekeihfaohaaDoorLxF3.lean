/- LexSpec: for every source of at most 1048575 bytes, the law answers true: the lexer and the law's own lexer give the same tokens, places and end. Conditions: the bound alone. -/
import Derived.Test.YtomgekeihfaohaaDoorLxP5
import Derived.Test.YtomgekeihfaohaaDoorLxL3
namespace Go.Proofs.YtomgekeihfaohaaDoor.laws
theorem lexSpec : Rows.LexSpecUptoCardSaid := said_LexSpec Go.Am.law_LexSpec
#print axioms lexSpec
end Go.Proofs.YtomgekeihfaohaaDoor.laws
