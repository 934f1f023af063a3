/- LexWrong: for all arguments whose values are together no more than 1048576, the law answers true: an error stands at its place whatever follows, and what lies before it is sound. Conditions: the bound alone. -/
import Derived.Test.YtomgekeihfaohaaDoorLxP7
import Derived.Test.YtomgekeihfaohaaDoorLxL9
namespace Go.Proofs.YtomgekeihfaohaaDoor.laws
theorem lexWrong : Rows.LexWrongUptoCardSaid := said_LexWrong Go.Am.law_LexWrong
#print axioms lexWrong
end Go.Proofs.YtomgekeihfaohaaDoor.laws
