/- LexJoined: for all arguments whose values are together no more than 1048576, the law answers true: two sources joined by a newline give the tokens of both, or the first error. Conditions: the bound alone. -/
import Derived.Test.YtomgekeihfaohaaDoorLxP7
import Derived.Test.YtomgekeihfaohaaDoorLxL7
namespace Go.Proofs.YtomgekeihfaohaaDoor.laws
theorem lexJoined : Rows.LexJoinedUptoCardSaid := said_LexJoined Go.Am.law_LexJoined
#print axioms lexJoined
end Go.Proofs.YtomgekeihfaohaaDoor.laws
