/- LexPlaces: for all arguments whose values are together no more than 1048576, the law answers true: each token stands at its place, and only blanks and notes lie between. Conditions: the bound alone. -/
import Derived.Test.YtomgekeihfaohaaDoorLxP10
import Derived.Test.YtomgekeihfaohaaDoorLxL6
namespace Go.Proofs.YtomgekeihfaohaaDoor.laws
theorem lexPlaces : Rows.LexPlacesUptoCardSaid := said_LexPlaces Go.Am.law_LexPlaces
#print axioms lexPlaces
end Go.Proofs.YtomgekeihfaohaaDoor.laws
