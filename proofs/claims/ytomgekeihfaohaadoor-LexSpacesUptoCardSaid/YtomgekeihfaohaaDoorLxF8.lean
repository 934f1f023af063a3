/- LexSpaces: for all arguments whose values are together no more than 1048576, the law answers true: blanks and notes between tokens change nothing. Conditions: the bound alone. -/
import Derived.Test.YtomgekeihfaohaaDoorLxP9
import Derived.Test.YtomgekeihfaohaaDoorLxL8
namespace Go.Proofs.YtomgekeihfaohaaDoor.laws
theorem lexSpaces : Rows.LexSpacesUptoCardSaid := said_LexSpaces Go.Am.law_LexSpaces
#print axioms lexSpaces
end Go.Proofs.YtomgekeihfaohaaDoor.laws
