/- LexBack: for all arguments whose values are together no more than 1048576, the law answers true: what is written from valid tokens is read back as the same tokens. Conditions: the bound alone. -/
import Derived.Test.YtomgekeihfaohaaDoorLxP8
import Derived.Test.YtomgekeihfaohaaDoorLxL5
namespace Go.Proofs.YtomgekeihfaohaaDoor.laws
theorem lexBack : Rows.LexBackUptoCardSaid := said_LexBack Go.Am.law_LexBack
#print axioms lexBack
end Go.Proofs.YtomgekeihfaohaaDoor.laws
