/- Written by shrink.py from texts of ours: comments struck, what is not reached left out, names short. -/
import Derived.Test.YtjidhdlbojmlfaaGreatDoorU5
import Derived.Test.YtjidhdlbojmlfaaGreatDoorU9
namespace Go.Proofs.YtjidhdlbojmlfaaGreatDoor.laws
theorem syntaxBack:Rows.SyntaxBackUptoCardSaid:=Aev Go.Am.law_SyntaxBack
#print axioms syntaxBack
end Go.Proofs.YtjidhdlbojmlfaaGreatDoor.laws
