/- Written by shrink.py from texts of ours: comments struck, what is not reached left out, names short. -/
import Derived.Test.YtjidhdlbojmlfaaGreatDoorU4
import Derived.Test.YtjidhdlbojmlfaaGreatDoorU9
namespace Go.Proofs.YtjidhdlbojmlfaaGreatDoor.laws
theorem syntaxJoins:Rows.SyntaxJoinsUptoCardSaid:=Z7 Go.Am.law_SyntaxJoins
#print axioms syntaxJoins
end Go.Proofs.YtjidhdlbojmlfaaGreatDoor.laws
