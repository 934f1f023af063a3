/- Written by shrink.py from texts of ours: comments struck, what is not reached left out, names short. -/
import Derived.Test.YtjidhdlbojmlfaaGreatDoorU5
import Derived.Test.YtjidhdlbojmlfaaGreatDoorU8
namespace Go.Proofs.YtjidhdlbojmlfaaGreatDoor.laws
theorem syntaxAgain:Rows.SyntaxAgainUptoCardSaid:=Adg Go.Am.law_SyntaxAgain
#print axioms syntaxAgain
end Go.Proofs.YtjidhdlbojmlfaaGreatDoor.laws
