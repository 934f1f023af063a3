/- Written by shrink.py from texts of ours: comments struck, what is not reached left out, names short. -/
import Derived.Test.YtjidhdlbojmlfaaGreatDoorU4
import Derived.Test.YtjidhdlbojmlfaaGreatDoorU8
namespace Go.Proofs.YtjidhdlbojmlfaaGreatDoor.laws
theorem syntaxSpaces:Rows.SyntaxSpacesUptoCardSaid:=Y2 Go.Am.law_SyntaxSpaces
#print axioms syntaxSpaces
end Go.Proofs.YtjidhdlbojmlfaaGreatDoor.laws
