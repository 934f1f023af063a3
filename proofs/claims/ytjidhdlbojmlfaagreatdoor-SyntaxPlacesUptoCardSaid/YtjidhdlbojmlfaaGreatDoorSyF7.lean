/- Written by shrink.py from texts of ours: comments struck, what is not reached left out, names short. -/
import Derived.Test.YtjidhdlbojmlfaaGreatDoorU4
import Derived.Test.YtjidhdlbojmlfaaGreatDoorU8
namespace Go.Proofs.YtjidhdlbojmlfaaGreatDoor.laws
theorem syntaxPlaces:Rows.SyntaxPlacesUptoCardSaid:=Yp Go.Am.law_SyntaxPlaces
#print axioms syntaxPlaces
end Go.Proofs.YtjidhdlbojmlfaaGreatDoor.laws
