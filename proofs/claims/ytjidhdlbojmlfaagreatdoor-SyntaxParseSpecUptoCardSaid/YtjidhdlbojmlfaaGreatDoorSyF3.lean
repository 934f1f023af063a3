/- Written by shrink.py from texts of ours: comments struck, what is not reached left out, names short. -/
import Derived.Test.YtjidhdlbojmlfaaGreatDoorU5
import Derived.Test.YtjidhdlbojmlfaaGreatDoorU9
namespace Go.Proofs.YtjidhdlbojmlfaaGreatDoor.laws
theorem syntaxParseSpec:Rows.SyntaxParseSpecUptoCardSaid:=Z0 Go.Am.law_SyntaxParseSpec
#print axioms syntaxParseSpec
end Go.Proofs.YtjidhdlbojmlfaaGreatDoor.laws
