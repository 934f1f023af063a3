/- Written by shrink.py from texts of ours: comments struck, what is not reached left out, names short. -/
import Derived.Test.YtlephacmljbibaaGreatDoorU5
import Derived.Test.YtlephacmljbibaaGreatDoorU9
namespace Go.Proofs.YtlephacmljbibaaGreatDoor.laws
theorem namesPrinted:Rows.NamesPrintedUptoCardSaid:=Af4 Go.Am.law_NamesPrinted
#print axioms namesPrinted
end Go.Proofs.YtlephacmljbibaaGreatDoor.laws
