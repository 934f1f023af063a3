/- Written by shrink.py from texts of ours: comments struck, what is not reached left out, names short. -/
import Derived.Test.YtnoinnijgnfhiaaGreatDoorU7
import Derived.Test.YtnoinnijgnfhiaaGreatDoorU8
namespace Go.Proofs.YtnoinnijgnfhiaaGreatDoor.laws
theorem roundsOrder:Rows.RoundsOrderUptoCardSaid:=Ad1 (Go.Am.law_RoundsOrder Go.Am.law40_sane_ok)
end Go.Proofs.YtnoinnijgnfhiaaGreatDoor.laws
#print axioms Go.Proofs.YtnoinnijgnfhiaaGreatDoor.laws.roundsOrder
