/- Written by shrink.py from texts of ours: comments struck, what is not reached left out, names short. -/
import Derived.Test.YtnoinnijgnfhiaaGreatDoorU8
import Derived.Test.YtnoinnijgnfhiaaGreatDoorU9
namespace Go.Proofs.YtnoinnijgnfhiaaGreatDoor.laws
theorem roundsValid:Rows.RoundsValidUptoCardSaid:=Agv (Go.Am.law_RoundsValid Go.Am.law40_sane_ok)
end Go.Proofs.YtnoinnijgnfhiaaGreatDoor.laws
#print axioms Go.Proofs.YtnoinnijgnfhiaaGreatDoor.laws.roundsValid
