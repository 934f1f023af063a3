/- Written by shrink.py from texts of ours: comments struck, what is not reached left out, names short. -/
import Derived.Test.YtnoinnijgnfhiaaGreatDoorU8
import Derived.Test.YtnoinnijgnfhiaaGreatDoorU9
namespace Go.Proofs.YtnoinnijgnfhiaaGreatDoor.laws
theorem roundsOpenings:Rows.RoundsOpeningsUptoCardSaid:=Ad3 (Go.Am.law_RoundsOpenings Go.Am.law40_sane_ok)
end Go.Proofs.YtnoinnijgnfhiaaGreatDoor.laws
#print axioms Go.Proofs.YtnoinnijgnfhiaaGreatDoor.laws.roundsOpenings
