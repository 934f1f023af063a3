/- Written by shrink.py from texts of ours: comments struck, what is not reached left out, names short. -/
import Derived.Test.YthpjjoanecpemaaGreatDoorU14
import Derived.Test.YthpjjoanecpemaaGreatDoorU16
set_option linter.unusedSimpArgs false
set_option linter.unusedVariables false
set_option linter.unusedSectionVars false
set_option linter.defProp false
namespace Go.Proofs.YthpjjoanecpemaaGreatDoor.laws
theorem airspaceSource:Rows.AirspaceSourceUptoCardSaid:=Apf (Go.Am.law_AirspaceSource Go.Am.law14_sane_ok)
end Go.Proofs.YthpjjoanecpemaaGreatDoor.laws
#print axioms Go.Proofs.YthpjjoanecpemaaGreatDoor.laws.airspaceSource
