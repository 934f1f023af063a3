/- Written by shrink.py from texts of ours: comments struck, what is not reached left out, names short. -/
import Derived.Test.YthpjjoanecpemaaGreatDoorU4
import Derived.Test.YthpjjoanecpemaaGreatDoorU5
set_option linter.unusedSimpArgs false
set_option linter.unusedVariables false
set_option linter.unusedSectionVars false
set_option linter.defProp false
namespace Go.Am
open Go
def O3:Prop:=∀(z:Al) (_:A1i.good z),A1i.bulk z≤1048576→Q1 z=.ok true
end Go.Am
