/- For every airspace, names do not matter once its numbers are filled in. Condition: arguments of bulk up to 1048576. -/
import Derived.Test.YtcpfebjhnbjfbaaGreatDoorAxL6
set_option linter.unusedSimpArgs false
set_option linter.unusedVariables false
set_option linter.unusedSectionVars false
set_option linter.defProp false
namespace Go.Proofs.YtcpfebjhnbjfbaaGreatDoor.laws
theorem airspaceNames:Rows.AirspaceNamesUptoCardSaid:=B0n (Go.Am.law_AirspaceNames Go.Am.law14_sane_ok)
end Go.Proofs.YtcpfebjhnbjfbaaGreatDoor.laws
