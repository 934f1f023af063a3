/- For every airspace that is lowered: its tables are valid, every leg has minutes and a positive time, every volume is passed, every configuration can be reached, no class is kept from an airport for the whole day. Condition: arguments of bulk up to 1048576. -/
import Derived.Test.YtcpfebjhnbjfbaaGreatDoorAxL3
set_option linter.unusedSimpArgs false
set_option linter.unusedVariables false
set_option linter.unusedSectionVars false
set_option linter.defProp false
namespace Go.Proofs.YtcpfebjhnbjfbaaGreatDoor.laws
theorem airspaceFlown:Rows.AirspaceFlownUptoCardSaid:=Bz6 (Go.Am.law_AirspaceFlown Go.Am.law14_sane_ok)
end Go.Proofs.YtcpfebjhnbjfbaaGreatDoor.laws
