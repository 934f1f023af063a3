/- For every airspace that is lowered, each volume is in one sector of each configuration. Condition: arguments of bulk up to 1048576. -/
import Derived.Test.YtcpfebjhnbjfbaaGreatDoorAxL5
set_option linter.unusedSimpArgs false
set_option linter.unusedVariables false
set_option linter.unusedSectionVars false
set_option linter.defProp false
namespace Go.Proofs.YtcpfebjhnbjfbaaGreatDoor.laws
theorem airspaceSectors:Rows.AirspaceSectorsUptoCardSaid:=Byv (Go.Am.law_AirspaceSectors Go.Am.law14_sane_ok)
end Go.Proofs.YtcpfebjhnbjfbaaGreatDoor.laws
