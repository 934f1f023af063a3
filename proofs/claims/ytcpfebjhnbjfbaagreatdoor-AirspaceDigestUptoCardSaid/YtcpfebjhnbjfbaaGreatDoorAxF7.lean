/- For all tables, the digest does not depend on names. Condition: arguments of bulk up to 1048576. -/
import Derived.Test.YtcpfebjhnbjfbaaGreatDoorAxL7
set_option linter.unusedSimpArgs false
set_option linter.unusedVariables false
set_option linter.unusedSectionVars false
set_option linter.defProp false
namespace Go.Proofs.YtcpfebjhnbjfbaaGreatDoor.laws
theorem airspaceDigest:Rows.AirspaceDigestUptoCardSaid:=Bzf (Go.Am.law_AirspaceDigest Go.Am.law14_sane_ok)
end Go.Proofs.YtcpfebjhnbjfbaaGreatDoor.laws
