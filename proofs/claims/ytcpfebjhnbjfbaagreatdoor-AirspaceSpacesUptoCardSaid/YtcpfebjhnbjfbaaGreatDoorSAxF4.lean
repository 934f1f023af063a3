/- For every source, the tokens alone decide. Condition: arguments of bulk up to 1048576. -/
import Derived.Test.YtcpfebjhnbjfbaaGreatDoorSAxL4
set_option linter.all false
namespace Go.Proofs.YtcpfebjhnbjfbaaGreatDoor.laws
theorem airspaceSpaces:Rows.AirspaceSpacesUptoCardSaid:=Bzp (Go.Am.law_AirspaceSpaces Go.Am.law14_sane_ok)
end Go.Proofs.YtcpfebjhnbjfbaaGreatDoor.laws
