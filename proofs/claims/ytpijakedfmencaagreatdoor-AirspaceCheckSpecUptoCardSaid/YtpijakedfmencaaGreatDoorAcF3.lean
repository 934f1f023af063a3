/- For all tables, configuration and volume, valid or not, Check, Digest and Sector match the specification. Condition: arguments of bulk up to 1048576. -/
import Derived.Test.YtpijakedfmencaaGreatDoorU15
import Derived.Test.YtpijakedfmencaaGreatDoorU17
set_option linter.all false
namespace Go.Proofs.YtpijakedfmencaaGreatDoor.laws
theorem airspaceCheckSpec:Rows.AirspaceCheckSpecUptoCardSaid:=Aqk (Go.Am.law_AirspaceCheckSpec Go.Am.law14_sane_ok)
end Go.Proofs.YtpijakedfmencaaGreatDoor.laws
