/- For all airspaces Lower answers as the specification, the tables or what is wrong. Condition: arguments of bulk up to 1048576. -/
import Derived.Test.YtjajmhcejacahaaGreatDoorU16
import Derived.Test.YtjajmhcejacahaaGreatDoorU17
set_option linter.all false
namespace Go.Proofs.YtjajmhcejacahaaGreatDoor.laws
theorem airspaceLowerSpec:Rows.AirspaceLowerSpecUptoCardSaid:=Atp λa _ _=>Go.Am.lower_law Go.Am.law14_sane_ok a
end Go.Proofs.YtjajmhcejacahaaGreatDoor.laws
