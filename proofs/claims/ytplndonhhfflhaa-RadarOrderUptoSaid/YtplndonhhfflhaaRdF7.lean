/- RadarOrder: for every number of stations, list of statuses and two statuses whose values are together no more than 1048576, the law answers true: the order of statuses does not matter. Conditions: the bound alone. -/
import Derived.Test.YtplndonhhfflhaaRdP5
import Derived.Test.YtplndonhhfflhaaRdL7
namespace Go.Proofs.Ytplndonhhfflhaa.laws
theorem radarOrder : Rows.RadarOrderUptoSaid := said_RadarOrder Go.Am.law_RadarOrder
#print axioms radarOrder
end Go.Proofs.Ytplndonhhfflhaa.laws
