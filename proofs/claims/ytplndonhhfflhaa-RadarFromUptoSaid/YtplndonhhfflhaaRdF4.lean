/- RadarFrom: for every number of stations, list of statuses, status, station and minute whose values are together no more than 1048576, the law answers true: a status counts from its minute on, for its station alone. Conditions: the bound alone. -/
import Derived.Test.YtplndonhhfflhaaRdP5
import Derived.Test.YtplndonhhfflhaaRdL4
namespace Go.Proofs.Ytplndonhhfflhaa.laws
theorem radarFrom : Rows.RadarFromUptoSaid := said_RadarFrom Go.Am.law_RadarFrom
#print axioms radarFrom
end Go.Proofs.Ytplndonhhfflhaa.laws
