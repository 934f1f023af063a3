/- RadarCheckSpec: for every number of stations, list of statuses and status whose values are together no more than 1048576, the law answers true: Check and Add match the specification. Conditions: the bound alone. -/
import Derived.Test.YtplndonhhfflhaaRdP5
import Derived.Test.YtplndonhhfflhaaRdL3
namespace Go.Proofs.Ytplndonhhfflhaa.laws
theorem radarCheckSpec : Rows.RadarCheckSpecUptoSaid := said_RadarCheckSpec Go.Am.law_RadarCheckSpec
#print axioms radarCheckSpec
end Go.Proofs.Ytplndonhhfflhaa.laws
