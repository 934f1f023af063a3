/- RadarLost: for every number of volumes, list of stations and statuses, and minute whose values are together no more than 1048576, the law answers true: a minute is lost exactly if the volume is not seen in it. Conditions: the bound alone. -/
import Derived.Test.YtplndonhhfflhaaRdP5
import Derived.Test.YtplndonhhfflhaaRdL8
namespace Go.Proofs.Ytplndonhhfflhaa.laws
theorem radarLost : Rows.RadarLostUptoSaid := said_RadarLost Go.Am.law_RadarLost
#print axioms radarLost
end Go.Proofs.Ytplndonhhfflhaa.laws
