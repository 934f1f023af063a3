/- RadarSays: for every number of volumes, list of stations and statuses, status and minute whose values are together no more than 1048576, the law answers true: failures and repairs have one direction. Conditions: the bound alone. -/
import Derived.Test.YtplndonhhfflhaaRdP5
import Derived.Test.YtplndonhhfflhaaRdL6
namespace Go.Proofs.Ytplndonhhfflhaa.laws
theorem radarSays : Rows.RadarSaysUptoSaid := said_RadarSays Go.Am.law_RadarSays
#print axioms radarSays
end Go.Proofs.Ytplndonhhfflhaa.laws
