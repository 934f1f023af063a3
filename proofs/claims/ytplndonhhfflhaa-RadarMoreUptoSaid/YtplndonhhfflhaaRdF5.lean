/- RadarMore: for every number of volumes, list of stations and statuses, further station and minute whose values are together no more than 1048576, the law answers true: further stations see more. Conditions: the bound alone. -/
import Derived.Test.YtplndonhhfflhaaRdP5
import Derived.Test.YtplndonhhfflhaaRdL5
namespace Go.Proofs.Ytplndonhhfflhaa.laws
theorem radarMore : Rows.RadarMoreUptoSaid := said_RadarMore Go.Am.law_RadarMore
#print axioms radarMore
end Go.Proofs.Ytplndonhhfflhaa.laws
