/- The laws, in plain Lean. Written by args.py. -/
import Derived.Test.YtplndonhhfflhaaAmArgs
import Derived.Test.YtplndonhhfflhaaRdM
namespace Go.Am
open Go
set_option linter.unusedVariables false
def tStatus : Ty Status := ⟨rStatus, fun x => (tInt .i64).good x.Station ∧ (tInt .i64).good x.From ∧ tBool.good x.Works ∧ True, fun x => ((tInt .i64).bulk x.Station + ((tInt .i64).bulk x.From + (tBool.bulk x.Works + (0)))) + 1⟩
def tStation : Ty Station := ⟨rStation, fun x => (tSl 1 (tInt .i64)).good x.Volumes ∧ (tInt .i64).good x.Shift ∧ (tInt .i64).good x.Faults ∧ True, fun x => ((tSl 1 (tInt .i64)).bulk x.Volumes + ((tInt .i64).bulk x.Shift + ((tInt .i64).bulk x.Faults + (0)))) + 1⟩
def Law_RadarCheckSpec : Prop := ∀ (a0 : Int) (a1 : (List Status)) (a2 : Status) (_ : (tInt .i64).good a0) (_ : (tSl 3 tStatus).good a1) (_ : tStatus.good a2), (tInt .i64).bulk a0 + ((tSl 3 tStatus).bulk a1 + (tStatus.bulk a2)) ≤ 1048576 → law26_RadarCheckSpec a0 a1 a2 = .ok true
def Law_RadarFrom : Prop := ∀ (a0 : Int) (a1 : (List Status)) (a2 : Status) (a3 : Int) (a4 : Int) (_ : (tInt .i64).good a0) (_ : (tSl 3 tStatus).good a1) (_ : tStatus.good a2) (_ : (tInt .i64).good a3) (_ : (tInt .i64).good a4), (tInt .i64).bulk a0 + ((tSl 3 tStatus).bulk a1 + (tStatus.bulk a2 + ((tInt .i64).bulk a3 + ((tInt .i64).bulk a4)))) ≤ 1048576 → law26_RadarFrom a0 a1 a2 a3 a4 = .ok true
def Law_RadarMore : Prop := ∀ (a0 : Int) (a1 : (List Station)) (a2 : (List Status)) (a3 : Station) (a4 : Int) (_ : (tInt .i64).good a0) (_ : (tSl 3 tStation).good a1) (_ : (tSl 3 tStatus).good a2) (_ : tStation.good a3) (_ : (tInt .i64).good a4), (tInt .i64).bulk a0 + ((tSl 3 tStation).bulk a1 + ((tSl 3 tStatus).bulk a2 + (tStation.bulk a3 + ((tInt .i64).bulk a4)))) ≤ 1048576 → law26_RadarMore a0 a1 a2 a3 a4 = .ok true
def Law_RadarSays : Prop := ∀ (a0 : Int) (a1 : (List Station)) (a2 : (List Status)) (a3 : Status) (a4 : Int) (_ : (tInt .i64).good a0) (_ : (tSl 3 tStation).good a1) (_ : (tSl 3 tStatus).good a2) (_ : tStatus.good a3) (_ : (tInt .i64).good a4), (tInt .i64).bulk a0 + ((tSl 3 tStation).bulk a1 + ((tSl 3 tStatus).bulk a2 + (tStatus.bulk a3 + ((tInt .i64).bulk a4)))) ≤ 1048576 → law26_RadarSays a0 a1 a2 a3 a4 = .ok true
def Law_RadarOrder : Prop := ∀ (a0 : Int) (a1 : (List Status)) (a2 : Status) (a3 : Status) (_ : (tInt .i64).good a0) (_ : (tSl 3 tStatus).good a1) (_ : tStatus.good a2) (_ : tStatus.good a3), (tInt .i64).bulk a0 + ((tSl 3 tStatus).bulk a1 + (tStatus.bulk a2 + (tStatus.bulk a3))) ≤ 1048576 → law26_RadarOrder a0 a1 a2 a3 = .ok true
def Law_RadarLost : Prop := ∀ (a0 : Int) (a1 : (List Station)) (a2 : (List Status)) (a3 : Int) (_ : (tInt .i64).good a0) (_ : (tSl 3 tStation).good a1) (_ : (tSl 3 tStatus).good a2) (_ : (tInt .i64).good a3), (tInt .i64).bulk a0 + ((tSl 3 tStation).bulk a1 + ((tSl 3 tStatus).bulk a2 + ((tInt .i64).bulk a3))) ≤ 1048576 → law26_RadarLost a0 a1 a2 a3 = .ok true
end Go.Am
