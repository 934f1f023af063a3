/- The laws, in plain Lean. Written by args.py. -/
import Derived.Test.YtjmofjoifnhloaaAmArgs
import Derived.Test.YtjmofjoifnhloaaOpM
namespace Go.Am
open Go
set_option linter.unusedVariables false
def tSpan : Ty Span := ⟨rSpan, fun x => (tInt .i64).good x.From ∧ (tInt .i64).good x.To ∧ True, fun x => ((tInt .i64).bulk x.From + ((tInt .i64).bulk x.To + (0))) + 1⟩
def tVolume : Ty Volume := ⟨rVolume, fun x => tStr.good x.Name ∧ (tSl 2 tSpan).good x.Closed ∧ True, fun x => (tStr.bulk x.Name + ((tSl 2 tSpan).bulk x.Closed + (0))) + 1⟩
def tSector : Ty Sector := ⟨rSector, fun x => tStr.good x.Name ∧ (tSl 1 tStr).good x.Names ∧ (tSl 1 (tInt .i64)).good x.Volumes ∧ (tInt .i64).good x.Radar ∧ (tInt .i64).good x.Procedural ∧ True, fun x => (tStr.bulk x.Name + ((tSl 1 tStr).bulk x.Names + ((tSl 1 (tInt .i64)).bulk x.Volumes + ((tInt .i64).bulk x.Radar + ((tInt .i64).bulk x.Procedural + (0)))))) + 1⟩
def tConfig : Ty Config := ⟨rConfig, fun x => tStr.good x.Name ∧ (tSl 1 tStr).good x.Names ∧ (tSl 1 (tInt .i64)).good x.Sectors ∧ True, fun x => (tStr.bulk x.Name + ((tSl 1 tStr).bulk x.Names + ((tSl 1 (tInt .i64)).bulk x.Sectors + (0)))) + 1⟩
def tSegment : Ty Segment := ⟨rSegment, fun x => tStr.good x.Name ∧ tStr.good x.In ∧ (tInt .i64).good x.Volume ∧ (tInt .i64).good x.Length ∧ (tSl 2 tSpan).good x.Open ∧ True, fun x => (tStr.bulk x.Name + (tStr.bulk x.In + ((tInt .i64).bulk x.Volume + ((tInt .i64).bulk x.Length + ((tSl 2 tSpan).bulk x.Open + (0)))))) + 1⟩
def tRoute : Ty Route := ⟨rRoute, fun x => tStr.good x.Name ∧ tStr.good x.A ∧ tStr.good x.B ∧ (tInt .i64).good x.From ∧ (tInt .i64).good x.To ∧ (tSl 1 tStr).good x.Names ∧ (tSl 1 (tInt .i64)).good x.Segments ∧ True, fun x => (tStr.bulk x.Name + (tStr.bulk x.A + (tStr.bulk x.B + ((tInt .i64).bulk x.From + ((tInt .i64).bulk x.To + ((tSl 1 tStr).bulk x.Names + ((tSl 1 (tInt .i64)).bulk x.Segments + (0)))))))) + 1⟩
def tMode : Ty Mode := ⟨rMode, fun x => tStr.good x.Name ∧ (tInt .i64).good x.Places ∧ True, fun x => (tStr.bulk x.Name + ((tInt .i64).bulk x.Places + (0))) + 1⟩
def tAirport : Ty Airport := ⟨rAirport, fun x => tStr.good x.Name ∧ (tSl 2 tMode).good x.Modes ∧ True, fun x => (tStr.bulk x.Name + ((tSl 2 tMode).bulk x.Modes + (0))) + 1⟩
def tClass : Ty Class := ⟨rClass, fun x => tStr.good x.Name ∧ (tInt .i64).good x.Slow ∧ (tInt .i64).good x.Fast ∧ (tInt .i64).good x.Places ∧ True, fun x => (tStr.bulk x.Name + ((tInt .i64).bulk x.Slow + ((tInt .i64).bulk x.Fast + ((tInt .i64).bulk x.Places + (0))))) + 1⟩
def tRule : Ty Rule := ⟨rRule, fun x => (tInt .i64).good x.Kind ∧ tStr.good x.C ∧ tStr.good x.A ∧ (tInt .i64).good x.Class ∧ (tInt .i64).good x.Airport ∧ (tInt .i64).good x.N ∧ tSpan.good x.Hours ∧ True, fun x => ((tInt .i64).bulk x.Kind + (tStr.bulk x.C + (tStr.bulk x.A + ((tInt .i64).bulk x.Class + ((tInt .i64).bulk x.Airport + ((tInt .i64).bulk x.N + (tSpan.bulk x.Hours + (0)))))))) + 1⟩
def tAirspace : Ty Airspace := ⟨rAirspace, fun x => (tSl 2 tVolume).good x.Volumes ∧ (tSl 5 tSector).good x.Sectors ∧ (tSl 3 tConfig).good x.Configs ∧ (tSl 5 tSegment).good x.Segments ∧ (tSl 7 tRoute).good x.Routes ∧ (tSl 2 tAirport).good x.Airports ∧ (tSl 4 tClass).good x.Classes ∧ (tSl 8 tRule).good x.Rules ∧ True, fun x => ((tSl 2 tVolume).bulk x.Volumes + ((tSl 5 tSector).bulk x.Sectors + ((tSl 3 tConfig).bulk x.Configs + ((tSl 5 tSegment).bulk x.Segments + ((tSl 7 tRoute).bulk x.Routes + ((tSl 2 tAirport).bulk x.Airports + ((tSl 4 tClass).bulk x.Classes + ((tSl 8 tRule).bulk x.Rules + (0))))))))) + 1⟩
def Law_OpeningMinutesSpec : Prop := ∀ (a0 : Airspace) (a1 : Int) (_ : tAirspace.good a0) (_ : (tInt .i64).good a1), tAirspace.bulk a0 + ((tInt .i64).bulk a1) ≤ 1048576 → law11_OpeningMinutesSpec a0 a1 = .ok true
def Law_OpeningPassableSpec : Prop := ∀ (a0 : Airspace) (_ : tAirspace.good a0), tAirspace.bulk a0 ≤ 1048576 → law11_OpeningPassableSpec a0 = .ok true
def Law_OpeningBlocked : Prop := ∀ (a0 : Airspace) (_ : tAirspace.good a0), tAirspace.bulk a0 ≤ 1048576 → law11_OpeningBlocked a0 = .ok true
def Law_OpeningClosed : Prop := ∀ (a0 : Airspace) (a1 : Int) (a2 : Int) (_ : tAirspace.good a0) (_ : (tInt .i64).good a1) (_ : (tInt .i64).good a2), tAirspace.bulk a0 + ((tInt .i64).bulk a1 + ((tInt .i64).bulk a2)) ≤ 1048576 → law11_OpeningClosed a0 a1 a2 = .ok true
end Go.Am
