/- The data, in cells. Written by dc.py. -/
import Derived.Test.YtjmofjoifnhloaaDcY
import Derived.Test.YtjmofjoifnhloaaDcM
namespace Go.Am
open Go
set_option maxRecDepth 100000
set_option linter.unusedSimpArgs false
set_option linter.unusedVariables false
structure T7 where
  fX : Int
  fY : Int
  fSigned : Bool
  fCode : Int
  deriving DecidableEq
def rT7 (x : T7) : List AV := [(.int .i64 x.fX), (.int .i64 x.fY), (.bool x.fSigned), (.int .u8 x.fCode)]
theorem ok_T7 (x : T7) : RowOk 4 (rT7 x) := rowOk_of rfl rfl
def zeroT7 : T7 := { fX := 0, fY := 0, fSigned := false, fCode := 0 }
structure T13 where
  fMsg : Str
  fAddr : Int
  deriving DecidableEq
def rT13 (x : T13) : List AV := [(.str x.fMsg), (.int .u64 x.fAddr)]
theorem ok_T13 (x : T13) : RowOk 2 (rT13 x) := rowOk_of rfl rfl
def zeroT13 : T13 := { fMsg := [], fAddr := 0 }
structure Span where
  From : Int
  To : Int
  deriving DecidableEq
def rSpan (x : Span) : List AV := [(.int .i64 x.From), (.int .i64 x.To)]
theorem ok_Span (x : Span) : RowOk 2 (rSpan x) := rowOk_of rfl rfl
def zeroSpan : Span := { From := 0, To := 0 }
structure Volume where
  Name : Str
  Closed : (List Span)
  deriving DecidableEq
def rVolume (x : Volume) : List AV := [(.str x.Name), (.sl 2 (List.map rSpan x.Closed))]
theorem ok_Volume (x : Volume) : RowOk 2 (rVolume x) := rowOk_of rfl rfl
def zeroVolume : Volume := { Name := [], Closed := [] }
structure Sector where
  Name : Str
  Names : (List Str)
  Volumes : (List Int)
  Radar : Int
  Procedural : Int
  deriving DecidableEq
def rSector (x : Sector) : List AV := [(.str x.Name), (.sl 1 (List.map rS x.Names)), (.sl 1 (List.map (rI .i64) x.Volumes)), (.int .i64 x.Radar), (.int .i64 x.Procedural)]
theorem ok_Sector (x : Sector) : RowOk 5 (rSector x) := rowOk_of rfl rfl
def zeroSector : Sector := { Name := [], Names := [], Volumes := [], Radar := 0, Procedural := 0 }
structure Config where
  Name : Str
  Names : (List Str)
  Sectors : (List Int)
  deriving DecidableEq
def rConfig (x : Config) : List AV := [(.str x.Name), (.sl 1 (List.map rS x.Names)), (.sl 1 (List.map (rI .i64) x.Sectors))]
theorem ok_Config (x : Config) : RowOk 3 (rConfig x) := rowOk_of rfl rfl
def zeroConfig : Config := { Name := [], Names := [], Sectors := [] }
structure Segment where
  Name : Str
  In : Str
  Volume : Int
  Length : Int
  Open : (List Span)
  deriving DecidableEq
def rSegment (x : Segment) : List AV := [(.str x.Name), (.str x.In), (.int .i64 x.Volume), (.int .i64 x.Length), (.sl 2 (List.map rSpan x.Open))]
theorem ok_Segment (x : Segment) : RowOk 5 (rSegment x) := rowOk_of rfl rfl
def zeroSegment : Segment := { Name := [], In := [], Volume := 0, Length := 0, Open := [] }
structure Route where
  Name : Str
  A : Str
  B : Str
  From : Int
  To : Int
  Names : (List Str)
  Segments : (List Int)
  deriving DecidableEq
def rRoute (x : Route) : List AV := [(.str x.Name), (.str x.A), (.str x.B), (.int .i64 x.From), (.int .i64 x.To), (.sl 1 (List.map rS x.Names)), (.sl 1 (List.map (rI .i64) x.Segments))]
theorem ok_Route (x : Route) : RowOk 7 (rRoute x) := rowOk_of rfl rfl
def zeroRoute : Route := { Name := [], A := [], B := [], From := 0, To := 0, Names := [], Segments := [] }
structure Mode where
  Name : Str
  Places : Int
  deriving DecidableEq
def rMode (x : Mode) : List AV := [(.str x.Name), (.int .i64 x.Places)]
theorem ok_Mode (x : Mode) : RowOk 2 (rMode x) := rowOk_of rfl rfl
def zeroMode : Mode := { Name := [], Places := 0 }
structure Airport where
  Name : Str
  Modes : (List Mode)
  deriving DecidableEq
def rAirport (x : Airport) : List AV := [(.str x.Name), (.sl 2 (List.map rMode x.Modes))]
theorem ok_Airport (x : Airport) : RowOk 2 (rAirport x) := rowOk_of rfl rfl
def zeroAirport : Airport := { Name := [], Modes := [] }
structure Class where
  Name : Str
  Slow : Int
  Fast : Int
  Places : Int
  deriving DecidableEq
def rClass (x : Class) : List AV := [(.str x.Name), (.int .i64 x.Slow), (.int .i64 x.Fast), (.int .i64 x.Places)]
theorem ok_Class (x : Class) : RowOk 4 (rClass x) := rowOk_of rfl rfl
def zeroClass : Class := { Name := [], Slow := 0, Fast := 0, Places := 0 }
structure Rule where
  Kind : Int
  C : Str
  A : Str
  Class : Int
  Airport : Int
  N : Int
  Hours : Span
  deriving DecidableEq
def rRule (x : Rule) : List AV := [(.int .i64 x.Kind), (.str x.C), (.str x.A), (.int .i64 x.Class), (.int .i64 x.Airport), (.int .i64 x.N), (.int .i64 x.Hours.From), (.int .i64 x.Hours.To)]
theorem ok_Rule (x : Rule) : RowOk 8 (rRule x) := rowOk_of rfl rfl
def zeroRule : Rule := { Kind := 0, C := [], A := [], Class := 0, Airport := 0, N := 0, Hours := zeroSpan }
structure Airspace where
  Volumes : (List Volume)
  Sectors : (List Sector)
  Configs : (List Config)
  Segments : (List Segment)
  Routes : (List Route)
  Airports : (List Airport)
  Classes : (List Class)
  Rules : (List Rule)
  deriving DecidableEq
def rAirspace (x : Airspace) : List AV := [(.sl 2 (List.map rVolume x.Volumes)), (.sl 5 (List.map rSector x.Sectors)), (.sl 3 (List.map rConfig x.Configs)), (.sl 5 (List.map rSegment x.Segments)), (.sl 7 (List.map rRoute x.Routes)), (.sl 2 (List.map rAirport x.Airports)), (.sl 4 (List.map rClass x.Classes)), (.sl 8 (List.map rRule x.Rules))]
theorem ok_Airspace (x : Airspace) : RowOk 8 (rAirspace x) := rowOk_of rfl rfl
def zeroAirspace : Airspace := { Volumes := [], Sectors := [], Configs := [], Segments := [], Routes := [], Airports := [], Classes := [], Rules := [] }
structure Leg where
  Segment : Int
  Volume : Int
  Length : Int
  Minutes : (List Span)
  deriving DecidableEq
def rLeg (x : Leg) : List AV := [(.int .i64 x.Segment), (.int .i64 x.Volume), (.int .i64 x.Length), (.sl 2 (List.map rSpan x.Minutes))]
theorem ok_Leg (x : Leg) : RowOk 4 (rLeg x) := rowOk_of rfl rfl
def zeroLeg : Leg := { Segment := 0, Volume := 0, Length := 0, Minutes := [] }
structure T85 where
  deriving DecidableEq
def rT85 (x : T85) : List AV := []
def zeroT85 : T85 := {}
end Go.Am
