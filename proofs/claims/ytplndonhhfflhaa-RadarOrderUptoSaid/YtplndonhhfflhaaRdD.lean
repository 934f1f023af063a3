/- The data, in cells. Written by dc.py. -/
import Derived.Test.YtplndonhhfflhaaDcY
import Derived.Test.YtplndonhhfflhaaDcN
namespace Go.Am
open Go
set_option maxRecDepth 100000
set_option linter.unusedSimpArgs false
set_option linter.unusedVariables false
structure T7 where
  fX : Int
  fY : Int
  fSigned : Bool
  fCode : Int
  deriving DecidableEq
def rT7 (x : T7) : List AV := [(.int .i64 x.fX), (.int .i64 x.fY), (.bool x.fSigned), (.int .u8 x.fCode)]
theorem ok_T7 (x : T7) : RowOk 4 (rT7 x) := rowOk_of rfl rfl
def zeroT7 : T7 := { fX := 0, fY := 0, fSigned := false, fCode := 0 }
structure T13 where
  fMsg : Str
  fAddr : Int
  deriving DecidableEq
def rT13 (x : T13) : List AV := [(.str x.fMsg), (.int .u64 x.fAddr)]
theorem ok_T13 (x : T13) : RowOk 2 (rT13 x) := rowOk_of rfl rfl
def zeroT13 : T13 := { fMsg := [], fAddr := 0 }
structure Status where
  Station : Int
  From : Int
  Works : Bool
  deriving DecidableEq
def rStatus (x : Status) : List AV := [(.int .i64 x.Station), (.int .i64 x.From), (.bool x.Works)]
theorem ok_Status (x : Status) : RowOk 3 (rStatus x) := rowOk_of rfl rfl
def zeroStatus : Status := { Station := 0, From := 0, Works := false }
structure Station where
  Volumes : (List Int)
  Shift : Int
  Faults : Int
  deriving DecidableEq
def rStation (x : Station) : List AV := [(.sl 1 (List.map (rI .i64) x.Volumes)), (.int .i64 x.Shift), (.int .i64 x.Faults)]
theorem ok_Station (x : Station) : RowOk 3 (rStation x) := rowOk_of rfl rfl
def zeroStation : Station := { Volumes := [], Shift := 0, Faults := 0 }
structure Span where
  From : Int
  To : Int
  deriving DecidableEq
def rSpan (x : Span) : List AV := [(.int .i64 x.From), (.int .i64 x.To)]
theorem ok_Span (x : Span) : RowOk 2 (rSpan x) := rowOk_of rfl rfl
def zeroSpan : Span := { From := 0, To := 0 }
structure T74 where
  fN : Int
  fLeast : Int
  fMost : Int
  deriving DecidableEq
def rT74 (x : T74) : List AV := [(.int .i64 x.fN), (.int .i64 x.fLeast), (.int .i64 x.fMost)]
theorem ok_T74 (x : T74) : RowOk 3 (rT74 x) := rowOk_of rfl rfl
def zeroT74 : T74 := { fN := 0, fLeast := 0, fMost := 0 }
end Go.Am
