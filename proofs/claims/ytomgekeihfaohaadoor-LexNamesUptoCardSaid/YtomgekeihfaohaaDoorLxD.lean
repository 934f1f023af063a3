/- The data, in cells. Written by dc.py. -/
import Derived.Test.YtomgekeihfaohaaDoorDcK
namespace Go.Am
open Go
set_option maxRecDepth 100000
set_option linter.unusedSimpArgs false
set_option linter.unusedVariables false
structure T7 where
  fX : Int
  fY : Int
  fSigned : Bool
  fCode : Int
  deriving DecidableEq
def rT7 (x : T7) : List AV := [(.int .i64 x.fX), (.int .i64 x.fY), (.bool x.fSigned), (.int .u8 x.fCode)]
theorem ok_T7 (x : T7) : RowOk 4 (rT7 x) := rowOk_of rfl rfl
def zeroT7 : T7 := { fX := 0, fY := 0, fSigned := false, fCode := 0 }
structure T13 where
  fMsg : Str
  fAddr : Int
  deriving DecidableEq
def rT13 (x : T13) : List AV := [(.str x.fMsg), (.int .u64 x.fAddr)]
theorem ok_T13 (x : T13) : RowOk 2 (rT13 x) := rowOk_of rfl rfl
def zeroT13 : T13 := { fMsg := [], fAddr := 0 }
structure Token where
  Kind : Int
  Text : Str
  N : Int
  At : Int
  deriving DecidableEq
def rToken (x : Token) : List AV := [(.int .i64 x.Kind), (.str x.Text), (.int .i64 x.N), (.int .i64 x.At)]
theorem ok_Token (x : Token) : RowOk 4 (rToken x) := rowOk_of rfl rfl
def zeroToken : Token := { Kind := 0, Text := [], N := 0, At := 0 }
structure T48 where
  fSrc : Str
  fAt : Int
  fL : (List Token)
  deriving DecidableEq
def rT48 (x : T48) : List AV := [(.str x.fSrc), (.int .i64 x.fAt), (.sl 4 (List.map rToken x.fL))]
theorem ok_T48 (x : T48) : RowOk 3 (rT48 x) := rowOk_of rfl rfl
def zeroT48 : T48 := { fSrc := [], fAt := 0, fL := [] }
structure T107 where
  fS : Str
  deriving DecidableEq
def rT107 (x : T107) : List AV := [(.str x.fS)]
theorem ok_T107 (x : T107) : RowOk 1 (rT107 x) := rowOk_of rfl rfl
def zeroT107 : T107 := { fS := [] }
end Go.Am
