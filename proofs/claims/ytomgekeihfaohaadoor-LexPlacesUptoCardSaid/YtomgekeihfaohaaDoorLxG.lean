/- The laws, in plain Lean. Written by args.py. -/
import Derived.Test.YtomgekeihfaohaaDoorAmArgs
import Derived.Test.YtomgekeihfaohaaDoorLxM
namespace Go.Am
open Go
set_option linter.unusedVariables false
def tToken : Ty Token := ⟨rToken, fun x => (tInt .i64).good x.Kind ∧ tStr.good x.Text ∧ (tInt .i64).good x.N ∧ (tInt .i64).good x.At ∧ True, fun x => ((tInt .i64).bulk x.Kind + (tStr.bulk x.Text + ((tInt .i64).bulk x.N + ((tInt .i64).bulk x.At + (0))))) + 1⟩
def Law_LexSpec : Prop := ∀ (a0 : Str) (_ : tStr.good a0), tStr.bulk a0 ≤ 1048576 → law07_LexSpec a0 = .ok true
def Law_LexTextSpec : Prop := ∀ (a0 : (List Token)) (a1 : (List Token)) (a2 : Str) (_ : (tSl 4 tToken).good a0) (_ : (tSl 4 tToken).good a1) (_ : tStr.good a2), (tSl 4 tToken).bulk a0 + ((tSl 4 tToken).bulk a1 + (tStr.bulk a2)) ≤ 1048576 → law07_LexTextSpec a0 a1 a2 = .ok true
def Law_LexBack : Prop := ∀ (a0 : (List Token)) (a1 : Str) (_ : (tSl 4 tToken).good a0) (_ : tStr.good a1), (tSl 4 tToken).bulk a0 + (tStr.bulk a1) ≤ 1048576 → law07_LexBack a0 a1 = .ok true
def Law_LexPlaces : Prop := ∀ (a0 : Str) (_ : tStr.good a0), tStr.bulk a0 ≤ 1048576 → law07_LexPlaces a0 = .ok true
def Law_LexJoined : Prop := ∀ (a0 : Str) (a1 : Str) (_ : tStr.good a0) (_ : tStr.good a1), tStr.bulk a0 + (tStr.bulk a1) ≤ 1048576 → law07_LexJoined a0 a1 = .ok true
def Law_LexSpaces : Prop := ∀ (a0 : (List Token)) (a1 : (List Int)) (a2 : Str) (_ : (tSl 4 tToken).good a0) (_ : (tSl 1 (tInt .u8)).good a1) (_ : tStr.good a2), (tSl 4 tToken).bulk a0 + ((tSl 1 (tInt .u8)).bulk a1 + (tStr.bulk a2)) ≤ 1048576 → law07_LexSpaces a0 a1 a2 = .ok true
def Law_LexWrong : Prop := ∀ (a0 : Str) (a1 : Str) (_ : tStr.good a0) (_ : tStr.good a1), tStr.bulk a0 + (tStr.bulk a1) ≤ 1048576 → law07_LexWrong a0 a1 = .ok true
def Law_LexNames : Prop := ∀ (a0 : Str) (_ : tStr.good a0), tStr.bulk a0 ≤ 1048576 → law07_LexNames a0 = .ok true
end Go.Am
