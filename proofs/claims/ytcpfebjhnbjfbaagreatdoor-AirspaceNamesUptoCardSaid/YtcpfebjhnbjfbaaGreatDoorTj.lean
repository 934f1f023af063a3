/- Written by shrink.py from texts of ours: comments struck, what is not reached left out, names short. -/
import Derived.Test.YtcpfebjhnbjfbaaGreatDoorTd
set_option linter.unusedSimpArgs false
set_option linter.unusedVariables false
set_option linter.unusedSectionVars false
set_option linter.defProp false
namespace Go.Am
open Go
theorem Bkl {α β:Type}(f:α→β)(l:List α)(i:Int):idx (l.map f) i=(idx l i).bind λa=>.ok (f a):=by
 unfold idx;split
 ·rw[BV];cases l[i.toNat]?<;>rfl
 ·rfl
end Go.Am
