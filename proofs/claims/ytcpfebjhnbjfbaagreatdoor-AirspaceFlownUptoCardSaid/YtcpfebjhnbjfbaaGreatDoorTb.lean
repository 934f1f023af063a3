/- Written by shrink.py from texts of ours: comments struck, what is not reached left out, names short. -/
import Derived.Test.YtcpfebjhnbjfbaaGreatDoorU15
import Derived.Test.YtcpfebjhnbjfbaaGreatDoorU23
set_option linter.unusedSimpArgs false
set_option linter.unusedVariables false
set_option linter.unusedSectionVars false
set_option linter.defProp false
namespace Go.Am
open Go
theorem Anw {α σ:Type}(b:Nat→α→σ→R σ)(k:Nat)(s:σ):eachS b k [] s=.ok s:=rfl
end Go.Am
