import Derived.Test.YtcpfebjhnbjfbaaGreatDoorS12
set_option linter.all false
namespace Go.Am
open Go
theorem Anw {α σ:Type}(b:Nat→α→σ→R σ)(k:Nat)(s:σ):eachS b k [] s=.ok s:=rfl
end Go.Am
