import Derived.Test.YtcpfebjhnbjfbaaGreatDoorRe
set_option linter.all false
set_option maxRecDepth 100000
open Go.Proofs.Tryz
namespace Go.Proofs.YtcpfebjhnbjfbaaGreatDoor.laws
open Go Go.Am Go.ChangeShapes Go.WideShapes Go.ChangeAt Go.RowKit
theorem rd9:prog.readableRec 9=true∧9<prog.types.size:=by decide+kernel
end Go.Proofs.YtcpfebjhnbjfbaaGreatDoor.laws
