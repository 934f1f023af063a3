import Derived.Test.YtcpfebjhnbjfbaaGreatDoorRb
set_option linter.all false
namespace Go.Am
open Go Go.ChangeShapes Go.WideShapes Go.RowKit
variable{v:Go.Value}
theorem A2w{P:Program}[GW P]{W:World}{r:Reach}{b:Nat}{t:TypeId}{d:TypeDesc}(ht:P.underlying t=some d)(h1:∀fs,d≠.struct fs)(h2:∀n e,d≠.array n e)(h:Go.Value.okWide P W r b t v):∀cs,v≠.agg cs:=by
 intro cs e;subst e;unfold Go.Value.okWide at h;rw[ht]at h;split at h
 ·rename_i fs he;exact h1 fs (AT he)
 ·rename_i n x he;exact h2 n x (AT he)
 ·unfold Cell.okWide at h;revert h;cases d<;>simp_all[Cell.ok]
theorem Bif{w:World}{a:AV}(h:LR w [a] v.cells.toList)(hv:∀cs,v≠.agg cs):Rv w mu0 M0 a v:=by
 have e:v.cells=#[v]:=by cases v<;>first|rfl|exact absurd rfl (hv _)
 rw[e]at h;exact h.2 0 (by simp)
end Go.Am
