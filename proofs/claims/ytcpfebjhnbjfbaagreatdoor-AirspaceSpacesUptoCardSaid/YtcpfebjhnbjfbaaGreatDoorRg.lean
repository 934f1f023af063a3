import Derived.Test.YtcpfebjhnbjfbaaGreatDoorRa
import Derived.Test.YtcpfebjhnbjfbaaGreatDoorRe
set_option linter.all false
namespace Go.Am
open Go
theorem Bits.join {n:Nat}{x y:Int}{vs S:List Int}(h:Bits n x vs)(g:Bits n y S)(A:Dk .u64 x y=0):Bits n (Rn .u64 x y) (vs++S):=by
 obtain⟨m,rfl,T,U,D,hr⟩:=h;obtain⟨p,rfl,hp,V,O,X⟩:=g;rw[B37 m p T hp]at A;have A:m&&& p=0:=by exact_mod_cast A
 obtain⟨Y,Z⟩:=B4h m p T hp;refine⟨m|||p,Y,Z,λi=>?_,?_,λu z=>?_⟩
 ·rw[Nat.testBit_or,BG,BQ,U i,V i]
 ·rw[HY];refine⟨D,O,λa W c R=>?_⟩;rintro rfl;obtain⟨w,rfl⟩:=CE (hr a W).1;have:=congrArg (λx=>x.testBit w) A;simp[IR,(U w).2 W,(V w).2 R]at this
 ·rcases BG.1 z with z|z
  ·exact hr u z
  ·exact X u z
end Go.Am
