/- Written by shrink.py from texts of ours: comments struck, what is not reached left out, names short. -/
import Derived.Test.YtcpfebjhnbjfbaaGreatDoorTa
import Derived.Test.YtcpfebjhnbjfbaaGreatDoorTe
set_option linter.unusedSimpArgs false
set_option linter.unusedVariables false
set_option linter.unusedSectionVars false
set_option linter.defProp false
namespace Go.Am
open Go
theorem Bits.join {n:Nat}{x y:Int}{vs S:List Int}(h:Bits n x vs)(g:Bits n y S)(A:Dk .u64 x y=0):Bits n (Rn .u64 x y) (vs++S):=by
 obtain⟨m,rfl,U,V,D,hr⟩:=h;obtain⟨p,rfl,hp,W,O,Y⟩:=g;rw[B37 m p U hp]at A;have A:m&&& p=0:=by exact_mod_cast A
 obtain⟨Z,e4⟩:=B4h m p U hp;refine⟨m|||p,Z,e4,λi=>?_,?_,λu z=>?_⟩
 ·rw[Nat.testBit_or,BG,BQ,V i,W i]
 ·rw[HY];refine⟨D,O,λa X c R=>?_⟩;rintro rfl;obtain⟨w,rfl⟩:=CE (hr a X).1;have:=congrArg (λx=>x.testBit w) A;simp[IR,(V w).2 X,(W w).2 R]at this
 ·rcases BG.1 z with z|z
  ·exact hr u z
  ·exact Y u z
end Go.Am
