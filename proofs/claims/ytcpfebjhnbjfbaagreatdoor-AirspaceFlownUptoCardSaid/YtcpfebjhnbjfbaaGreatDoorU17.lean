/- Written by shrink.py from texts of ours: comments struck, what is not reached left out, names short. -/
import Derived.Test.YtcpfebjhnbjfbaaGreatDoorU16
set_option linter.unusedSimpArgs false
set_option linter.unusedVariables false
set_option linter.unusedSectionVars false
set_option linter.defProp false
namespace Go.Am
open Go
abbrev HJ:=@Nat.testBit_two_pow
abbrev HY:=@List.nodup_append
abbrev IR:=@Nat.testBit_and
def lS (s:Sector):Sector:={Name:=[],Names:=[],Volumes:=s.Volumes,Radar:=s.Radar,Procedural:=s.Procedural}
def lC (c:Config):Config:={Name:=[],Names:=[],Sectors:=c.Sectors}
structure Lowd (a:Airspace)(t:Tables):Prop where
 check:Sr a=.ok 0
 stuck:P0 a=.ok 0
 rules:Tv a=.ok 0
 reason:P3 a=.ok 0
 passable:Qc a=.ok 0
 blocked:P6 a=.ok 0
 vol:t.Volumes=(a.Volumes.length:Int)
 sec:t.Sectors=a.Sectors.map lS
 con:t.Configs=a.Configs.map lC
 way:Ls a.Routes a=.ok t.Ways
 mod:Fv a.Airports=.ok t.Modes
 kin:Kv a.Classes a=.ok t.Kinds
 tab:Ky t=.ok 0
theorem wu (n:Nat)(h:n<18446744073709551616):IntKind.wrap .u64 (n:Int)=(n:Int):=by simp[IntKind.wrap,IntKind.bits,IntKind.signed];omega
theorem bvo (n:Nat)(h:n<18446744073709551616):(BitVec.ofInt 64 (n:Int)).toNat=n:=by rw[BitVec.toNat_ofInt];omega
theorem B37 (x y:Nat)(z:x<18446744073709551616)(A:y<18446744073709551616):Dk .u64 (x:Int) (y:Int)=((x&&& y:Nat):Int):=by
 unfold Dk;have e:((BitVec.ofInt IntKind.u64.bits (x:Int)&&& BitVec.ofInt IntKind.u64.bits (y:Int)).toNat)=x&&& y:=by show((BitVec.ofInt 64 (x:Int)&&& BitVec.ofInt 64 (y:Int)).toNat)=x&&& y;rw[BitVec.toNat_and,bvo x z,bvo y A]
 rw[e];exact wu _ (Nat.lt_of_le_of_lt Nat.and_le_left z)
theorem B4h (x y:Nat)(z:x<18446744073709551616)(A:y<18446744073709551616):Rn .u64 (x:Int) (y:Int)=((x|||y:Nat):Int)∧x|||y<18446744073709551616:=by
 unfold Rn;have e:((BitVec.ofInt IntKind.u64.bits (x:Int)|||BitVec.ofInt IntKind.u64.bits (y:Int)).toNat)=x|||y:=by show((BitVec.ofInt 64 (x:Int)|||BitVec.ofInt 64 (y:Int)).toNat)=x|||y;rw[BitVec.toNat_or,bvo x z,bvo y A]
 have D:x|||y<18446744073709551616:=Nat.or_lt_two_pow (n:=64) z A;rw[e];exact⟨wu _ D,D⟩
theorem Cax (v:Nat)(h:v<64):X0 .u64 1 (v:Int)=((2^v:Nat):Int)∧2^v<18446744073709551616:=by have z:2^v<18446744073709551616:=Nat.pow_lt_pow_right (a:=2) (by decide) h;refine⟨?_,z⟩;unfold X0;rw[show min ((v:Int).toNat) IntKind.u64.bits=v from by show min _ 64=v;omega];rw[show(1:Int)*2^v=((2^v:Nat):Int)from by simp];exact wu _ z
def Bits (n:Nat)(x:Int)(vs:List Int):Prop:=∃m:Nat,x=(m:Int)∧m<18446744073709551616∧(∀i,m.testBit i=true↔(i:Int)∈vs)∧vs.Nodup∧∀v∈vs,0≤v∧v<(n:Int)
theorem Bits.nil (n:Nat):Bits n 0 []:=⟨0,rfl,by decide,λi=>by simp,HK,λv z=>absurd z BU⟩
theorem B8h (m v:Nat):(m&&& 2^v)≠0↔m.testBit v=true:=by
 constructor
 ·intro h;cases z:m.testBit v with
  |true=>rfl
  |false=>
   refine absurd (Nat.eq_of_testBit_eq λi=>?_) h;rw[IR,HJ,Nat.zero_testBit];by_cases hi:v=i
   ·subst hi;simp[z]
   ·simp[hi]
 ·intro h h0;have:=congrArg (λx=>x.testBit v) h0;simp[IR,HJ,h]at this
theorem Bits.put {n:Nat}{x:Int}{vs:List Int}{v:Int}(hn:n≤64)(h:Bits n x vs)(h0:0≤v)(h1:v<(n:Int))(A:Dk .u64 x (X0 .u64 1 v)=0):Bits n (Rn .u64 x (X0 .u64 1 v)) (vs++[v]):=by
 obtain⟨m,rfl,S,U,D,hr⟩:=h;obtain⟨w,rfl⟩:=CE h0;obtain⟨X,V⟩:=Cax w (by omega);rw[X]at A ⊢;rw[B37 m _ S V]at A;obtain⟨Y,Z⟩:=B4h m _ S V;have O:m.testBit w=false:=by
  cases R:m.testBit w with
  |false=>rfl
  |true=>exact absurd (by exact_mod_cast A) ((B8h m w).2 R)
 refine⟨m|||2^w,Y,Z,λi=>?_,?_,λu z=>?_⟩
 ·rw[Nat.testBit_or,HJ,BG,AY,BQ,U i,AK];constructor
  ·rintro(h|rfl)
   ·exact .inl h
   ·exact .inr rfl
  ·rintro(h|h)
   ·exact .inl h
   ·exact .inr (by omega)
 ·rw[HY];refine⟨D,by simp,λa W c R=>?_⟩;rw[AY.1 R];rintro rfl;rw[←U w,O]at W;cases W
 ·rcases BG.1 z with z|z
  ·exact hr u z
  ·rw[AY.1 z];exact⟨h0,h1⟩
def Aso (a:Airspace)(k:Int):List Int:=((a.Sectors[k.toNat]?).map (·.Volumes)).getD []
structure Divs (a:Airspace):Prop where
 v1:1≤a.Volumes.length
 v2:a.Volumes.length≤64
 con:∀c∈a.Configs,(∀k∈c.Sectors,0≤k∧k<(a.Sectors.length:Int))∧(c.Sectors.flatMap (Aso a)).Nodup∧∀v:Int,(0≤v∧v<(a.Volumes.length:Int))↔v∈c.Sectors.flatMap (Aso a)
 secs:a.Sectors.length≤64
 cons:a.Configs.length≤32
end Go.Am
