/- Written by shrink.py from texts of ours: comments struck, what is not reached left out, names short. -/
import Derived.Test.YtcpfebjhnbjfbaaGreatDoorU21
set_option linter.unusedSimpArgs false
set_option linter.unusedVariables false
set_option linter.unusedSectionVars false
set_option linter.defProp false
set_option maxRecDepth 100000
namespace Go.Am
open Go
def Brs (S s:List Span):Prop:=∀x∈S,x∈s
theorem B19 (a:Span):∀S:List Span,∃A:List Span,(∀x∈A,x∈S∧x≠a)∧(∀x∈S,x=a∨x∈A)∧A.length≤S.length∧(a∈S→A.length<S.length)
 |[]=>⟨[],λx z=>(by cases z),λx z=>(by cases z),AI _,λh=>(by cases h)⟩
 |b::S=>by
  obtain⟨A,h1,h2,O,D⟩:=B19 a S;by_cases e:b=a
  ·subst e;exact⟨A,λx z=>⟨BC _ (h1 x z).1,(h1 x z).2⟩,λx z=>(AM.1 z).elim .inl (h2 x),by simp only[AF];omega,λ_=>by simp only[AF];omega⟩
  ·refine⟨b::A,λx z=>?_,λx z=>?_,by simp only[AF];omega,λh=>?_⟩
   ·rcases AM.1 z with rfl|z
    ·exact⟨BM,e⟩
    ·exact⟨BC _ (h1 x z).1,(h1 x z).2⟩
   ·rcases AM.1 z with rfl|z
    ·exact .inr BM
    ·exact(h2 x z).imp id (BC _)
   ·rcases AM.1 h with h|h
    ·exact absurd h.symm e
    ·have:=D h;simp only[AF];omega
theorem pick:∀(r S:List Span),Brs S r→S≠[]→∃(j:Nat) (a:Span) (z:List Span),r[j]?=some a∧Brs z (r.drop (j+1))∧z.length+1≤S.length∧∀x∈S,x=a∨x∈z
 |[],S,h,A=>by
  cases S with
  |nil=>exact absurd rfl A
  |cons x S=>exact absurd (h x (by simp)) (by simp)
 |a::r,S,h,A=>by
  by_cases R:a∈S
  ·obtain⟨z,h1,h2,U,O⟩:=B19 a S;refine⟨0,a,z,rfl,λx D=>?_,O R,h2⟩;obtain⟨g1,V⟩:=h1 x D;rcases AM.1 (h x g1)with h|h
   ·exact absurd h V
   ·simpa using h
  ·obtain⟨j,b,z,h1,h2,U,O⟩:=pick r S (λx D=>by
    rcases AM.1 (h x D)with e|e
    ·exact absurd (e▸D) R
    ·exact e) A
   exact⟨j+1,b,z,by simpa using h1,by simpa using h2,U,O⟩
abbrev Dv:=List (List (Int×Bool))
def E (l:Dv)(x y:Nat):Prop:=x≠y∧∃p q,l[x]?=some p∧l[y]?=some q∧X9 p q=.ok true
inductive Rch (l:Dv)(a:Nat):Nat→Prop
 |nil:Rch l a a
 |cons {b c:Nat}:Rch l a b→E l b c→Rch l a c
def Ge (d:List Int)(i:Nat):Prop:=∃v,d[i]?=some v∧0≤v
theorem B5z (p q:List (Int×Bool)):∃m n,Pl p q=.ok m∧Pl q p=.ok n∧X9 p q=.ok ((((m==0)&&(n==0))||((m==1)&&(n==2)))||((m==2)&&(n==1))):=by obtain⟨m,z,_⟩:=Ash p q;obtain⟨n,A,_⟩:=Ash q p;exact⟨m,n,z,A,by unfold X9;rw[z,A];rfl⟩
theorem B6f {p q:List (Int×Bool)}(h:X9 p q=.ok true):X9 q p=.ok true:=by obtain⟨m,n,h1,h2,z⟩:=B5z p q;rw[z]at h;injection h with h;unfold X9;rw[h2,h1,R.ok_bind,R.ok_bind];congr 1;simp only[BQ,AH,BN]at h ⊢;omega
variable{l:Dv}{x:Nat}
theorem E.symm{y:Nat}(h:E l x y):E l y x:=by obtain⟨h1,p,q,h2,z,A⟩:=h;exact⟨λe=>h1 e.symm,q,p,z,h2,B6f A⟩
variable{d:List Int}
theorem Ge.set{i j:Nat}{v:Int}(z:0≤v)(h:Ge d i):Ge (d.set j v) i:=by
 obtain⟨w,h1,h2⟩:=h;by_cases e:j=i
 ·subst e;exact⟨v,by rw[AZ (A6 h1)],z⟩
 ·exact⟨w,by rw[EP e];exact h1,h2⟩
structure Nx (l:Dv)(x:Nat)(d q:List Int)(k:Nat)(s:List Int×List Int):Prop where
 up:∀i,Ge d i→Ge s.1 i
 new:∀i,Ge s.1 i→Ge d i∨(E l x i∧(i:Int)∈s.2)
 que:∀v∈q,v∈s.2
 bac:∀v∈s.2,v∈q∨Ge s.1 v.toNat
 all:∀j,j<k→E l x j→Ge s.1 j
structure Fnd (l:Dv)(x:Nat)(d:List Int):Prop where
 len:d.length=l.length
 low:∀v∈d,-1≤v
 at_:Ge d x
 clo:∀i j,Ge d i→E l i j→Ge d j
 rch:∀i,Ge d i→Rch l x i
theorem Fnd.fwd{a b:Nat}(h:Fnd l x d)(r:Rch l a b)(z:Ge d a):Ge d b:=by
 induction r with
 |nil=>exact z
 |cons _ e A=>exact h.clo _ _ A e
theorem Fnd.bwd{a b:Nat}(h:Fnd l x d)(r:Rch l a b)(z:Ge d b):Ge d a:=by
 induction r with
 |nil=>exact z
 |cons _ e A=>exact A (h.clo _ _ z e.symm)
theorem Fnd.all{e:List Int}(h0:Fnd l 0 e)(z:∀i,i<l.length→Ge e i)(h:Fnd l x d)(A:x<l.length):∀i,i<l.length→Ge d i:=λi hi=>h.fwd (h0.rch i (z i hi)) (h.bwd (h0.rch x (z x A)) h.at_)
def inB (n a b:Int):Bool:=(decide (n≥a))&&(decide (n≤b))
def A2d (s:Span):Bool:=!(((decide (s.From<0))||(decide (s.From≥s.To)))||(decide (s.To>1440)))
def B3p (t:Tables)(g:Leg):Bool:=(((inB g.Segment 0 127&&inB g.Volume 0 (IntKind.wrap .i64 (t.Volumes-1)))&&inB g.Length 1 4096)&&decide ((g.Minutes.length:Int)>0))&&g.Minutes.all A2d
def apB (t:Tables)(n:Int):Bool:=inB n 0 (IntKind.wrap .i64 ((t.Modes.length:Int)-1))
def B1d (t:Tables)(w:Way):Bool:=((apB t w.From&&apB t w.To)&&inB (w.Legs.length:Int) 1 8)&&w.Legs.all (B3p t)
def ok3 (t:Int×Int×Int):Bool:=!(decide (t.1<t.2.1))&&!(decide (t.1>t.2.2))
def Bk1 (k:Kind):Bool:=([(k.Slow,1,64),(k.Fast,k.Slow,64),(k.Places,1,8),(k.Weight,1,8),(k.Longest,0,60),((k.Curfews.length:Int),0,16)].all ok3&&!((Int.tmod k.Longest 10)!=0))&&k.Curfews.all λl=>l.all A2d
structure Valid (t:Tables):Prop where
 way:∀w∈t.Ways,B1d t w=true
 kin:∀k∈t.Kinds,Bk1 k=true
end Go.Am
