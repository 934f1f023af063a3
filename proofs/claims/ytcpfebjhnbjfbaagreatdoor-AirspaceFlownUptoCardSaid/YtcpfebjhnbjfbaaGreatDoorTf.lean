/- Written by shrink.py from texts of ours: comments struck, what is not reached left out, names short. -/
import Derived.Test.YtcpfebjhnbjfbaaGreatDoorTb
import Derived.Test.YtcpfebjhnbjfbaaGreatDoorTd
set_option linter.unusedSimpArgs false
set_option linter.unusedVariables false
set_option linter.unusedSectionVars false
set_option linter.defProp false
namespace Go.Am
open Go
variable{α:Type}{β:Type}{x:β}
theorem R.ok_of{m:R α}{f:α→R β}(h:m.bind f=.ok x):∃a,m=.ok a∧f a=.ok x:=by
 cases m with
 |ok a=>exact⟨a,rfl,h⟩
 |pan v=>cases h
 |bad=>cases h
theorem B2b{b:Nat→α→List β→R (List β)}{g:α→β}{c:Nat}(z:∀j a s,b j a s=if(s.length+1)*c≤Bj then .ok (s++[g a])else .bad):∀(l:List α) (k:Nat) (s r:List β),eachS b k l s=.ok r→r=s++l.map g
 |[],k,s,r,h=>by rw[Anw]at h;cases h;simp
 |a::l,k,s,r,h=>by
  rw[Ic,z]at h;obtain⟨s',h1,h2⟩:=R.ok_of h;split at h1
  ·cases h1;rw[B2b z l (k+1) _ r h2];simp
  ·cases h1
variable{t:Tables}
theorem Bum{m:R Int}{g:Unit→R (Tables×Int)}{k:Nat}{l:List Nat}{b:Nat→Nat→Unit→R (Unit ⊕ (Tables×Int))}{x:Nat}(A:b k x ()=m.bind Fb)(h:(each b k (x::l) ()).bind (alt g (λr=>.ok r))=.ok (t,0)):m=.ok 0∧(each b (k+1) l ()).bind (alt g (λr=>.ok r))=.ok (t,0):=by
 rw[Abg,A]at h;cases m with
 |ok e=>
  rw[R.ok_bind]at h;unfold Fb at h;by_cases z:e=0
  ·subst z;exact⟨rfl,h⟩
  ·rw[if_pos (by simpa using z)]at h;have h:(R.ok (({Volumes:=0,Sectors:=[],Configs:=[],Ways:=[],Modes:=[],Kinds:=[]}:Tables),e):R (Tables×Int))=.ok (t,0):=h;injection h with h;injection h with _ h;exact absurd h z
 |pan v=>cases h
 |bad=>cases h
theorem B41{a:Airspace}(h:N6 a=.ok (t,0)):Lowd a t:=by
 unfold N6 Zb at h;rw[R.ok_bind]at h;obtain⟨s1,h⟩:=Bum (m:=Sr a) rfl h;obtain⟨s2,h⟩:=Bum (m:=P0 a) rfl h;obtain⟨O,h⟩:=Bum (m:=Tv a) rfl h;obtain⟨S,h⟩:=Bum (m:=P3 a) rfl h;obtain⟨U,h⟩:=Bum (m:=Qc a) rfl h;obtain⟨V,h⟩:=Bum (m:=P6 a) rfl h;rw[Bnb,R.ok_bind]at h;obtain⟨r1,z,h⟩:=R.ok_of h;obtain⟨r2,A,h⟩:=R.ok_of h;obtain⟨r3,W,h⟩:=R.ok_of h;obtain⟨r4,X,h⟩:=R.ok_of h;obtain⟨r5,Y,h⟩:=R.ok_of h;obtain⟨Z,e6,h⟩:=R.ok_of h;by_cases D:Z=0
 ·subst D;rw[if_neg (by decide)]at h;injection h with h;injection h with h _;subst h;refine⟨s1,s2,O,S,U,V,rfl,?_,?_,W,X,Y,e6⟩
  ·unfold G2 at z;obtain⟨y,z,e⟩:=R.ok_of z;cases e;exact B2b (g:=lS) (c:=80) (λj a s=>rfl) _ _ _ _ z
  ·unfold Gx at A;obtain⟨y,A,e⟩:=R.ok_of A;cases e;exact B2b (g:=lC) (c:=64) (λj a s=>rfl) _ _ _ _ A
 ·rw[if_pos (by simpa using D)]at h;injection h with h;injection h with _ h;exact absurd h (by decide)
theorem At5{σ ε:Type}{m:R (σ ⊕ ε)}{f:σ→R β}{g:ε→R β}(h:m.bind (alt f g)=.ok x):(∃s,m=.ok (.inl s)∧f s=.ok x)∨∃e,m=.ok (.inr e)∧g e=.ok x:=by
 obtain⟨y,h1,h2⟩:=R.ok_of h;cases y with
 |inl s=>exact .inl ⟨s,h1,h2⟩
 |inr e=>exact .inr ⟨e,h1,h2⟩
theorem Bkk{σ ε:Type}{b:Nat→α→σ→R (σ ⊕ ε)}{P:ε→Prop}(z:∀j a t e,b j a t=.ok (.inr e)→P e):∀(l:List α) (k:Nat) (t:σ) (e:ε),each b k l t=.ok (.inr e)→P e
 |[],k,t,e,h=>by rw[Bnb]at h;cases h
 |q::l,k,t,e,h=>by
  rw[Abg]at h;obtain⟨y,A,h⟩:=R.ok_of h;cases y with
  |inl u=>exact Bkk z l _ _ _ h
  |inr D=>cases h;exact z _ _ _ _ A
end Go.Am
