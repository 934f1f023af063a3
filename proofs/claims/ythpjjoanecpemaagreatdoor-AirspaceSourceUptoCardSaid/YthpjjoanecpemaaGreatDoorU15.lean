/- Written by shrink.py from texts of ours: comments struck, what is not reached left out, names short. -/
import Derived.Test.YthpjjoanecpemaaGreatDoorU5
import Derived.Test.YthpjjoanecpemaaGreatDoorU4
set_option linter.unusedSimpArgs false
set_option linter.unusedVariables false
set_option linter.unusedSectionVars false
set_option linter.defProp false
set_option maxRecDepth 100000
namespace Go.Am
open Go
abbrev BT:=@List.getElem?_eq_some_iff
abbrev EN:=@decide_eq_false
abbrev EW:=@decide_eq_true
abbrev FR:=@Bool.or_false
abbrev GB:=@Int.le_refl
variable{α:Type}
def As(m:R α)(p:α→Prop):Prop:=∃a,m=.ok a∧p a
variable{p:α→Prop}
theorem As.ok{a:α}(h:p a):As (.ok a) p:=⟨a,rfl,h⟩
variable{β:Type}
theorem As.bind{m:R α}{f:α→R β}{q:β→Prop}(h:As m p)(hf:∀a,p a→As (f a) q):As (m.bind f) q:=by obtain⟨a,rfl,z⟩:=h;exact hf a z
theorem As.mono{m:R α}{q:α→Prop}(h:As m p)(z:∀a,p a→q a):As m q:=let ⟨a,h1,h2⟩:=h;⟨a,h1,z a h2⟩
theorem As.np{m:R α}(h:As m p):As m.np p:=by obtain⟨a,rfl,z⟩:=h;exact⟨a,rfl,z⟩
variable{c:Prop}
theorem As.ite[Decidable c]{a b:R α}(h1:c→As a p)(h2:¬c→As b p):As (if c then a else b) p:=by
 split
 ·exact h1 ‹_›
 ·exact h2 ‹_›
theorem As.need[Decidable c]{a b:R α}(z:c)(h1:As a p):As (if c then a else b) p:=by rw[if_pos z];exact h1
variable{l:List α}
theorem As.idx{i:Int}{f:α→R β}{p:β→Prop}(h0:0≤i)(h1:i<(l.length:Int))(hf:∀a,l[i.toNat]?=some a→As (f a) p):As ((idx l i).bind f) p:=by
 obtain⟨n,rfl⟩:=FL h0;have z:n<l.length:=by omega
 rw[Zo (AA z)];exact hf _ (AA z)
variable{σ:Type}{ε:Type}
def Sm(I:σ→Prop)(J:ε→Prop):σ ⊕ ε→Prop
 |.inl s=>I s
 |.inr e=>J e
theorem As.alt{m:R (σ ⊕ ε)}{f:σ→R β}{g:ε→R β}{I:σ→Prop}{J:ε→Prop}{p:β→Prop}(h:As m (Sm I J))(hf:∀s,I s→As (f s) p)(A:∀e,J e→As (g e) p):As (m.bind (alt f g)) p:=
 h.bind λa z=>by
  cases a with
  |inl s=>exact hf s z
  |inr e=>exact A e z
theorem My{b:Nat→α→σ→R σ}(I:Nat→σ→Prop):∀(l:List α) (k:Nat) (s:σ),(∀j a s,l[j]?=some a→I (k+j) s→As (b (k+j) a s) (I (k+j+1)))→I k s→As (Bf b k l s) (I (k+l.length))
 |[],k,s,_,z=>.ok z
 |a::l,k,s,D,z=>by rw[Lo];refine(D 0 a s rfl z).bind λs' A=>?_;have:=My I l (k+1) s' (λj x t O ht=>by have:=D (j+1) x t (by simpa using O) (by rw[show k+(j+1)=k+1+j by omega];exact ht);rwa[show k+(j+1)=k+1+j by omega]at this) A;rw[AC,show k+(l.length+1)=k+1+l.length by omega];exact this
theorem Lu{b:Nat→α→σ→R (σ ⊕ ε)}(I:Nat→σ→Prop)(J:ε→Prop):∀(l:List α) (k:Nat) (s:σ),(∀j a s,l[j]?=some a→I (k+j) s→As (b (k+j) a s) (Sm (I (k+j+1)) J))→I k s→As (each b k l s) (Sm (I (k+l.length)) J)
 |[],k,s,_,z=>.ok z
 |a::l,k,s,A,z=>by
  simp only[each];refine(A 0 a s rfl z).bind λr hr=>?_;cases r with
  |inr e=>exact .ok hr
  |inl s'=>have:=Lu I J l (k+1) s' (λj x t D ht=>by have:=A (j+1) x t (by simpa using D) (by rw[show k+(j+1)=k+1+j by omega];exact ht);rwa[show k+(j+1)=k+1+j by omega]at this) hr;rw[AC,show k+(l.length+1)=k+1+l.length by omega];exact this
theorem Aue{b:α→σ→R σ}(I:σ→Prop)(D:∀a s,I s→As (b a s) I):∀(l:List α) (s:σ),I s→As (Lf b l s) I
 |[],s,z=>.ok z
 |a::l,s,z=>(D a s z).bind λs' A=>Aue I D l s' A
theorem Aa1{b:σ→R (σ ⊕ ε)}(μ:σ→Nat)(I:σ→Prop)(J:ε→Prop)(A:∀s,I s→As (b s) (Sm (λs'=>I s'∧μ s'<μ s) J)):∀(n:Nat) (s:σ),μ s≤n→I s→As (loop b s) J:=by
 intro n;induction n with
 |zero=>
  intro s D z;rw[Ms];refine(A s z).bind λr hr=>?_;cases r with
  |inl s'=>exact absurd hr.2 (by omega)
  |inr e=>exact .ok hr
 |succ n O=>
  intro s D z;rw[Ms];refine(A s z).bind λr hr=>?_;cases r with
  |inl s'=>exact O s' (by have:=hr.2;omega) hr.1
  |inr e=>exact .ok hr
abbrev T1:α→Prop:=λ_=>True
variable{b:Nat→α→Unit→R (Unit ⊕ Int)}
theorem Am9(l:List α)(A:∀j a,l[j]?=some a→As (b j a ()) (Sm T1 λi=>i=(j:Int))):
  As ((each b 0 l ()).bind (alt (λ_=>.ok (-1)) (λr=>.ok r))) λi=>i= -1∨(0≤i∧i<(l.length:Int)):=by
 refine As.alt (I:=T1) (J:=λi=>0≤i∧i<(l.length:Int)) ((Lu (λ_ _=>True) (λi=>0≤i∧i<(l.length:Int)) l 0 () (λj a s z _=>?_) trivial).mono λr hr=>by
  cases r with
  |inl u=>trivial
  |inr i=>exact hr) (λ_ _=>.ok (.inl rfl)) λi hi=>.ok (.inr hi)
 rw[AN]
 have D:j<l.length:=(BT.1 z).1
 refine(A j a z).mono λr hr=>?_
 cases r with
 |inl u=>trivial
 |inr i=>exact⟨by have:i=(j:Int):=hr;omega,by have:i=(j:Int):=hr;omega⟩
theorem Aoa (l:List Span):As (T4 l) T1:=by unfold T4 Jl L9;refine As.bind (p:=T1) (As.bind (Am9 l λj a _=>?_) λi _=>.ok trivial) λb _=>As.ite (λ_=>.ok trivial) λ_=>.ok trivial;unfold Oh Y5;simp only[R.ok_bind];exact As.ite (λ_=>.ok rfl) λ_=>.ok trivial
theorem A3b (k:Int)(h:0≤k∧k<5):Ap (#v[235,236,237,239,240]:Vector Nat 5) k.toNat 0∈[235,236,237,239,240]:=by
 obtain⟨n,rfl⟩:=FL h.1;have z:n<5:=by omega
 match n,z with
 |0,_=>decide
 |1,_=>decide
 |2,_=>decide
 |3,_=>decide
 |4,_=>decide
theorem Az6 (a:Airspace)(r:Rule):As (Vd r a ({fValid:=(#v[235,236,237,239,240]:(Vector Nat 5))}:T270)) T1:=by
 unfold Vd;refine As.ite (λ_=>.ok trivial) λh1=>As.ite (λ_=>.ok trivial) λh2=>As.ite (λ_=>.ok trivial) λU=>As.ite (λ_=>.ok trivial) λV=>?_;simp only[AS]at h1 h2;have hk:0≤r.Kind∧r.Kind<5:=by omega
 refine As.need hk ?_;have z:=A3b r.Kind hk;simp only[AH,CK,or_false]at z;refine As.ite (λ_=>by unfold Y1;exact .ok trivial) λA=>As.ite (λ_=>?_) λD=>As.ite (λ_=>?_) λO=>As.ite (λ_=>?_) λS=>As.ite (λ_=>?_) λT=>?_
 ·unfold Zs;rw[R.bind_assoc];refine As.bind (p:=T1) (As.ite (λ_=>(Aoa _).bind λe _=>.ok trivial) λ_=>.ok trivial) λb _=>.ok trivial
 ·unfold Zd Q5;exact .ok trivial
 ·unfold Zf Q5;exact .ok trivial
 ·unfold Zj Q5;exact .ok trivial
 ·rcases z with h|h|h|h|h
  ·exact absurd h A
  ·exact absurd h D
  ·exact absurd h O
  ·exact absurd h S
  ·exact absurd h T
theorem Aop (a:Airspace):As (Tv a) λe=>e=0→a.Rules.length≤64:=by
 unfold Tv Ae3;simp only[R.ok_bind];refine As.bind (p:=λb=>b=false→a.Rules.length≤64) (As.ite (λ_=>.ok λh=>by cases h) λz=>?_) λb A=>As.ite (λ_=>.ok λh=>by cases h) λh=>.ok λ_=>A (by simpa using h);simp only[AS]at z;unfold Jn Lq;refine As.bind (p:=T1) (As.bind (Am9 a.Rules λj r _=>?_) λi _=>.ok trivial) λb _=>.ok λ_=>by omega
 unfold Oy;exact(Az6 a r).bind λb _=>As.ite (λ_=>.ok rfl) λ_=>.ok trivial
theorem Alf (a:Airspace)(c:Int):As (Tx a c) λe=>e=0→a.Rules.length≤64:=by unfold Tx;exact(Aop a).bind λe z=>As.ite (λh=>.ok λh0=>z h0) λh=>As.ite (λ_=>.ok λh=>by cases h) λ_=>.ok λ_=>z (by simpa using h)
theorem Am5 (a:Airspace)(k c o:Int):As (Ru a k c o) T1:=by unfold Ru Kb;refine As.bind (Am9 a.Rules λj r _=>?_) λi hi=>As.ite (λ_=>.ok trivial) λh=>As.idx (by omega) (by omega) λx _=>.ok trivial;unfold M9 Xn;simp only[R.ok_bind];exact As.ite (λ_=>.ok rfl) λ_=>.ok trivial
theorem A6i (a:Airspace)(c:Int):As (Yi a c) T1:=by unfold Yi;exact(Alf a c).bind λe _=>As.ite (λ_=>.ok trivial) λ_=>(Am5 _ _ _ _).bind λn _=>.ok trivial
theorem A3u (a:Airspace)(c:Int):As (Wu a c) T1:=by unfold Wu;exact(Alf a c).bind λe _=>As.ite (λ_=>.ok trivial) λ_=>(Am5 _ _ _ _).bind λn _=>(Am5 _ _ _ _).bind λn _=>.ok trivial
theorem Zl {n c:Nat}(h:n*c≤140737488355328):n*c≤Bj:=h
def unc (l:List Span):Nat:=(List.range 1440).countP λi=>!Xk l i
theorem Atp {p q:Nat→Bool}{x:Nat}:∀(l:List Nat),(∀i,q i=true→p i=true)→x∈l→p x=true→q x=false→l.countP q<l.countP p
 |[],_,A,_,_=>by cases A
 |a::l,h,A,hp,D=>by
  have O:l.countP q≤l.countP p:=List.countP_mono_left λi _=>h i;rw[List.countP_cons,List.countP_cons];rcases AH.1 A with rfl|A
  ·rw[hp,D];simp;omega
  ·have:=Atp l h A hp D;have:(if q a=true then 1 else 0)≤(if p a=true then 1 else 0):=by
    by_cases z:q a=true
    ·rw[if_pos z,if_pos (h a z)];exact BA _
    ·rw[if_neg z];exact BV _
   omega
theorem A2r (l:List Span):unc l≤1440:=by unfold unc;exact BL List.countP_le_length (by simp)
theorem Bkp {l:List Span}{s:Span}{f:Nat}(hf:f<1440)(z:Xk l f=false)(A:inS s f=true):unc (l++[s])<unc l:=by
 unfold unc;refine Atp _ (λi h=>?_) (DJ.2 hf) (by simp[z]) ?_
 ·unfold Xk at h ⊢;rw[List.any_append]at h;cases D:l.any λs=>inS s i with
  |false=>rfl
  |true=>rw[D]at h;simp at h
 ·unfold Xk;rw[List.any_append];simp[A]
theorem Ait:∀(l:List Bool) (k:Nat) (o:Option Nat),(∀f,o=some f→f<k)→∀s∈Hs k l o,∃f t,s=sp f t∧f<t
 |[],k,none,_,s,z=>by cases z
 |[],k,some f,h,s,z=>by rw[Hs,BP]at z;exact⟨f,k,z,h f rfl⟩
 |true::l,k,none,h,s,z=>Ait l (k+1) (some k) (λf hf=>by cases hf;omega) s z
 |true::l,k,some g,h,s,z=>Ait l (k+1) (some g) (λf hf=>by cases hf;have:=h g rfl;omega) s z
 |false::l,k,none,h,s,z=>Ait l (k+1) none (λf hf=>by cases hf) s z
 |false::l,k,some g,h,s,z=>by
  rw[Hs]at z;rcases AH.1 z with rfl|z
  ·exact⟨g,k,rfl,h g rfl⟩
  ·exact Ait l (k+1) none (λf hf=>by cases hf) s z
theorem Bat {a l:List Span}{r:Span}{rest:List Span}(h:Zr a l=r::rest):∃f:Nat,r.From=(f:Int)∧f<1440∧Xk l f=false:=by
 obtain⟨f,t,rfl,A⟩:=Ait _ 0 none (λf hf=>by cases hf) r (by
  have:r∈Zr a l:=by rw[h];simp
  exact this)
 refine⟨f,rfl,?_⟩;have z:Xk (Zr a l) f=true:=by rw[h];unfold Xk;rw[List.any_cons,A98];simp[A]
 rw[Bbz]at z;simp only[AF,AS,CL]at z;exact⟨z.1,z.2.2⟩
theorem A2q (c s:List Span)(Z:c.length≤100000):As (Zn c s) λn=> -1≤n∧n≤1440:=by
 unfold Zn P4;rw[if_pos (Zl (by omega))];simp only[R.ok_bind];refine As.bind (p:=λn=> -1≤n∧n≤1440) (Aa1 (λs=>unc s.2) (λt=>∃m:Nat,t.1=(m:Int)∧m+unc t.2≤1440∧t.2.length+unc t.2≤200000) (λn=> -1≤n∧n≤1440) (λt ht=>?_) 1440 _ (A2r _) ⟨0,rfl,by simp only;have:=A2r c;omega,by simp only;have:=A2r c;omega⟩) λn V=>.ok V;obtain⟨n,l1⟩:=t;obtain⟨m,rfl,W,X⟩:=ht;simp only[Ct];simp only at W X;unfold W0;rw[Asf];simp only[R.ok_bind];cases z:Zr [({From:=0,To:=1440}:Span)] l1 with
 |nil=>simp only[DM];exact As.need rfl (.ok ⟨by omega,by omega⟩)
 |cons r rest=>
  obtain⟨f,Y,D,O⟩:=Bat z;refine As.ite (λ_=>.ok ⟨by omega,by omega⟩) λ_=>?_;refine As.bind (p:=λv=>v.2=0∨(v.1≤(f:Int)∧(f:Int)<v.2)) ((My (λ_ (v:Int×Int)=>v.2=0∨(v.1≤(f:Int)∧(f:Int)<v.2)) s 0 (0,0) (λj a v _ A=>?_) (.inl rfl))) λv A=>?_
  ·obtain⟨T,U⟩:=v;simp only[Ct];unfold Ahh;rw[A65];simp only[R.ok_bind];refine As.ite (λh1=>?_) λ_=>by unfold Sp;exact As.ite (λh=>by cases h) λ_=>.ok A
   unfold Sp;refine As.ite (λh2=>.ok (.inr ⟨?_,?_⟩)) λ_=>.ok A
   ·simp only[AS]at h1;simp only;omega
   ·simp only[AS]at h2;simp only;split at h2<;>omega
  ·obtain⟨T,U⟩:=v;simp only[Ct];refine As.ite (λ_=>.ok ⟨by omega,by omega⟩) λh0=>?_;simp only[BI]at h0;rcases A with A|⟨h1,h2⟩
   ·exact absurd A h0
   simp only at h1 h2;have S:=Bkp (s:={From:=T,To:=U}) D O (by unfold inS;simp[h1,h2]);refine As.need (Zl (by simp only[AE];omega)) (.ok ⟨⟨m+1,?_,?_,?_⟩,?_⟩)
   ·simp only;rw[Ok (by omega) (by omega)];omega
   ·simp only;omega
   ·simp only[AT,AE];omega
   ·exact S
def InR (l:List Rule)(s:List Int):Prop:=∀x∈s,0≤x∧x<(l.length:Int)
theorem Ajw {l:List Rule}{s:List Int}(A:InR l s)(D:s.length≤100000):As (K8 s l) λr=>r.length=s.length:=by unfold K8;refine As.bind (p:=λ(r:List Span)=>r.length=s.length) ((My (λk (r:List Span)=>r.length=k) s 0 [] (λj a r z hr=>?_) rfl).mono λr hr=>by simpa using hr) λr hr=>.ok hr;have O:j<s.length:=(BT.1 z).1;obtain⟨h1,h2⟩:=A a (CC z);unfold Z2;refine As.idx h1 h2 λy _=>As.need (Zl (by simp only[AE];omega)) (.ok ?_);show(r++[y.Hours]).length=_;rw[AT,AE];omega
theorem A8p {l:List Rule}{s:List Int}(T:InR l s)(U:s.length≤1000):As (Aan l s) T1:=by
 unfold Aan;refine(Ajw T (by omega)).bind λr hr=>(A2q [] r (by simp)).bind λmany hm=>As.ite (λ_=>.ok trivial) λh0=>?_;refine As.bind (p:=T1) (Aa1 (λt=>many.toNat-t.2.length) (λt=>t.1.length≤1000∧InR l t.1∧InR l t.2∧(t.2.length:Int)≤many) T1 (λt ht=>?_) many.toNat (s,[]) (by simp) ⟨U,T,(λx O=>absurd O (by simp)),by simp only[DM];omega⟩) λ_ _=>.ok trivial;obtain⟨s2,set⟩:=t;obtain⟨t1,S,V,t4⟩:=ht;simp only at t1 S V t4;simp only[Ct];unfold Vh;refine As.ite (λaa=>?_) λ_=>.ok trivial;refine As.alt (I:=T1) (J:=λ(e:List Int×List Int)=>e.1.length≤1000∧InR l e.1∧InR l e.2∧e.2.length=set.length+1) ((Lu (λ_ (v:List Int×List Int)=>v=(s2,set)) (λ(e:List Int×List Int)=>e.1.length≤1000∧InR l e.1∧InR l e.2∧e.2.length=set.length+1) s2 0 (s2,set) (λj a v O hv=>?_) rfl).mono λr hr=>by
   cases r with
   |inl v=>trivial
   |inr e=>exact hr) (λv _=>.ok trivial) λe he=>?_
 ·subst hv;have hj:j<s2.length:=(BT.1 O).1;simp only[Ct,AN];unfold Aen Rl;rw[if_pos (Zl (by omega))];simp only[R.ok_bind];have hw:IntKind.wrap .i64 ((j:Int)+1)=((j+1:Nat):Int):=by rw[Ok (by omega) (by omega)];omega
  have A:InR l (set++[a]):=λx D=>by
   rcases BX.1 D with h|h
   ·exact V x h
   ·rw[BP.1 h];exact S a (CC O)
  have z:InR l (s2.drop (Int.toNat (IntKind.wrap .i64 ((j:Int)+1)))):=λx D=>S x (BM D);have hdl:(s2.drop (Int.toNat (IntKind.wrap .i64 ((j:Int)+1)))).length≤1000:=by rw[BG];omega
  refine As.need (Zl (by simp only[AE];omega)) (As.need (by rw[hw];omega) ?_);refine(Ajw A (by rw[AT,AE];omega)).bind λr2 h2=>(Ajw z (by omega)).bind λr3 h3=>?_;refine(A2q r2 r3 (by rw[h2,AT,AE];omega)).bind λn U=>?_;refine As.ite (λ_=>As.need (by rw[hw];omega) (.ok ⟨hdl,z,A,by rw[AT,AE]⟩)) λ_=>.ok rfl
 ·obtain⟨s4,W⟩:=e;obtain⟨X,Y,Z,e4⟩:=he;simp only at X Y Z e4;simp only[Ct];unfold Zi;refine .ok ⟨⟨X,Y,Z,by simp only;omega⟩,by simp only;omega⟩
theorem Azr (a:Int):Ss a=.ok false:=by unfold Ss;simp
theorem Asj (a b:Int):As (Ly a b) T1:=by unfold Ly;rw[Azr,Azr];simp only[R.ok_bind];exact As.ite (λh=>by cases h) λ_=>As.ite (λh=>by cases h) λ_=>As.ite (λ_=>.ok trivial) λ_=>As.ite (λ_=>.ok trivial) λ_=>.ok trivial
theorem A0f (s t:List Int):As (Lb s t) T1:=by unfold Lb;refine As.alt (I:=T1) (J:=T1) ((Lu (λ_ _=>True) T1 s 0 () (λj a u z _=>?_) trivial).mono λr hr=>by cases r<;>trivial) (λ_ _=>As.ite (λ_=>.ok trivial) λ_=>.ok trivial) λ_ _=>.ok trivial;unfold U6;refine As.ite (λ_=>.ok trivial) λh=>As.idx (by omega) (by omega) λa1 _=>(Asj _ _).bind λc _=>As.ite (λ_=>.ok trivial) λ_=>.ok trivial
theorem Bld (l:List Int):As (Y8 l) T1:=by unfold Y8;refine As.alt (I:=T1) (J:=T1) ((Lu (λ_ _=>True) T1 l 0 () (λj a u z _=>?_) trivial).mono λr hr=>by cases r<;>trivial) (λ_ _=>.ok trivial) λ_ _=>.ok trivial;unfold Ag8;exact As.ite (λ_=>.ok trivial) λ_=>.ok trivial
theorem Bdr (set s:List Int):As (Qg set s) T1:=by
 unfold Qg;have z:∀b,As (G7 set s b) T1:=λb=>by unfold G7;exact As.ite (λ_=>.ok trivial) λ_=>.ok trivial
 exact As.ite (λ_=>As.ite (λ_=>z _) λ_=>(Asj _ _).bind λ_ _=>(A0f _ _).bind λ_ _=>(Bld _).bind λ_ _=>z _) λ_=>z _
theorem A96 (set:List Int):As (P2 set) T1:=by
 unfold P2;have z:∀b,As (G5 set b) T1:=λb=>by unfold G5;exact As.ite (λ_=>.ok trivial) λ_=>.ok trivial
 exact As.ite (λ_=>As.ite (λ_=>z _) λh=>absurd rfl h) λ_=>z _
theorem A3l (a b:Rule):As (Wl a b) T1:=by unfold Wl;exact As.ite (λ_=>.ok trivial) λ_=>As.ite (λ_=>.ok trivial) λ_=>.ok trivial
theorem Bea (a:Airspace)(x y:Int)(z:0≤x∧x<(a.Rules.length:Int))(A:0≤y∧y<(a.Rules.length:Int)):As (Tj a x y) T1:=by unfold Tj;exact As.idx z.1 z.2 λp _=>As.idx A.1 A.2 λq _=>(A3l _ _).bind λb _=>As.ite (λ_=>(A96 _).bind λ_ _=>.ok trivial) λ_=>.ok trivial
theorem Ba4(b:Nat)(D:b≤1048576)(F:Int→Int→Unit→R (Unit ⊕ ε))(A:∀x y,0≤x∧x<(b:Int)→0≤y∧y<(b:Int)→As (F x y ()) T1):As (Q8 (b:Int) F ()) T1:=by
 unfold Q8;refine As.bind (p:=T1) (Aa1 (λs=>b-s.1.toNat) (λs=>∃m:Nat,s.1=(m:Int)) T1 (λs z=>?_) b _ (Nat.sub_le _ _) ⟨0,rfl⟩) λr _=>by
  cases r with
  |inl s=>exact .ok trivial
  |inr e=>exact .ok trivial
 obtain⟨x,u⟩:=s;obtain⟨m,rfl⟩:=z;simp only[Ct];unfold Qh;refine As.ite (λO=>?_) λ_=>.ok trivial;have hw:∀n:Nat,n<b→IntKind.wrap .i64 ((n:Int)+1)=((n+1:Nat):Int):=λn S=>by rw[Ok (by omega) (by omega)];omega
 rw[hw m (by omega)];refine As.bind (p:=T1) (Aa1 (λs=>b-s.1.toNat) (λs=>∃m:Nat,s.1=(m:Int)) T1 (λs z=>?_) b _ (Nat.sub_le _ _) ⟨m+1,rfl⟩) λr _=>?_
 ·obtain⟨y,v⟩:=s;obtain⟨q,rfl⟩:=z;simp only[Ct];unfold Qb;refine As.ite (λT=>?_) λ_=>.ok trivial;refine(A (m:Int) (q:Int) ⟨by omega,by omega⟩ ⟨by omega,by omega⟩).bind λr _=>?_;cases r with
  |inl s=>exact .ok ⟨⟨q+1,hw q (by omega)⟩,by simp only[hw q (by omega),CD];omega⟩
  |inr e=>exact .ok trivial
 ·cases r with
  |inl s=>simp only[alt];unfold Qi;exact .ok ⟨⟨m+1,hw m (by omega)⟩,by simp only[hw m (by omega),CD];omega⟩
  |inr e=>exact .ok trivial
theorem A7e (a:Airspace):As (Xz a) T1:=by
 unfold Xz;refine(Aop a).bind λe S=>As.ite (λ_=>.ok trivial) λh=>?_;have D:=S (by simpa using h);unfold Wy;simp only[R.ok_bind];have O:∀o,As (O9 a o) T1:=λo=>by
  unfold O9;refine As.bind (p:=T1) (My (λ_ _=>True) a.Classes 0 o (λj c T _ _=>?_) trivial) λ_ _=>.ok trivial;unfold Ack;refine As.bind (p:=T1) (My (λ_ _=>True) a.Airports 0 T (λY Z o3 _ _=>?_) trivial) λ_ _=>.ok trivial;unfold Ada;refine As.bind (p:=λ(s:List Int)=>InR a.Rules s∧s.length≤1000) ((My (λk (s:List Int)=>InR a.Rules s∧s.length≤k) a.Rules 0 [] (λU a7 s A z=>?_) ⟨(λx A=>absurd A (by simp)),BA _⟩).mono λs z=>⟨z.1,by have:=z.2;omega⟩) λs z=>(A8p z.1 z.2).bind λr3 _=>(Bdr _ _).bind λ_ _=>.ok trivial;have V:U<a.Rules.length:=(BT.1 A).1;have W:=z.2;unfold Acw;refine As.ite (λ_=>As.need (Zl (by simp only[AE];omega)) (.ok ⟨λx A=>?_,?_⟩)) λ_=>.ok ⟨z.1,by omega⟩
  ·rcases BX.1 A with h|h
   ·exact z.1 x h
   ·rw[BP.1 h];omega
  ·rw[AT,AE];omega
 refine As.bind (p:=T1) (Ba4 a.Rules.length (by omega) _ λx y A X=>As.np (Bea a x y A X)) λr _=>?_;cases r with
 |inl u=>exact O _
 |inr o=>exact O _
def opn (s:Segment):List Span:=if s.Open.length=0 then[{From:=0,To:=1440}]else s.Open
def Aat (a:Airspace)(n:Int):Option (Segment×Volume):=
 if 0≤n then(match a.Segments[n.toNat]? with
  |none=>none
  |some s=>if 0≤s.Volume then(match a.Volumes[s.Volume.toNat]? with|none=>none|some v=>some (s,v))else none)else none
def A01 (p:Segment×Volume):List Span:=Zr (opn p.1) p.2.Closed
def Alu (a:Airspace)(n:Int):Option (List Span):=(Aat a n).map A01
def Aj9:Option (List α)→List α×Int
 |some l=>(l,0)
 |none=>([],1)
def unk:PV:=⟨291,.unit⟩
theorem Aqe(F:R α)(els:PV→R α):(R.pan unk).catch' (Kw 291 F els)=F:=Yh
variable{n:Int}
theorem Aoe{x:α}(h0:0≤n)(h:l[n.toNat]?=some x):idx l n=.ok x:=by unfold idx;rw[if_pos h0,h]
theorem Atg(h:(l.length:Int)≤n):l[n.toNat]?=none:=AK (by omega)
theorem As0(h0:0≤n)(h:n<(l.length:Int)):∃x,l[n.toNat]?=some x:=⟨_,AA (by omega)⟩
variable{a:Airspace}
theorem Bbe(h:n<0):Aat a n=none:=by unfold Aat;rw[if_neg (by omega)]
theorem A8w(h0:0≤n)(h:(a.Segments.length:Int)≤n):Aat a n=none:=by unfold Aat;rw[if_pos h0,Atg h]
theorem Bdf{s:Segment}(h0:0≤n)(z:a.Segments[n.toNat]?=some s):Aat a n=if 0≤s.Volume then(match a.Volumes[s.Volume.toNat]? with|none=>none|some v=>some (s,v))else none:=by unfold Aat;rw[if_pos h0,z]
theorem At7{p:Segment×Volume}(h:Aat a n=some p):0≤n∧a.Segments[n.toNat]?=some p.1∧0≤p.1.Volume∧a.Volumes[p.1.Volume.toNat]?=some p.2:=by
 unfold Aat at h;split at h
 ·rename_i h0;split at h
  ·cases h
  ·rename_i s A;split at h
   ·rename_i D;split at h
    ·cases h
    ·rename_i v z;cases h;exact⟨h0,A,D,z⟩
   ·cases h
 ·cases h
theorem Bjg (s:Segment):(if((s.Open.length:Int)==0)=true then([{From:=0,To:=1440}]:List Span)else s.Open)=opn s:=by
 unfold opn;by_cases h:s.Open.length=0
 ·simp[h]
 ·rw[if_neg h,if_neg (by simpa using h)]
theorem Bja (a:Airspace)(s:Segment)(l:List Span)(v:Volume)(h0:0≤s.Volume)(z:a.Volumes[s.Volume.toNat]?=some v):Lg a s l=.ok (Zr l v.Closed):=by unfold Lg;rw[Aoe h0 z,R.ok_bind,Asf];rfl
theorem Atx (a:Airspace)(n:Int):Pd a n=match Alu a n with|some l=>.ok l|none=>.pan unk:=by
 unfold Pd Alu;by_cases h0:0≤n;case neg=>rw[Bbe (by omega),if_pos (by simp;omega)];rfl
 by_cases h1:n<(a.Segments.length:Int);case neg=>rw[A8w h0 (by omega),if_pos (by simp;omega)];rfl
 obtain⟨s,z⟩:=As0 h0 h1;rw[if_neg (by simp;omega),Aoe h0 z,R.ok_bind,Bdf h0 z];by_cases h2:0≤s.Volume;case neg=>rw[if_pos (by simp;omega),if_neg h2];rfl
 by_cases D:s.Volume<(a.Volumes.length:Int);case neg=>rw[if_pos (by simp;omega),if_pos h2,Atg (by omega)];rfl
 obtain⟨v,A⟩:=As0 h2 D;rw[if_neg (by simp;omega),if_pos h2,A];simp only[AM,A01];rw[←Bjg];split<;>rw[Bja a s _ v h2 A]<;>simp_all
def Aid (a:Airspace)(n:Int):Option Leg:=(Aat a n).map λp=>{Segment:=n,Volume:=p.1.Volume,Length:=p.1.Length,Minutes:=A01 p}
def Alw(f:α→Option β):List α→Option (List β)
 |[]=>some []
 |x::l=>match f x,Alw f l with
  |some y,some r=>some (y::r)
  |_,_=>none
def Wj (a:Airspace)(r:Int):Option (List Leg):=if 0≤r then(match a.Routes[r.toNat]? with|none=>none|some rt=>Alw (Aid a) rt.Segments)else none
variable{f:α→Option β}
theorem A1h:∀{l:List α} {r:List β},Alw f l=some r→r.length=l.length
 |[],r,h=>by cases h;rfl
 |x::l,r,h=>by
  unfold Alw at h;split at h
  ·rename_i y z A hr;cases h;simp[A1h hr]
  ·cases h
theorem Bhc(a:Airspace)(b:Leg→σ→R σ)(n:Int)(s:σ):Im a b n s=match Aid a n with|some g=>b g s|none=>.pan unk:=by
 unfold Im;rw[Atx];unfold Alu Aid;cases z:Aat a n with
 |none=>rfl
 |some p=>obtain⟨h0,h1,h2,A⟩:=At7 z;simp only[AM,R.ok_bind];rw[Aoe h0 h1,R.ok_bind,R.bind_ok]
theorem Aw3(a:Airspace)(b:Leg→σ→R σ)(h:Leg→σ→σ)(I:σ→Nat→Prop)(z:∀g s n,I s (n+1)→I (h g s) n∧b g s=.ok (h g s)):∀(l:List Int) (k:Nat) (s:σ),I s l.length→
  Bf (λ_ a1=>λs=>Im a b a1 s) k l s=match Alw (Aid a) l with|some ls=>.ok (ls.foldl (λs g=>h g s) s)|none=>.pan unk
 |[],k,s,_=>rfl
 |n::l,k,s,A=>by
  rw[Lo,Bhc];unfold Alw;cases D:Aid a n with
  |none=>rfl
  |some g=>obtain⟨h1,h2⟩:=z g s l.length A;simp only[h2,R.ok_bind];rw[Aw3 a b h I z l (k+1) _ h1];cases Alw (Aid a) l<;>rfl
theorem Awy(a:Airspace)(r:Int)(b:Leg→σ→R σ)(h:Leg→σ→σ)(I:σ→Nat→Prop)(A:∀g s n,I s (n+1)→I (h g s) n∧b g s=.ok (h g s))(s:σ)(D:∀rt,a.Routes[r.toNat]?=some rt→I s rt.Segments.length):
  L6 r a b s=match Wj a r with|some ls=>.ok (ls.foldl (λs g=>h g s) s)|none=>.pan unk:=by
 unfold L6 Wj
 by_cases h0:0≤r
 case neg=>rw[if_pos (by simp;omega),if_neg h0];rfl
 rw[if_pos h0]
 by_cases h1:r<(a.Routes.length:Int)
 case neg=>rw[if_pos (by simp;omega),Atg (by omega)];rfl
 obtain⟨rt,z⟩:=As0 h0 h1
 rw[if_neg (by simp;omega),Aoe h0 z,R.ok_bind,z,Aw3 a b h I A _ 0 s (D rt z)]
 simp only
 cases Alw (Aid a) rt.Segments<;>rfl
structure OpSmall (a:Airspace):Prop where
 seg:a.Segments.length≤1048576
 vol:a.Volumes.length≤1048576
 rt:a.Routes.length≤1048576
 rs:∀r∈a.Routes,r.Segments.length≤1048576
theorem At6:∀(l s:List α),l.foldl (λs g=>s++[g]) s=s++l
 |[],s=>by simp
 |a::l,s=>by rw[DY,At6 l];simp
theorem Bge (a:Airspace)(r:Int)(z:OpSmall a):Acm a r=.ok (Aj9 (Wj a r)):=by
 unfold Acm Ze;have:=Awy a r (λa1 A=>R.np ((λl=>Pf a1 l) A)) (λg s=>s++[g]) (λs n=>s.length+n≤1048576) (λg s n D=>by refine⟨by simp;omega,?_⟩;show R.np (Pf g s)=_;unfold Pf;rw[if_pos (by simp[Bj];omega)];rfl) [] (λrt h=>by have:=z.rs rt (CC h);simpa using this);simp only[N3,R.ok_bind,this];cases Wj a r with
 |some l=>show R.ok (l.foldl (λs g=>s++[g]) [],(0:Int))=R.ok (l,0);rw[At6];rfl
 |none=>exact Aqe _ _
def Abz (z:List Leg):Bool:=z.any λg=>(g.Minutes.length:Int)==0
def Ayr (a:Airspace):List Route→Nat→List Int→Option (List Int)
 |[],_,x=>some x
 |_::rs,k,x=>match Wj a (k:Int)with
  |none=>none
  |some z=>Ayr a rs (k+1) (if Abz z then x++[(k:Int)]else x)
def blk (a:Airspace):Option (List Int):=Ayr a a.Routes 0 []
theorem Bdx (z:List Leg)(o:Bool):z.foldl (λs g=>s||((g.Minutes.length:Int)==0)) o=(o||Abz z):=by
 induction z generalizing o with
 |nil=>simp[Abz]
 |cons g z A=>rw[DY,A];simp[Abz,Bool.or_assoc]
variable{k:Nat}
theorem Bhf{b:Bool}{x:List Int}{y:Int}(z:x.length≤k):(if b=true then x++[y]else x).length≤k+1:=by
 split
 ·simp;omega
 ·omega
theorem Axo (a:Airspace):∀(rs:List Route) (k:Nat) (x:List Int),x.length≤k→k+rs.length≤1048576→Bf (λj _=>λA=>O4 a j A) k rs x=match Ayr a rs k x with|some l=>.ok l|none=>.pan unk
 |[],k,x,_,_=>rfl
 |rt::rs,k,x,D,hk=>by
  simp only[AC]at hk;rw[Lo];unfold Ayr;have e:O4 a k x=match Wj a (k:Int)with|some z=>.ok (if Abz z then x++[(k:Int)]else x)|none=>.pan unk:=by
   unfold O4;have:=Awy a (k:Int) (λO S=>R.np ((λo=>Sz O o) S)) (λg s=>s||((g.Minutes.length:Int)==0)) (λ_ _=>True) (λg s n _=>⟨trivial,rfl⟩) false (λ_ _=>trivial);simp only[N3,R.ok_bind,this];cases Wj a (k:Int)with
   |none=>rfl
   |some z=>
    simp only[R.ok_bind];rw[Bdx,FO];cases Abz z
    ·rfl
    ·simp only[if_true];rw[if_pos (by simp[Bj];omega)]
  rw[e];cases T:Wj a (k:Int)with
  |none=>rfl
  |some z=>simp only[R.ok_bind];exact Axo a rs (k+1) _ (Bhf D) (by omega)
theorem A6b (a:Airspace)(z:OpSmall a):Xs a=.ok (Aj9 (blk a)):=by
 unfold Xs Ur;rw[Axo a a.Routes 0 [] (by simp) (by have:=z.rt;omega)];show R.catch' (R.bind (match blk a with|some l=>.ok l|none=>.pan unk) _) _=_;cases blk a with
 |some l=>rfl
 |none=>exact Aqe _ _
def Aco (a:Airspace):List Segment→Nat→Option (List Int)
 |[],_=>some []
 |s::ss,k=>match Alu a (k:Int)with
  |none=>none
  |some l=>(Aco a ss (k+1)).map λr=>if(l.length:Int)>0 then s.Volume::r else r
def Ae6 (nv:Nat)(vs:List Int):List Int:=((List.range nv).filter λi=>vs.contains ((i:Nat):Int)).map λi=>((i:Nat):Int)
def Bje (a:Airspace):Option (List Int):=(Aco a a.Segments 0).map (Ae6 a.Volumes.length)
section
variable{V:Type}
theorem Aws (m:List (Int×V))(k:Int)(v:V):(G4 m k v).map (·.1)=if k∈m.map (·.1)then m.map (·.1)else m.map (·.1)++[k]:=by
 induction m with
 |nil=>simp[G4]
 |cons p m A=>
  rw[G4];by_cases h:p.1=k
  ·rw[if_pos (by simpa using h)];subst h;simp
  ·rw[if_neg (by simpa using h),BC,A];have:¬k=p.1:=λe=>h e.symm;by_cases z:k∈m.map (·.1)
   ·rw[if_pos z,if_pos (by simp only[BC,AH];exact .inr z)];rfl
   ·rw[if_neg z,if_neg (by simp only[BC,AH,not_or];exact⟨this,z⟩)];rfl
theorem Awn (v:V):∀(vs:List Int) (m:List (Int×V)),(m.map (·.1)).Nodup→((vs.foldl (λm x=>G4 m x v) m).map (·.1)).Nodup∧∀x,x∈(vs.foldl (λm x=>G4 m x v) m).map (·.1)↔x∈m.map (·.1)∨x∈vs
 |[],m,h=>⟨h,λx=>by simp⟩
 |y::vs,m,h=>by
  rw[DY];have h1:((G4 m y v).map (·.1)).Nodup:=by
   rw[Aws];split
   ·exact h
   ·rename_i z;exact List.nodup_append.2 ⟨h,by simp,λa D b A=>by simp at A;subst A;exact λe=>z (e▸D)⟩
  obtain⟨k1,k2⟩:=Awn v vs (G4 m y v) h1;refine⟨k1,λx=>?_⟩;rw[k2 x,Aws];split
  ·rename_i z;simp only[AH];constructor
   ·rintro(h|h)
    ·exact .inl h
    ·exact .inr (.inr h)
   ·rintro(h|rfl|h)
    ·exact .inl h
    ·exact .inl z
    ·exact .inr h
  ·rw[BX,BP,AH,or_assoc]
end
variable{nv:Nat}
theorem Aw2{vs:List Int}{x:Int}:x∈Ae6 nv vs↔x∈vs∧0≤x∧x<(nv:Int):=by
 unfold Ae6;simp only[BU,FE,DJ,List.contains_iff_mem];constructor
 ·rintro⟨i,⟨h1,h2⟩,rfl⟩;exact⟨h2,by omega,by omega⟩
 ·rintro⟨h1,h2,z⟩;exact⟨x.toNat,⟨by omega,by rwa[FC h2]⟩,FC h2⟩
theorem A2p (nv:Nat)(vs:List Int):(Ae6 nv vs).Pairwise (·<·):=by unfold Ae6;refine List.pairwise_map.2 ?_;refine(List.Pairwise.filter _ List.pairwise_lt_range).imp λh=>?_;omega
theorem A28{vs:List Int}(R:nv≤1048576)(S:∀x∈vs,0≤x∧x<(nv:Int)):Za (vs.foldl (λm x=>G4 m x true) [])=.ok (Ae6 nv vs):=by
 obtain⟨h1,h2⟩:=Awn true vs [] (by simp);have A:=A2p nv vs;have D:(Ae6 nv vs).Nodup:=A.imp λh=>Int.ne_of_lt h;have z:((vs.foldl (λm x=>G4 m x true) []).map (·.1)).Perm (Ae6 nv vs):=by
  refine(List.perm_ext_iff_of_nodup h1 D).2 λx=>?_;rw[h2 x,Aw2];constructor
  ·rintro(h|h)
   ·simp at h
   ·exact⟨h,S x h⟩
  ·rintro⟨h,_⟩;exact .inr h
 have O:(vs.foldl (λm x=>G4 m x true) []).length≤nv:=by have:=z.length_eq;rw[AX]at this;rw[this];unfold Ae6;rw[AX];exact BL (List.length_filter_le _ _) (by simp)
 unfold Za;rw[if_pos ⟨by omega,AG.2 λp hp=>by
  have:p.1∈Ae6 nv vs:=z.mem_iff.1 (BU.2 ⟨p,hp,rfl⟩);obtain⟨_,V,W⟩:=Aw2.1 this;simp only[Lit.wf,AF,AS];have T:IntKind.min .i64= -9223372036854775808:=by decide
  have U:IntKind.max .i64=9223372036854775807:=by decide
  rw[T,U];omega⟩]
 congr 1;rw[mergeSort_of_perm_i z];exact List.mergeSort_of_pairwise (A.imp λh=>by simpa using Int.le_of_lt h)
theorem Bdm{s:Segment}{l:List Span}(z:a.Segments[k]?=some s)(h:Alu a (k:Int)=some l):0≤s.Volume∧s.Volume<(a.Volumes.length:Int):=by
 unfold Alu at h;cases hp:Aat a (k:Int)with
 |none=>rw[hp]at h;cases h
 |some p=>obtain⟨h0,h1,h2,A⟩:=At7 hp;rw[CD,z]at h1;cases h1;have:=(BT.1 A).1;exact⟨h2,by omega⟩
theorem Aum (a:Airspace):∀(ss:List Segment) (k:Nat) (m:List (Int×Bool)),Bf (λj a1=>λm=>Nx a j a1 m) k ss m=match Aco a ss k with|some vs=>.ok (vs.foldl (λm x=>G4 m x true) m)|none=>.pan unk
 |[],k,m=>rfl
 |s::ss,k,m=>by
  rw[Lo];unfold Aco;have e:Nx a k s m=match Alu a (k:Int)with|some l=>.ok (if(l.length:Int)>0 then G4 m s.Volume true else m)|none=>.pan unk:=by
   unfold Nx;rw[Atx];cases Alu a (k:Int)with
   |none=>rfl
   |some l=>simp only[R.ok_bind];split<;>rfl
  rw[e];cases Alu a (k:Int)with
  |none=>rfl
  |some l=>
   simp only[R.ok_bind];rw[Aum a ss (k+1)];cases Aco a ss (k+1)with
   |none=>rfl
   |some vs=>simp only[AM];split<;>rfl
theorem A4e (a:Airspace):∀(ss:List Segment) (k:Nat) (vs:List Int),(∀j s,ss[j]?=some s→a.Segments[k+j]?=some s)→Aco a ss k=some vs→(∀x∈vs,0≤x∧x<(a.Volumes.length:Int))∧
  (∀j s l,ss[j]?=some s→Alu a ((k+j:Nat):Int)=some l→(l.length:Int)>0→s.Volume∈vs)
 |[],k,vs,_,h=>by cases h;exact⟨λx A=>(by cases A),λj s l h=>by simp at h⟩
 |s::ss,k,vs,D,h=>by
  unfold Aco at h;split at h
  ·cases h
  ·rename_i l S;cases hr:Aco a ss (k+1)with
   |none=>rw[hr]at h;cases h
   |some r=>
    rw[hr]at h;simp only[AM,AI]at h;obtain⟨T,V⟩:=A4e a ss (k+1) r (λj s h=>by have:=D (j+1) s (by simpa using h);rwa[show k+1+j=k+(j+1)by omega]) hr;have O:=D 0 s rfl;rw[CF]at O;have W:=Bdm O S;refine⟨λx A=>?_,λj s' l' U R z=>?_⟩
    ·subst h;split at A
     ·rcases AH.1 A with rfl|A
      ·exact W
      ·exact T x A
     ·exact T x A
    ·subst h;cases j with
     |zero=>
      have:s=s':=by simpa using U
      subst this;rw[CF,S]at R;cases R;rw[if_pos z];exact BK ..
     |succ j=>
      have:=V j s' l' (by simpa using U) (by rwa[show k+1+j=k+(j+1)by omega]) z;split
      ·exact AZ _ this
      ·exact this
theorem A3j (a:Airspace)(z:OpSmall a):Vz a=.ok (Aj9 (Bje a)):=by
 unfold Vz Tb Bje;rw[Aum];cases A:Aco a a.Segments 0 with
 |none=>exact Aqe _ _
 |some vs=>have:=(A4e a a.Segments 0 vs (λj s h=>by simpa using h) A).1;simp only[R.ok_bind,maps_Keys_196,Uk,A28 z.vol this];rfl
theorem min2:Zr [{From:=0,To:=1440}] [{From:=0,To:=1440}]=[]:=by decide+kernel
@[irreducible] def NN:Nat:=1048576
theorem Ab6:NN=1048576:=by unfold NN;rfl
theorem Mx{b:Nat→α→List β→R (List β)}{F:Nat→α→R β}{c:Nat}(p:β→Prop)(D:∀j a y,b j a y=(F j a).bind λr=>if(y.length+[r].length)*c≤Bj then .ok (y++[r])else .bad)(l:List α)(O:c≤1000)(T:l.length≤NN)(S:∀j,∀a∈l,As (F j a) p):As (Bf b 0 l []) λy=>y.length=l.length∧∀x∈y,p x:=by
 refine(My (λk (y:List β)=>y.length=k∧∀x∈y,p x) l 0 [] (λj a y z A=>?_) ⟨rfl,λx z=>absurd z (by simp)⟩).mono λy A=>⟨by rw[A.1,AN],A.2⟩;have U:j<l.length:=(BT.1 z).1;rw[D];refine(S _ a (CC z)).bind λr hr=>As.need ?_ (.ok ⟨by rw[AT,AE,A.1],λx z=>?_⟩)
 ·rw[A.1,AE];have h0:0+j+1≤1048576:=by have:=Ab6;omega
  have h1:(0+j+1)*c≤1048576*1000:=Nat.mul_le_mul h0 O;have h2:(1048576*1000:Nat)=1048576000:=by rfl
  rw[h2]at h1;exact Zl (BL h1 (by omega))
 ·rcases BX.1 z with h|h
  ·exact A.2 x h
  ·rw[BP.1 h];exact hr
theorem Bb8 (a b:List Span):As (Ae5 a b) λr=>r.length≤1441:=by refine .ok ?_;have:=Abb ((List.range 1440).map λi=>Xk a i||Xk b i) 0 none;rwa[AX,List.length_range]at this
theorem A77 (a:Airspace)(c p:Int):As (X6 a c p) λr=>r.1.length≤1441:=by
 unfold X6;refine(Alf a c).bind λe A=>As.ite (λ_=>.ok (BV _)) λh=>As.ite (λ_=>.ok (BV _)) λ_=>?_;have z:=A (by simpa using h);refine As.bind (p:=T1) ((My (λk (s:List Span)=>s.length≤k) a.Rules 0 [] (λj a1 s D O=>?_) (BA _)).mono λ_ _=>trivial) λl _=>?_
 ·have S:j<a.Rules.length:=(BT.1 D).1;unfold Acq;exact As.ite (λ_=>As.need (Zl (by simp only[AE];omega)) (.ok (by rw[AT,AE];omega))) λ_=>.ok (by omega)
 ·unfold Ab5;rw[R.bind_assoc];exact(Bb8 _ _).bind λr hr=>.ok hr
theorem Atw {n c:Nat}(h:n*c≤140737488355328):n*c≤Bj:=h
theorem Bcq (a:Airspace)(h:a.Sectors.length≤1048576):As (Yv a) T1:=by
 unfold Yv;refine As.alt (I:=T1) (J:=T1) ((Lu (λk (l:List Int)=>l.length≤k) T1 a.Sectors 0 [] (λj x s A O=>?_) (BA _)).mono λr hr=>by cases r<;>trivial) (λs _=>.ok trivial) (λe _=>.ok trivial);unfold Sw;have S:j<a.Sectors.length:=(BT.1 A).1;refine As.alt (I:=T1) (J:=T1) ((Lu (λ_ _=>True) T1 x.Volumes 0 0 (λT z s2 _ _=>?_) trivial).mono λr hr=>by cases r<;>trivial) (λD _=>?_) (λe _=>.ok trivial)
 ·unfold Acy;by_cases h0:0≤z
  ·by_cases h1:z≥(a.Volumes.length:Int)
   ·simp only[EW h1,Bool.or_true,if_true,R.ok_bind];exact .ok trivial
   ·simp only[EN h1,EN (show ¬z<0 by omega),FR,AB,if_false,if_pos h0,R.ok_bind];exact As.ite (λ_=>.ok trivial) λ_=>.ok trivial
  ·simp only[EW (show z<0 by omega),Bool.true_or,if_true,R.ok_bind];exact .ok trivial
 ·refine As.ite (λ_=>.ok trivial) λ_=>As.need (Atw ?_) (.ok ?_)
  ·simp only[AE];omega
  ·show(s++[D]).length≤_;rw[AT,AE];omega
theorem Ao6 (a:Airspace):As (Mq a) λr=>r.2=true→1≤r.1.length∧r.1.length≤32:=by
 unfold Mq;refine As.ite (λ_=>.ok λh=>by cases h) λT=>?_;simp only[CH,AS,not_or]at T;obtain⟨⟨⟨⟨h1,h2⟩,W⟩,X⟩,Y⟩:=T;refine(Bcq a (by omega)).bind λr _=>As.ite (λ_=>?_) λ_=>.ok λh=>by cases h
 have hw:IntKind.wrap .i64 (64-(a.Volumes.length:Int))=64-(a.Volumes.length:Int):=Ok (by omega) (by omega);refine As.need (by rw[hw];omega) ?_;refine As.alt (I:=λ(l:List (List (Int×Bool)))=>l.length=a.Configs.length) (J:=λ(e:List (List (Int×Bool))×Bool)=>e.2=false) ((Lu (λk (l:List (List (Int×Bool)))=>l.length=k) (λ(e:List (List (Int×Bool))×Bool)=>e.2=false) a.Configs 0 [] (λj x s U Z=>?_) rfl).mono λq D=>by
   cases q with
   |inl l=>exact D.trans (AN _)
   |inr e=>exact D) (λl hl=>.ok λ_=>by simp only;omega) (λe O=>.ok λh=>by rw[O]at h;cases h)
 unfold L8;have hj:j<a.Configs.length:=(BT.1 U).1;refine As.alt (I:=T1) (J:=λ(e:List (List (Int×Bool))×Bool)=>e.2=false) ((Lu (λ_ _=>True) (λ(e:List (List (Int×Bool))×Bool)=>e.2=false) x.Sectors 0 (0,[]) (λj2 A s2 _ _=>?_) trivial).mono λq D=>by
   cases q with
   |inl l=>trivial
   |inr e=>exact D) (λy _=>?_) (λe O=>.ok O)
 ·obtain⟨S,m⟩:=s2;simp only[Ct];unfold V4;by_cases h0:0≤A∧A<(r.1.length:Int)
  ·simp only[EN (show ¬A<0 by omega),EN (show ¬A≥(r.1.length:Int)by omega),FR,AB,if_false,R.bind_assoc,R.ok_bind];refine As.idx h0.1 h0.2 λz hz=>?_;refine As.ite (λ_=>.ok rfl) λ_=>As.idx h0.1 h0.2 λz2 V=>.ok trivial
  ·have:(decide (A<0)||decide (A≥(r.1.length:Int)))=true:=by
    rw[CH,AS,AS];omega
   simp only[this,if_true,R.ok_bind]
   exact .ok rfl
 ·obtain⟨S,m⟩:=y;simp only[Ct];refine As.ite (λ_=>.ok rfl) λ_=>As.need (Atw ?_) (.ok ?_)
  ·simp only[AE];omega
  ·show(s++[m]).length=_;rw[AT,AE];omega
theorem Axf (a:Airspace):As (Sr a) T1:=by unfold Sr;exact(Ao6 a).bind λr _=>As.ite (λ_=>.ok trivial) λ_=>.ok trivial
theorem Ash (d o:List (Int×Bool)):As (Pl d o) T1:=by unfold Pl;refine(Aue T1 (λx s _=>?_) d 0 trivial).bind λn _=>.ok trivial;unfold Gs;exact As.ite (λ_=>.ok trivial) λ_=>.ok trivial
theorem Bcz (d o:List (Int×Bool)):As (X9 d o) T1:=by unfold X9;exact(Ash _ _).bind λp _=>(Ash _ _).bind λq _=>.ok trivial
theorem Biu:∀n:Fin 33,(match Su (IntKind.wrap .u64 1) (IntKind.wrap .u64 ((n.val:Nat):Int))with|.ok p=>p==(0,((n.val:Nat):Int))|_=>false)=true:=by decide+kernel
theorem mul_one (n:Nat)(h:n≤32):Su (IntKind.wrap .u64 1) (IntKind.wrap .u64 (n:Int))=.ok (0,(n:Int)):=by
 have:=Biu ⟨n,by omega⟩;revert this;cases Su (IntKind.wrap .u64 1) (IntKind.wrap .u64 ((n:Nat):Int))with
 |ok p=>intro h;simp only[BI]at h;rw[h]
 |bad=>intro h;cases h
 |pan v=>intro h;cases h
def rp (n m:Nat):List Int:=List.replicate m (-1)++List.replicate (n-m) 0
theorem Bas {n m:Nat}(h:m≤n):(rp n m).length=n:=by simp[rp];omega
theorem Biz{n m:Nat}(h:m≤n)(hk:k=min m (n-m)):over (rp n m) m m=rp n (m+k):=by
 unfold over;rw[Bas h,←hk];have z:(rp n m).take m=List.replicate m (-1):=by simp[rp]
 have A:(rp n m).take k=List.replicate k (-1):=by rw[rp,List.take_append_of_le_length (by simp;omega),List.take_replicate,EM (by omega)]
 have D:(rp n m).drop (m+k)=List.replicate (n-(m+k)) 0:=by rw[rp,List.drop_append,CY (by simp),DG,List.drop_replicate,CO];congr 1;omega
 rw[z,A,D,rp,List.replicate_append_replicate]
theorem A60 (n:Nat)(h1:1≤n)(h2:n≤32):As (Mv [(-1)] (n:Int)) λl=>l=List.replicate n (-1):=by
 unfold Mv;rw[if_neg (by omega)];simp only[AE,Int.natCast_one];rw[mul_one n h2];simp only[R.ok_bind];have hw:IntKind.wrap .i64 (n:Int)=(n:Int):=Ok (by omega) (by omega);rw[if_neg (by simp;omega),hw];refine As.need ⟨by omega,GB _,by simp only[CD];exact Atw (by omega)⟩ (As.need (by simp;omega) ?_);refine As.bind (p:=λl=>l=List.replicate n (-1)) (Aa1 (λs=>n-s.1.toNat) (λs=>∃m:Nat,1≤m∧m≤n∧s=((m:Int),rp n m)) _ (λs A=>?_) n _ (by simp) ⟨1,BA _,h1,?_⟩) λl D=>.ok D
 ·obtain⟨m,O,z,rfl⟩:=A;simp only[Ct];unfold Ma;rw[Bas z];refine As.ite (λS=>?_) λT=>.ok ?_
  ·refine As.need ⟨by omega,by omega⟩ (As.need ⟨by omega,by omega⟩ (.ok ?_));simp only[CD];have hk:((m:Int)+((min m (n-m):Nat):Int))=((m+min m (n-m):Nat):Int):=by omega
   refine⟨⟨m+min m (n-m),by omega,by omega,?_⟩,?_⟩
   ·rw[hk,Ok (by omega) (by omega),Biz z rfl]
   ·simp only[hk];rw[Ok (by omega) (by omega)];simp only[CD];omega
  ·have:m=n:=by omega
   subst this
   show rp m m=_
   simp[rp]
 ·simp only[CD,AE,Int.natCast_one,List.drop_replicate];rfl
def neg (l:List Int):Nat:=l.countP (·<0)
structure Srch (n M:Nat)(s:List Int×List Int):Prop where
 len:s.1.length=n
 val:∀v∈s.1,-1≤v∧v+(neg s.1:Int)≤(n:Int)
 que:∀q∈s.2,0≤q∧q<(n:Int)
 mes:2*neg s.1+s.2.length≤M
variable{a1:Int}
theorem Bi0{n M:Nat}{T:Int}{s:List Int×List Int}(hn:n≤32)(hM:M≤1000)(A:Srch n M s)(h1:0≤a1∧a1<(n:Int))(h2:0≤T∧T<(n:Int)):As (Ct (λD W=>Ir a1 T D W) s) (Srch n M):=by
 obtain⟨D,W⟩:=s;simp only[Ct];unfold Ir;have z:=A.len;simp only at z;refine As.idx h2.1 (by rw[z];exact h2.2) λa3 X=>?_;refine As.ite (λ_=>.ok A) λZ=>As.idx h1.1 (by rw[z];exact h1.2) λO e4=>?_;have R:=A.mes;simp only at R;refine As.need (by simp only[AE];exact Atw (by omega)) (.ok ?_);have V:=A.val O (CC e4);simp only at V;have hw:IntKind.wrap .i64 (O+1)=O+1:=Ok (by omega) (by omega);rw[hw];obtain⟨hi,hg⟩:=BT.1 X;have Y:neg (D.set T.toNat (O+1))+1=neg D:=by
  unfold neg;have hp:0<D.countP (·<0):=List.countP_pos_iff.2 ⟨a3,CC X,by simp;omega⟩;rw[List.countP_set hi,hg];have d1:decide (a3<0)=true:=by simp;omega
  have d2:decide (O+1<0)=false:=by simp;omega
  simp only[d1,d2,if_true,AB,if_false];omega
 refine⟨by simpa using z,λv U=>?_,λq S=>?_,?_⟩
 ·simp only at U ⊢;rcases GG U with U|rfl
  ·have:=A.val v U;simp only at this;omega
  ·omega
 ·rcases BX.1 S with S|S
  ·exact A.que q S
  ·rw[BP.1 S];exact h2
 ·simp only[AT,AE];omega
theorem Bds{n M:Nat}{l:List (List (Int×Bool))}{s:List Int×List Int}(A:l.length=n)(D:n≤32)(O:M≤1000)(z:Srch n M s)(h1:0≤a1∧a1<(n:Int)):
  As (Pg l a1 (λS T=>R.np ((Ct λU V=>Ir a1 S U V) T)) s) (Srch n M):=by
 unfold Pg
 refine As.bind (p:=Srch n M) (My (λ_=>Srch n M) l 0 s (λj a s W z=>?_) z) λs z=>.ok z
 have Y:j<l.length:=(BT.1 W).1
 unfold Oq
 refine As.ite (λ_=>As.idx h1.1 (by rw[A];exact h1.2) λX _=>?_) λ_=>.ok z
 refine(Bcz _ _).bind λr _=>As.ite (λ_=>?_) λ_=>.ok z
 refine(As.np (Bi0 D O z h1 ⟨by omega,by omega⟩)).bind λs z=>.ok z
theorem Axy (l:List (List (Int×Bool)))(h1:1≤l.length)(h2:l.length≤32):As (Mw l 0) T1:=by
 unfold Mw;refine(A60 l.length h1 h2).bind λr hr=>?_;subst hr;refine As.idx (GB 0) (by simp;omega) λa _=>?_;refine As.bind (p:=T1) (Aa1 (λs=>2*neg s.1+s.2.length) (Srch l.length 1000) T1 (λs z=>?_) 1000 _ ?_ ?_) λ_ _=>.ok trivial
 ·obtain⟨l1,S⟩:=s;simp only[Ct];unfold Mi;refine As.ite (λA=>?_) λ_=>.ok trivial;cases S with
  |nil=>simp at A
  |cons q S=>
   have T:=z.que q (by simp);refine As.idx (GB 0) (by simp) λa1 D=>?_;simp only[Int.toNat_zero,DA,AI]at D;subst D;refine As.need ⟨by omega,by simp only[AC];omega⟩ ?_;unfold Vl;simp only[R.ok_bind];have O:=z.mes;simp only[AC]at O;have U:Srch l.length (2*neg l1+S.length) (l1,(q::S).drop 1):=⟨z.len,z.val,λx X=>z.que x (by simp only;exact BM X),by simp⟩;refine(Bds rfl h2 (by omega) U T).bind λt ht=>?_;obtain⟨Y,Z⟩:=t;refine .ok ⟨⟨ht.len,ht.val,ht.que,?_⟩,?_⟩
   ·have:=ht.mes;simp only at this ⊢;omega
   ·have:=ht.mes;simp only[AC]at this ⊢;omega
 ·have hc:neg ((List.replicate l.length (-1)).set (Int.toNat 0) 0)≤l.length:=by
   unfold neg;refine BL List.countP_le_length (by simp)
  simp only[AE];omega
 ·have e:((List.replicate l.length (-1:Int)).set (Int.toNat 0) 0)=0::List.replicate (l.length-1) (-1):=by
   obtain⟨k,hk⟩:∃k,l.length=k+1:=⟨l.length-1,by omega⟩
   rw[hk];rfl
  have V:neg (0::List.replicate (l.length-1) (-1:Int))=l.length-1:=by unfold neg;simp[List.countP_replicate]
  rw[e]
  refine⟨by simp;omega,λv W=>?_,λq T=>by simp at T;omega,?_⟩
  ·simp only[V];simp only[AH,List.mem_replicate]at W;rcases W with rfl|⟨_,rfl⟩<;>omega
  ·simp only[V,AE];omega
theorem A90 (l:List Int)(v:Int):As (Kr l v) T1:=by unfold Kr;refine As.alt (I:=T1) (J:=T1) ((Lu (λ_ _=>True) T1 l 0 () (λj a s _ _=>?_) trivial).mono λr hr=>by cases r<;>trivial) (λ_ _=>.ok trivial) λ_ _=>.ok trivial;unfold Hu;exact As.ite (λ_=>.ok trivial) λ_=>.ok trivial
theorem A91 (a:Airspace):As (Wo a) T1:=by unfold Wo;refine(Ao6 a).bind λr hr=>As.ite (λh=>?_) λ_=>.ok trivial;obtain⟨h1,h2⟩:=hr h;exact(Axy r.1 h1 h2).bind λr1 _=>(A90 _ _).bind λv _=>As.ite (λ_=>.ok trivial) λ_=>.ok trivial
theorem Ane (b:Bool)(e:Int):As (Pr b e) T1:=As.ite (λ_=>.ok trivial) λ_=>.ok trivial
theorem A7f (a:Airspace):As (P0 a) T1:=by unfold P0;exact(A91 a).bind λr _=>(Ane _ _).bind λ_ _=>.ok trivial
structure LowOk (a:Airspace):Prop extends OpSmall a where
 sec:a.Sectors.length≤NN
 secv:∀s∈a.Sectors,s.Volumes.length≤NN
 con:a.Configs.length≤NN
 cons:∀s∈a.Configs,s.Sectors.length≤NN
 air:a.Airports.length≤NN
 mod:∀s∈a.Airports,s.Modes.length≤NN
 cla:a.Classes.length≤NN
structure TabOk (t:Tables):Prop where
 sec:t.Sectors.length≤NN
 secv:∀s∈t.Sectors,s.Volumes.length≤NN
 con:t.Configs.length≤NN
 cons:∀s∈t.Configs,s.Sectors.length≤NN
 way:t.Ways.length≤NN
 legs:∀w∈t.Ways,w.Legs.length≤NN∧∀g∈w.Legs,g.Minutes.length≤NN
 mod:t.Modes.length≤NN
 mods:∀m∈t.Modes,m.length≤NN
 kin:t.Kinds.length≤NN
 cur:∀k∈t.Kinds,k.Curfews.length≤NN∧∀c∈k.Curfews,c.length≤NN
def Au7:Tables:={Volumes:=0,Sectors:=[],Configs:=[],Ways:=[],Modes:=[],Kinds:=[]}
theorem Ak5:TabOk Au7:=by constructor<;>simp[Au7]
theorem Bh3 (l:List Sector)(h:l.length≤NN)(z:∀s∈l,s.Volumes.length≤NN):As (G2 l) λy=>y.length=l.length∧∀s∈y,s.Volumes.length≤NN:=by unfold G2;exact(Mx (F:=λj a=>P9 (j:Int) a) (c:=80) _ (λ_ _ _=>rfl) l (by decide) h λj a A=>by unfold P9;exact .ok (z a A)).bind λy D=>.ok D
theorem Bg1 (l:List Config)(h:l.length≤NN)(z:∀s∈l,s.Sectors.length≤NN):As (Gx l) λy=>y.length=l.length∧∀s∈y,s.Sectors.length≤NN:=by unfold Gx;exact(Mx (F:=λj a=>P7 (j:Int) a) (c:=64) _ (λ_ _ _=>rfl) l (by decide) h λj a A=>by unfold P7;exact .ok (z a A)).bind λy D=>.ok D
theorem Bg9 (l:List Bool)(z:l.length≤1440):(Hs 0 l none).length≤NN:=BL (Abb l 0 none) (by have:=Ab6;omega)
theorem Ber (a b:List Span):(Zr a b).length≤NN:=Bg9 _ (by simp)
theorem A2i{P:β→Prop}(h:∀x y,f x=some y→P y):∀{l:List α} {r:List β},Alw f l=some r→∀y∈r,P y
 |[],r,hr,y,hy=>by cases hr;cases hy
 |x::l,r,hr,y,hy=>by
  unfold Alw at hr;split at hr
  ·rename_i y' r' h1 h2;cases hr;rcases AH.1 hy with rfl|hy
   ·exact h _ _ h1
   ·exact A2i h h2 y hy
  ·cases hr
theorem Bci{g:Leg}(h:Aid a n=some g):g.Minutes.length≤NN:=by unfold Aid at h;rw[BE]at h;obtain⟨p,_,rfl⟩:=h;exact Ber _ _
theorem Bgv (a:Airspace)(r:Int)(D:OpSmall a):(Aj9 (Wj a r)).1.length≤NN∧∀g∈(Aj9 (Wj a r)).1,g.Minutes.length≤NN:=by
 cases h:Wj a r with
 |none=>exact⟨BV _,λg O=>absurd O (by simp[Aj9])⟩
 |some l=>
  unfold Wj at h;split at h
  ·split at h
   ·cases h
   ·rename_i rt z;have:=D.rs rt (CC z);exact⟨by rw[Aj9,A1h h];have:=Ab6;omega,A2i (λx y A=>Bci A) h⟩
  ·cases h
theorem Bgu (a:Airspace)(z:OpSmall a):As (Ls a.Routes a) λy=>y.length=a.Routes.length∧∀w∈y,w.Legs.length≤NN∧∀g∈w.Legs,g.Minutes.length≤NN:=by unfold Ls;refine(Mx (F:=λj r=>P8 (j:Int) r a) (c:=40) _ (λ_ _ _=>rfl) a.Routes (by decide) (by have:=Ab6;have:=z.rt;omega) λj r hr=>?_).bind λy A=>.ok A;unfold P8;rw[Bge a _ z];exact .ok (Bgv a _ z)
theorem Bg5 (l:List Airport)(h:l.length≤NN)(A:∀s∈l,s.Modes.length≤NN):As (I3 l) λy=>y.length=l.length∧∀m∈y,m.length≤NN:=by unfold I3;refine(Mx (F:=λj a=>Qd (j:Int) a) (c:=24) _ (λ_ _ _=>rfl) l (by decide) h λj a D=>?_).bind λy z=>.ok z;unfold Qd Mh;rw[R.bind_assoc];refine(Mx (F:=λj a=>Qj (j:Int) a) (c:=8) T1 (λ_ _ _=>rfl) a.Modes (by decide) (A a D) λj m O=>by unfold Qj;exact .ok trivial).bind λy z=>.ok (by rw[z.1];exact A a D)
theorem Bio (a:Airspace)(h:a.Classes.length≤NN)(hp:a.Airports.length≤NN):As (Kv a.Classes a) λy=>y.length=a.Classes.length∧∀k∈y,k.Curfews.length≤NN∧∀c∈k.Curfews,c.length≤NN:=by unfold Kv;refine(Mx (F:=λj c=>Qa (j:Int) c a) (c:=64) _ (λ_ _ _=>rfl) a.Classes (by decide) h λj c A=>?_).bind λy z=>.ok z;unfold Qa;refine(A6i _ _).bind λr _=>(A3u _ _).bind λr1 _=>?_;unfold Li;rw[R.bind_assoc];refine(Mx (F:=λj b=>Md (j:Int) b a _) (c:=24) (λ(s:List Span)=>s.length≤NN) (λ_ _ _=>rfl) a.Airports (by decide) hp λj b D=>?_).bind λy z=>.ok ⟨by simp only;omega,z.2⟩;unfold Md;exact(A77 _ _ _).bind λr hr=>.ok (BL hr (by have:=Ab6;omega))
theorem Afa (n a b:Int):Hj n a b=.ok ((decide (n≥a))&&(decide (n≤b))):=rfl
theorem Aba{F:α→R Bool}(z:∀j a,b j a ()=(F a).bind λr=>if r then .ok (.inr ((j:Int)))else .ok (.inl ()))(l:List α)(A:∀a∈l,As (F a) T1): As ((each b 0 l ()).bind (alt (λ_=>.ok (-1)) (λr=>.ok r))) T1:=(Am9 l λj a D=>by rw[z];exact(A a (CC D)).bind λr _=>As.ite (λ_=>.ok rfl) λ_=>.ok trivial).mono λ_ _=>trivial
variable{m:R Bool}
theorem Y7{c:Bool}(h:As m T1):As (if c=true then m else R.ok false) T1:=As.ite (λ_=>h) λ_=>.ok trivial
theorem Hp(h:As m T1):As (m.bind λr=>.ok (!r)) T1:=h.bind λ_ _=>.ok trivial
theorem Pu(h:As m T1):As (m.bind λr=>.ok r) T1:=h.bind λ_ _=>.ok trivial
theorem Bjd (l:List Sector):As (J2 l) T1:=by unfold J2 Ia Kk;refine Hp (As.bind (Aba (F:=Il) (λ_ _=>rfl) l λs _=>?_) λ_ _=>.ok trivial);unfold Il Uw;refine Hp ?_;rw[Afa];exact Pu (Y7 (by rw[Afa];exact .ok trivial))
theorem Bix (l:List (List Int)):As (I4 l) T1:=by unfold I4 G6 Ic;refine Hp (As.bind (Aba (F:=I9) (λ_ _=>rfl) l λs _=>?_) λ_ _=>.ok trivial);unfold I9 Uv;refine Hp ?_;rw[Afa];refine Pu (Y7 (Pu ?_));unfold Sa Kg Nd;refine Hp (As.bind (Aba (F:=La) (λ_ _=>rfl) s λs _=>?_) λ_ _=>.ok trivial);unfold La Qr;rw[Afa];exact .ok trivial
theorem Bk4 (g:Leg)(t:Tables):As (P1 g t) T1:=by unfold P1;rw[Afa,R.ok_bind];refine As.bind (p:=T1) (Y7 (Pu (by rw[Afa];exact .ok trivial))) λb _=>As.bind (p:=T1) (Y7 (Pu (by rw[Afa];exact .ok trivial))) λb1 _=>Pu (Y7 ((Aoa _).bind λ_ _=>.ok trivial))
theorem Bj0 (l:List Way)(t:Tables):As (Nr l t) T1:=by
 unfold Nr Ki Ni;refine Hp (As.bind (Aba (F:=λw=>Ny w t) (λ_ _=>rfl) l λw _=>?_) λ_ _=>.ok trivial);unfold Ny Uu;have z:∀n,As (Mr n t) T1:=λn=>by unfold Mr;rw[Afa];exact .ok trivial
 refine Hp ((z _).bind λr _=>As.bind (p:=T1) (Y7 (Pu (z _))) λb _=>As.bind (p:=T1) (Y7 (Pu (by rw[Afa];exact .ok trivial))) λb1 _=>Pu (Y7 (Pu ?_)));unfold R8 Kd Na;refine Hp (As.bind (Aba (F:=λg=>Ns g t) (λ_ _=>rfl) w.Legs λg _=>?_) λ_ _=>.ok trivial);unfold Ns;exact Hp (Bk4 g t)
theorem A7t (l:List Int)(h:l.length≤1000):As (Yw l) T1:=by
 unfold Yw;refine As.alt (I:=T1) (J:=T1) ((Aa1 (λi=>2000-i.toNat) (λi=>0≤i∧i≤1010) T1 (λi hi=>?_) 2000 0 (Nat.sub_le _ _) ⟨GB _,by omega⟩).mono λr _=>by cases r<;>trivial) (λ_ _=>.ok trivial) λ_ _=>.ok trivial;unfold Acx;have h1:IntKind.wrap .i64 (i+1)=i+1:=Ok (by omega) (by omega);have h2:IntKind.wrap .i64 (i+2)=i+2:=Ok (by omega) (by omega);have A:IntKind.wrap .i64 (i+3)=i+3:=Ok (by omega) (by omega);rw[h1,h2];refine As.ite (λD=>?_) λ_=>.ok trivial;have z:∀b,As (Pe i b) (Sm (λs'=>(0≤s'∧s'≤1010)∧2000-s'.toNat<2000-i.toNat) T1):=λb=>by unfold Pe;refine As.ite (λ_=>.ok trivial) λ_=>.ok ?_;rw[A];exact⟨⟨by omega,by omega⟩,by omega⟩
 refine As.idx (by omega) (by omega) λa _=>As.idx (by omega) (by omega) λa1 _=>As.ite (λ_=>z _) λ_=>As.idx (by omega) (by omega) λO _=>z _
theorem Bhi (l:List Kind)(t:Tables):As (L3 l t) T1:=by unfold L3 Ji Ml;refine Hp (As.bind (Aba (F:=λw=>Lv w t) (λ_ _=>rfl) l λk _=>?_) λ_ _=>.ok trivial);unfold Lv Ul Ae1;refine Hp (As.bind (p:=T1) (As.bind (p:=T1) ?_ λb _=>As.ite (λ_=>.ok trivial) λ_=>.ok trivial) λ_ _=>.ok trivial);unfold V2;refine(A7t _ (by simp)).bind λr _=>As.ite (λ_=>.ok trivial) λ_=>Hp ?_;unfold Er E6;refine As.bind (Aba (F:=Nt) (λ_ _=>rfl) _ λs _=>?_) λ_ _=>.ok trivial;unfold Nt;exact(Aoa _).bind λ_ _=>.ok trivial
theorem Aiq{c:Bool}(h:c=false→As m T1):As (if c=true then R.ok true else m) T1:=As.ite (λ_=>.ok trivial) λz=>h (by simpa using z)
theorem A7g (t:Tables):As (Ky t) T1:=by unfold Ky;rw[Afa];simp only[R.ok_bind];refine As.bind (p:=T1) (Aiq λhr=>?_) λb _=>As.bind (p:=T1) (Aiq λ_=>Hp (Bjd _)) λb1 _=>As.ite (λ_=>.ok trivial) λ_=>As.bind (p:=T1) (Aiq λ_=>Hp (Bix _)) λz _=>As.bind (p:=T1) (Aiq λ_=>Hp (Bj0 _ _)) λA _=>As.bind (p:=T1) (Aiq λ_=>Hp (Bhi _ _)) λD _=>As.ite (λ_=>.ok trivial) λ_=>.ok trivial;simp only[Bool.not_eq_false',AF,AS]at hr;unfold Vw;rw[if_pos (⟨by omega,GB _,Zl (by omega)⟩:(0:Int)≤t.Volumes∧(t.Volumes:Int)≤t.Volumes∧(Int.toNat t.Volumes)*40≤Bj)];simp only[R.ok_bind];exact(Axf _).bind λ_ _=>.ok trivial
theorem Ba2 (a:Airspace)(h:OpSmall a):As (Qc a) T1:=by unfold Qc;rw[A3j a h,R.ok_bind];exact As.ite (λ_=>.ok trivial) λ_=>(Ane _ _).bind λ_ _=>.ok trivial
theorem Bak (a:Airspace)(h:OpSmall a):As (P6 a) T1:=by unfold P6;rw[A6b a h,R.ok_bind];exact As.ite (λ_=>.ok trivial) λ_=>(Ane _ _).bind λ_ _=>.ok trivial
theorem A9q (a:Airspace):As (P3 a) T1:=by unfold P3;exact(A7e a).bind λr _=>(Ane _ _).bind λ_ _=>.ok trivial
theorem Bbp (a:Airspace)(h:LowOk a):As (N6 a) λr=>TabOk r.1:=by
 have z:∀e,As (Fb e) (Sm T1 λr=>TabOk r.1):=λe=>by unfold Fb;exact As.ite (λ_=>.ok Ak5) λ_=>.ok trivial
 unfold N6 Zb;rw[R.ok_bind];refine As.alt (I:=T1) (J:=λr=>TabOk r.1) ((Lu (λ_ _=>True) (λ(r:Tables×Int)=>TabOk r.1) [98,120,123,124,126,128] 0 () (λj x u T _=>?_) trivial).mono λr hr=>by
  cases r with
  |inl u=>trivial
  |inr r=>exact hr) (λ_ _=>?_) λe U=>.ok U
 ·have A:=CC T;simp only[AH,CK,or_false]at A;refine As.mono (p:=Sm T1 λr=>TabOk r.1) ?_ λr hr=>by
   cases r with
   |inl u=>trivial
   |inr r=>exact hr
  unfold Z5;refine As.ite (λ_=>(Axf a).bind λe _=>z e) λV=>As.ite (λ_=>(A7f a).bind λe _=>z e) λW=>As.ite (λ_=>(Aop a).bind λe _=>z e) λX=>As.ite (λ_=>(A9q a).bind λe _=>z e) λY=>As.ite (λ_=>(Ba2 a h.toOpSmall).bind λe _=>z e) λZ=>As.ite (λ_=>(Bak a h.toOpSmall).bind λe _=>z e) λn6=>?_;rcases A with h|h|h|h|h|h
  ·exact absurd h V
  ·exact absurd h W
  ·exact absurd h X
  ·exact absurd h Y
  ·exact absurd h Z
  ·exact absurd h n6
 ·refine(Bh3 a.Sectors h.sec h.secv).bind λr1 h1=>(Bg1 a.Configs h.con h.cons).bind λr2 h2=>(Bgu a h.toOpSmall).bind λr3 D=>(Bg5 a.Airports h.air h.mod).bind λr4 O=>(Bio a h.cla h.air).bind λr5 S=>?_;refine(A7g _).bind λr6 _=>As.ite (λ_=>.ok Ak5) λ_=>.ok ?_;exact{sec:=by rw[h1.1];exact h.sec,secv:=h1.2,con:=by rw[h2.1];exact h.con,cons:=h2.2,way:=by rw[D.1];have:=Ab6;have:=h.rt;omega,legs:=D.2,mod:=by rw[O.1];exact h.air,mods:=O.2,kin:=by rw[S.1];exact h.cla,cur:=S.2}
def Dp:Nat→Value→Prop
 |0,v=>v.L=[]
 |n+1,v=>∀x∈v.L,Dp n x
theorem Dp.up {n:Nat}{v:Value}:Dp n v→Dp (n+1) v:=by
 induction n generalizing v with
 |zero=>intro h x z;rw[show v.L=[]from h]at z;cases z
 |succ n A=>intro h x z;exact A (h x z)
theorem Bah:∀(n:Nat) (v:Value),Dp n v→∀m,n<m→Ol m v v=.ok true
 |n,v,h,0,A=>absurd A (by omega)
 |n,v,h,m+1,A=>by
  show Yp (Ol m) v v=.ok true;unfold Yp;rw[if_neg (by simp)];have key:each (λj a1=>λ_=>Aaz v (Ol m) j a1) 0 v.L ()=.ok (.inl ()):=by
   refine Awm (s:=()) v.L 0 λj x z=>?_;unfold Aaz;rw[AN,Zo z,R.ok_bind];have D:Ol m x x=.ok true:=by
    match n,h with
    |0,h=>rw[show v.L=[]from h]at z;cases z
    |n+1,h=>exact Bah n x (h x (CC z)) m (by omega)
   rw[D];rfl
  rw[key];rfl
theorem An1 (l:List Int)(h:l.length≤NN):As (J6 l) (Dp 1):=by unfold J6;exact(Mx (F:=λ_ a=>Fa a) (c:=56) (Dp 0) (λ_ _ _=>rfl) l (by decide) h λj a _=>.ok rfl).bind λy z=>.ok z.2
theorem Aur (l:List Span)(h:l.length≤NN):As (Q4 l) (Dp 2):=by unfold Q4;exact(Mx (F:=λ_ (a:Span)=>J6 [a.From,a.To]) (c:=56) (Dp 1) (λ_ _ _=>rfl) l (by decide) h λj a _=>An1 _ (by have:=Ab6;simp only[AC,DM];omega)).bind λy z=>.ok z.2
theorem U4 (n:Int)(k:Nat):Dp k ({Kind:=1,N:=n,S:=[],L:=[]}:Value):=by
 cases k with
 |zero=>rfl
 |succ k=>exact λx z=>absurd z (by simp)
theorem Bcj (w:Way)(h:w.Legs.length≤NN)(D:∀g∈w.Legs,g.Minutes.length≤NN):As (Abh w) (Dp 5):=by
 unfold Abh;refine(Mx (F:=λ_ (a:Leg)=>(Q4 a.Minutes).bind λA=>Iw [({Kind:=1,N:=a.Segment,S:=[],L:=[]}:Value),({Kind:=1,N:=a.Volume,S:=[],L:=[]}:Value),({Kind:=1,N:=a.Length,S:=[],L:=[]}:Value),A]) (c:=56) (Dp 3) (λj g y=>by simp only[Ai0,Fa,Iw,R.ok_bind,R.bind_assoc]) w.Legs (by decide) h λj g O=>(Aur _ (D g O)).bind λA T=>.ok λx z=>?_).bind λl U=>.ok λx z=>?_
 ·simp only[AH,CK,or_false]at z;rcases z with rfl|rfl|rfl|rfl
  ·exact U4 _ _
  ·exact U4 _ _
  ·exact U4 _ _
  ·exact T
 ·simp only[AH,CK,or_false]at z;rcases z with rfl|rfl|rfl
  ·exact U4 _ _
  ·exact U4 _ _
  ·exact U.2
theorem Azl (t:Tables)(h:TabOk t):As (Q9 t) (Dp 8):=by
 unfold Q9;refine(Mx (F:=λ_ (a:Sector)=>(J6 a.Volumes).bind λr=>Iw [r,({Kind:=1,N:=a.Radar,S:=[],L:=[]}:Value),({Kind:=1,N:=a.Procedural,S:=[],L:=[]}:Value)]) (c:=56) (Dp 2) (λj g y=>by simp only[Z3,Fa,Iw,R.ok_bind,R.bind_assoc]) t.Sectors (by decide) h.sec λj g A=>(An1 _ (h.secv g A)).bind λr hr=>.ok λx z=>?_).bind λl X=>?_
 ·simp only[AH,CK,or_false]at z;rcases z with rfl|rfl|rfl
  ·exact hr
  ·exact U4 _ _
  ·exact U4 _ _
 refine(Mx (F:=λ_ (a:Config)=>J6 a.Sectors) (c:=56) (Dp 1) (λj g y=>rfl) t.Configs (by decide) h.con λj g A=>An1 _ (h.cons g A)).bind λl1 O=>?_;refine(Mx (F:=λ_ (a:Way)=>Abh a) (c:=56) (Dp 5) (λj g y=>rfl) t.Ways (by decide) h.way λj g A=>Bcj _ (h.legs g A).1 (h.legs g A).2).bind λl2 T=>?_;refine(Mx (F:=λ_ (a:List Int)=>J6 a) (c:=56) (Dp 1) (λj g y=>rfl) t.Modes (by decide) h.mod λj g A=>An1 _ (h.mods g A)).bind λl3 U=>?_;refine(Mx (F:=λ_ (a:Kind)=>(Bf (λ_ Y=>λD=>Z8 Y D) 0 a.Curfews []).bind λD=>Iw [({Kind:=1,N:=a.Slow,S:=[],L:=[]}:Value),({Kind:=1,N:=a.Fast,S:=[],L:=[]}:Value),({Kind:=1,N:=a.Places,S:=[],L:=[]}:Value),({Kind:=1,N:=a.Weight,S:=[],L:=[]}:Value),({Kind:=1,N:=a.Longest,S:=[],L:=[]}:Value),({Kind:=3,N:=0,S:=[],L:=D}:Value)]) (c:=56) (Dp 4) (λj g y=>by simp only[Z1,Fa,Iw,R.ok_bind,R.bind_assoc]) t.Kinds (by decide) h.kin λj g A=>?_).bind λl4 V=>.ok λx z=>?_
 ·refine(Mx (F:=λ_ (a:List Span)=>Q4 a) (c:=56) (Dp 2) (λj g y=>rfl) g.Curfews (by decide) (h.cur g A).1 λj c Z=>Aur _ ((h.cur g A).2 c Z)).bind λD W=>.ok λx z=>?_;simp only[AH,CK,or_false]at z;rcases z with rfl|rfl|rfl|rfl|rfl|rfl
  ·exact U4 _ _
  ·exact U4 _ _
  ·exact U4 _ _
  ·exact U4 _ _
  ·exact U4 _ _
  ·exact W.2
 ·simp only[AH,CK,or_false]at z;rcases z with rfl|rfl|rfl|rfl|rfl|rfl
  ·exact U4 _ _
  ·exact λx z=>(X.2 x z).up.up.up.up
  ·exact λx z=>(O.2 x z).up.up.up.up.up
  ·exact λx z=>(T.2 x z).up
  ·exact λx z=>(U.2 x z).up.up.up.up.up
  ·exact λx z=>(V.2 x z).up.up
theorem Alg (t:Tables)(h:TabOk t):S7 t t=.ok true:=by obtain⟨v,z,A⟩:=Azl t h;unfold S7 Ant;rw[z];simp only[R.ok_bind];rw[Bah 8 v A Aot (by rw[Bha];omega)];rfl
abbrev p91:PV:=⟨33,.int .i64 91⟩
abbrev p90:PV:=⟨33,.int .i64 90⟩
theorem A5b (b:Bool)(e:Int):Iv b e=if b then .ok ()else .pan ⟨33,.int .i64 e⟩:=rfl
def Xc (M:List (Al×Int))(ns:List Al):Prop:=∀x,Dq M x=(pos ns x).map λi=>(i:Int)
def H2 (ns:List Al)(x:Al):Bool:=(pos ns x).isSome
def Um (ns:List Al)(m:R (List (Al×Int))):Prop:=(ns.Nodup∧∃M,m=.ok M∧Xc M ns)∨(¬ns.Nodup∧m=.pan p91)
theorem Yf {m:List (Al×Int)}{x:Al}{j:Nat}:((Iv (!(Option.isSome (Dq m x))) 91).bind λ_=>(.ok (G4 m x (j:Int)):R (List (Al×Int))))=if(Dq m x).isSome then .pan p91 else .ok (G4 m x (j:Int)):=by rw[A5b];cases(Dq m x).isSome<;>simp
theorem A0t (l:List Volume):Um (l.map (·.Name)) (Hz l):=by have:=Mz (b:=λj a=>λm=>Ix j a m) (g:=(·.Name)) (v:=p91) (λj a m=>by simp only[Ix,Yy,R.ok_bind,Yf]) l;simpa[Um,Xc,Hz]using this
theorem A1j (l:List Sector):Um (l.map (·.Name)) (K7 l):=by have:=Mz (b:=λj a=>λm=>L1 j a m) (g:=(·.Name)) (v:=p91) (λj a m=>by simp only[L1,Rx,R.ok_bind,Yf]) l;simpa[Um,Xc,K7]using this
theorem Az8 (l:List Config):Um (l.map (·.Name)) (K1 l):=by have:=Mz (b:=λj a=>λm=>Mj j a m) (g:=(·.Name)) (v:=p91) (λj a m=>by simp only[Mj,Re,R.ok_bind,Yf]) l;simpa[Um,Xc,K1]using this
theorem Axs (l:List Segment):Um (l.map (·.Name)) (J1 l):=by have:=Mz (b:=λj a=>λm=>Lh j a m) (g:=(·.Name)) (v:=p91) (λj a m=>by simp only[Lh,Rk,R.ok_bind,Yf]) l;simpa[Um,Xc,J1]using this
theorem A3a (l:List Route):Um (l.map (·.Name)) (L7 l):=by have:=Mz (b:=λj a=>λm=>Nf j a m) (g:=(·.Name)) (v:=p91) (λj a m=>by simp only[Nf,R4,R.ok_bind,Yf]) l;simpa[Um,Xc,L7]using this
theorem Ax4 (l:List Airport):Um (l.map (·.Name)) (Gr l):=by have:=Mz (b:=λj a=>λm=>Hy j a m) (g:=(·.Name)) (v:=p91) (λj a m=>by simp only[Hy,Wh,R.ok_bind,Yf]) l;simpa[Um,Xc,Gr]using this
theorem A30 (l:List Class):Um (l.map (·.Name)) (Jc l):=by have:=Mz (b:=λj a=>λm=>Kh j a m) (g:=(·.Name)) (v:=p91) (λj a m=>by simp only[Kh,Aac,R.ok_bind,Yf]) l;simpa[Um,Xc,Jc]using this
theorem A6x (l:List Mode):Um (l.map (·.Name)) (N0 l):=by have:=Mz (b:=λj a=>λm=>Od j a m) (g:=(·.Name)) (v:=p91) (λj a m=>by simp only[Od,Rf,R.ok_bind,Yf]) l;simpa[Um,Xc,N0]using this
variable{ns:List Al}
theorem of_eq{M:List (Al×Int)}(h:Xc M ns)(x:Al):Dc M x=if H2 ns x then .ok (Ac2 ns x)else .pan p90:=by unfold Dc H2 Ac2;rw[h x,A5b];cases pos ns x<;>simp
theorem A1v{M:List (Al×Int)}(h:Xc M ns)(l:List Al)(z:l.length*8≤Bj):Ew M l=if l.all (H2 ns)then .ok (l.map (Ac2 ns))else .pan p90:=by unfold Ew;rw[Auj (F:=Dc M) (c:=8) (λj a s=>by simp[L0]) l 0 [] (by simpa using z),Aea (G:=Ac2 ns) (p:=H2 ns) (v:=p90) l (λa _=>of_eq h a)];cases l.all (H2 ns)<;>simp
def Aq3 (vs:List Al)(s:Sector):Sector:={s with Volumes:=s.Names.map (Ac2 vs)}
def Aqt (ss:List Al)(s:Config):Config:={s with Sectors:=s.Names.map (Ac2 ss)}
def Auy (vs:List Al)(s:Segment):Segment:={s with Volume:=Ac2 vs s.In}
def As4 (gs Up:List Al)(r:Route):Route:={r with From:=Ac2 Up r.A,To:=Ac2 Up r.B,Segments:=r.Names.map (Ac2 gs)}
def A5y (Up cs:List Al)(r:Rule):Rule:={r with Class:=Ac2 cs r.C,Airport:=if r.Kind==1 then Ac2 Up r.A else 0}
def As9 (vs:List Al)(s:Sector):Bool:=s.Names.all (H2 vs)
def As6 (ss:List Al)(s:Config):Bool:=s.Names.all (H2 ss)
def Aqo (vs:List Al)(s:Segment):Bool:=H2 vs s.In
def Avj (gs Up:List Al)(r:Route):Bool:=H2 Up r.A&&H2 Up r.B&&r.Names.all (H2 gs)
def A1f (Up cs:List Al)(r:Rule):Bool:=H2 cs r.C&&(!(r.Kind==1)||H2 Up r.A)
structure Small (N:Nat)(a:Airspace):Prop where
 v:a.Volumes.length≤N
 s:a.Sectors.length≤N
 c:a.Configs.length≤N
 g:a.Segments.length≤N
 r:a.Routes.length≤N
 p:a.Airports.length≤N
 k:a.Classes.length≤N
 u:a.Rules.length≤N
 sn:∀x∈a.Sectors,x.Names.length≤N
 cn:∀x∈a.Configs,x.Names.length≤N
 rn:∀x∈a.Routes,x.Names.length≤N
 pm:∀x∈a.Airports,x.Modes.length≤N
def vs (a:Airspace):List Al:=a.Volumes.map (·.Name)
def ss (a:Airspace):List Al:=a.Sectors.map (·.Name)
def cs (a:Airspace):List Al:=a.Configs.map (·.Name)
def gs (a:Airspace):List Al:=a.Segments.map (·.Name)
def rs (a:Airspace):List Al:=a.Routes.map (·.Name)
def Up (a:Airspace):List Al:=a.Airports.map (·.Name)
def ks (a:Airspace):List Al:=a.Classes.map (·.Name)
def Bbu:Airspace:={Volumes:=[],Sectors:=[],Configs:=[],Segments:=[],Routes:=[],Airports:=[],Classes:=[],Rules:=[]}
def Adb (a:Airspace):Prop:=(vs a).Nodup∧(ss a).Nodup∧(cs a).Nodup∧(gs a).Nodup∧(rs a).Nodup∧(Up a).Nodup∧(ks a).Nodup∧∀p∈a.Airports,(p.Modes.map (·.Name)).Nodup
instance (a:Airspace):Decidable (Adb a):=by unfold Adb;infer_instance
def An9 (a:Airspace):Bool:=a.Sectors.all (As9 (vs a))&&a.Configs.all (As6 (ss a))&&a.Segments.all (Aqo (vs a))&&a.Routes.all (Avj (gs a) (Up a))&&a.Rules.all (A1f (Up a) (ks a))
def Pw (a:Airspace):Airspace:={a with Sectors:=a.Sectors.map (Aq3 (vs a)),Configs:=a.Configs.map (Aqt (ss a)),Segments:=a.Segments.map (Auy (vs a)),Routes:=a.Routes.map (As4 (gs a) (Up a)),Rules:=a.Rules.map (A5y (Up a) (ks a))}
def resolve (a:Airspace):Airspace×Int:=if Adb a then(if An9 a then(Pw a,0)else(Bbu,90))else(Bbu,91)
theorem A2z{M:List (Al×Int)}(h:Xc M ns)(l:List Sector)(z:∀x∈l,x.Names.length*8≤Bj):
  Bf (λA _=>λD=>N2 M A D) 0 l l=if l.all (As9 ns)then .ok (l.map (Aq3 ns))else .pan p90:=by
 rw[Aaf (F:=λs=>(Ew M s.Names).bind λv=>.ok {s with Volumes:=v}) (λj a s x O=>by simp[N2,Zo O,R.bind_assoc]) l l rfl]
 exact Aea l λs S=>by rw[A1v h _ (z s S)];show _=if s.Names.all (H2 ns)then _ else _;cases s.Names.all (H2 ns)<;>rfl
theorem A2x{M:List (Al×Int)}(h:Xc M ns)(l:List Config)(z:∀x∈l,x.Names.length*8≤Bj):
  Bf (λA _=>λD=>Kp M A D) 0 l l=if l.all (As6 ns)then .ok (l.map (Aqt ns))else .pan p90:=by
 rw[Aaf (F:=λs=>(Ew M s.Names).bind λv=>.ok {s with Sectors:=v}) (λj a s x O=>by simp[Kp,Zo O,R.bind_assoc]) l l rfl]
 exact Aea l λs S=>by rw[A1v h _ (z s S)];show _=if s.Names.all (H2 ns)then _ else _;cases s.Names.all (H2 ns)<;>rfl
theorem A1s{M:List (Al×Int)}(h:Xc M ns)(l:List Segment):
  Bf (λz _=>λA=>Id M z A) 0 l l=if l.all (Aqo ns)then .ok (l.map (Auy ns))else .pan p90:=by
 rw[Aaf (F:=λs=>(Dc M s.In).bind λv=>.ok {s with Volume:=v}) (λj a s x D=>by simp[Id,Zo D,R.bind_assoc]) l l rfl]
 exact Aea l λs O=>by rw[of_eq h];show _=if H2 ns s.In then _ else _;cases H2 ns s.In<;>rfl
variable{M':List (Al×Int)}{qs:List Al}
theorem A71{M:List (Al×Int)}(h:Xc M ns)(h':Xc M' qs)(l:List Route)(z:∀x∈l,x.Names.length*8≤Bj):
  Bf (λA _=>λl=>G8 M M' A l) 0 l l=if l.all (Avj ns qs)then .ok (l.map (As4 ns qs))else .pan p90:=by
 rw[Aaf (F:=λs=>(Dc M' s.A).bind λx=>(Dc M' s.B).bind λy=>(Ew M s.Names).bind λv=>.ok {s with From:=x,To:=y,Segments:=v}) (λj a s x D=>by simp[G8,Zo D,R.bind_assoc,List.set_set]) l l rfl]
 exact Aea l λs O=>by rw[A1v h _ (z s O),of_eq h',of_eq h'];show _=if H2 qs s.A&&H2 qs s.B&&s.Names.all (H2 ns)then _ else _;cases H2 qs s.A<;>cases H2 qs s.B<;>cases s.Names.all (H2 ns)<;>rfl
theorem Bau{M:List (Al×Int)}(h:Xc M ns)(h':Xc M' qs)(l:List Rule):
  Bf (λz _=>λl1=>Fy M M' z l1) 0 l l=if l.all (A1f ns qs)then .ok (l.map (A5y ns qs))else .pan p90:=by
 rw[Aaf (F:=λs=>(Dc M' s.C).bind λx=>if s.Kind==1 then(Dc M s.A).bind λy=>.ok {s with Class:=x,Airport:=y}else .ok {s with Class:=x,Airport:=0}) (λj a s x A=>by simp only[Fy,Zo A,R.bind_assoc,List.set_set,R.ok_bind,CD];congr 1;funext y;split<;>simp[R.bind_assoc]) l l rfl]
 exact Aea l λs D=>by rw[of_eq h',of_eq h];show _=if H2 qs s.C&&(!(s.Kind==1)||H2 ns s.A)then R.ok {s with Class:=Ac2 qs s.C,Airport:=if s.Kind==1 then Ac2 ns s.A else 0}else _;cases H2 qs s.C<;>cases H2 ns s.A<;>cases hk:(s.Kind==1)<;>simp
theorem A7j (l:List Airport):Bf (λ_ a1=>λ_=>Rz a1) 0 l ()=if ∀p∈l,(p.Modes.map (·.Name)).Nodup then .ok ()else .pan p91:=by
 have:∀(l:List Airport) (k:Nat),Bf (λ_ a1=>λ_=>Rz a1) k l ()=if ∀p∈l,(p.Modes.map (·.Name)).Nodup then .ok ()else .pan p91:=by
  intro l;induction l with
  |nil=>intro k;simp[Anw]
  |cons a l z=>
   intro k;rw[Lo,Rz];rcases A6x a.Modes with⟨h1,M,h2,_⟩|⟨h1,h2⟩
   ·rw[h2];simp only[R.ok_bind];rw[z];simp[h1]
   ·rw[h2];simp[h1]
 exact this l 0
theorem Atf (a:Airspace)(A:Small 1048576 a):Wg a=.ok (resolve a):=by
 have hm:Tm a=if Adb a then(if An9 a then .ok (Pw a,0)else .pan p90)else .pan p91:=by
  unfold Tm;rcases A0t a.Volumes with⟨h1,M1,z,n1⟩|⟨h1,z⟩;case inr=>rw[z,if_neg (λh:Adb a=>h1 h.1)];rfl
  rcases A1j a.Sectors with⟨h2,M2,D,n2⟩|⟨h2,D⟩;case inr=>rw[z,D,if_neg (λh:Adb a=>h2 h.2.1)];rfl
  rcases Az8 a.Configs with⟨Y,M3,S,n3⟩|⟨Y,S⟩;case inr=>rw[z,D,S,if_neg (λh:Adb a=>Y h.2.2.1)];rfl
  rcases Axs a.Segments with⟨Z,M4,T,n4⟩|⟨Z,T⟩;case inr=>rw[z,D,S,T,if_neg (λh:Adb a=>Z h.2.2.2.1)];rfl
  rcases A3a a.Routes with⟨h5,M5,U,n5⟩|⟨h5,U⟩;case inr=>rw[z,D,S,T,U,if_neg (λh:Adb a=>h5 h.2.2.2.2.1)];rfl
  rcases Ax4 a.Airports with⟨h6,M6,W,n6⟩|⟨h6,W⟩;case inr=>rw[z,D,S,T,U,W,if_neg (λh:Adb a=>h6 h.2.2.2.2.2.1)];rfl
  rcases A30 a.Classes with⟨h7,M7,e7,n7⟩|⟨h7,e7⟩;case inr=>rw[z,D,S,T,U,W,e7,if_neg (λh:Adb a=>h7 h.2.2.2.2.2.2.1)];rfl
  rw[z,D,S,T,U,W,e7];simp only[R.ok_bind,A7j];by_cases X:∀p∈a.Airports,(p.Modes.map (·.Name)).Nodup;case neg=>rw[if_neg X,if_neg (λh:Adb a=>X h.2.2.2.2.2.2.2)];rfl
  have ho:Adb a:=⟨h1,h2,Y,Z,h5,h6,h7,X⟩;rw[if_pos X,if_pos ho];have O:∀n c:Nat,n≤1048576→c≤128→n*c≤Bj:=λn c hn hc=>BL (Nat.mul_le_mul hn hc) (by decide);simp only[R.ok_bind,Nz,Nq,Mm,Ou,Qf,O _ _ A.s (show 80≤128 by decide),O _ _ A.c (show 64≤128 by decide),O _ _ A.g (show 72≤128 by decide),O _ _ A.r (show 112≤128 by decide),O _ _ A.u (show 80≤128 by decide),if_true,A2z n1 _ (λx V=>O _ _ (A.sn x V) (by decide)),A2x n2 _ (λx V=>O _ _ (A.cn x V) (by decide)),A1s n1,A71 n4 n6 _ (λx V=>O _ _ (A.rn x V) (by decide)),Bau n6 n7];unfold An9 Pw vs ss gs Up ks;cases a.Sectors.all (As9 (a.Volumes.map (·.Name)))<;>cases a.Configs.all (As6 (a.Sectors.map (·.Name)))<;>cases a.Segments.all (Aqo (a.Volumes.map (·.Name)))<;>cases a.Routes.all (Avj (a.Segments.map (·.Name)) (a.Airports.map (·.Name)))<;>cases a.Rules.all (A1f (a.Airports.map (·.Name)) (a.Classes.map (·.Name)))<;>rfl
 unfold Wg resolve;rw[hm];by_cases h1:Adb a
 ·rw[if_pos h1,if_pos h1];cases An9 a<;>rfl
 ·rw[if_neg h1,if_neg h1];rfl
theorem X1{b:Nat→α→Unit→R (Unit ⊕ Bool)}{p:α→Bool}(l:List α)(z:∀j,∀a,b j a ()=if p a=true then .ok (.inr false)else .ok (.inl ())){g:Unit→R Bool}{P:Prop}(A:(∀a∈l,p a=false)→As (g ()) λr=>r=true→P):
  As ((each b 0 l ()).bind (alt g (λr=>.ok r))) λr=>r=true→P:=by
 rw[A0s (p:=p) false l 0 (λj a _=>z j a)]
 cases h:l.any p with
 |true=>exact .ok λh=>by cases h
 |false=>
  refine A λa D=>?_;cases hp:p a with
  |false=>rfl
  |true=>rw[EE.2 ⟨a,D,hp⟩]at h;cases h
theorem An8 (l:List Al):As (N4 l) T1:=by unfold N4;refine As.alt (I:=T1) (J:=T1) ((Lu (λ_ _=>True) T1 l 0 () (λj a u _ _=>?_) trivial).mono λr _=>by cases r<;>trivial) (λ_ _=>.ok trivial) λ_ _=>.ok trivial;unfold Zx;exact As.ite (λ_=>.ok trivial) λ_=>.ok trivial
theorem Bdj (a:Airspace):As (Af9 a) T1:=by unfold Af9;refine As.ite (λ_=>.ok trivial) λ_=>?_;have e:∀{α σ:Type} {b:Nat→α→σ→R (σ ⊕ Bool)} (l:List α) (s:σ) (f:σ→R Bool),(∀j x t,As (b j x t) T1)→(∀t,As (f t) T1)→As ((each b 0 l s).bind (alt f (λr=>.ok r))) T1:=λl s f z hf=>As.alt (I:=T1) (J:=T1) ((Lu (λ_ _=>True) T1 l 0 s (λj x t _ _=>(z _ x t).mono λr _=>by cases r<;>trivial) trivial).mono λr _=>by cases r<;>trivial) (λt _=>hf t) λ_ _=>.ok trivial;refine As.bind (p:=T1) ((My (λ_ _=>True) a.Volumes 0 0 (λj x t _ _=>.ok trivial) trivial).mono λ_ _=>trivial) λx _=>e _ _ _ (λj x t=>(An8 _).bind λr _=>As.ite (λ_=>.ok trivial) λ_=>.ok trivial) λS=>e _ _ _ (λj x t=>(An8 _).bind λr _=>As.ite (λ_=>.ok trivial) λ_=>.ok trivial) λA=>?_;refine As.bind (p:=T1) ((My (λ_ _=>True) a.Segments 0 A (λj x t _ _=>.ok trivial) trivial).mono λ_ _=>trivial) λT _=>e _ _ _ (λj x t=>(An8 _).bind λr _=>As.ite (λ_=>.ok trivial) λ_=>.ok trivial) λD=>?_;exact As.bind (p:=T1) ((My (λ_ _=>True) a.Airports 0 D (λj x t _ _=>.ok trivial) trivial).mono λ_ _=>trivial) λO _=>.ok trivial
theorem Bad (a:Airspace):As (Af5 a) T1:=by unfold Af5;refine(X1 (P:=True) (p:=λ(s:Sector)=>decide ((s.Volumes.length:Int)>10)) a.Sectors (λj s=>by simp only[Aiv,AS]) λ_=>(X1 (P:=True) (p:=λ(s:Config)=>decide ((s.Sectors.length:Int)>10)) a.Configs (λj s=>by simp only[Aka,AS]) λ_=>.ok λ_=>trivial)).mono λ_ _=>trivial
structure Bd (a:Airspace):Prop where
 v:a.Volumes.length≤1000
 s:a.Sectors.length≤1000
 c:a.Configs.length≤1000
 g:a.Segments.length≤1000
 r:a.Routes.length≤1000
 p:a.Airports.length≤1000
 k:a.Classes.length≤1000
 u:a.Rules.length≤1000
 sn:∀x∈a.Sectors,x.Names.length≤1000
 cn:∀x∈a.Configs,x.Names.length≤1000
 rn:∀x∈a.Routes,x.Names.length≤1000
 pm:∀x∈a.Airports,x.Modes.length≤1000
theorem A9j (a:Airspace):As (Afx a) λb=>b=true→Bd a:=by
 unfold Afx;refine As.ite (λ_=>.ok λh=>by cases h) λh=>?_;simp only[CH,AS,not_or]at h;obtain⟨⟨⟨⟨⟨⟨⟨h1,h2⟩,S⟩,T⟩,U⟩,V⟩,W⟩,X⟩:=h;refine X1 (p:=λ(s:Volume)=>decide ((s.Closed.length:Int)>8)) a.Volumes (λj s=>by simp only[Aj8,AS]) λ_=>?_;refine X1 (p:=λ(s:Sector)=>(decide ((s.Volumes.length:Int)>16))||(decide ((s.Names.length:Int)>16))) a.Sectors (λj s=>rfl) λA=>?_;refine X1 (p:=λ(s:Config)=>(decide ((s.Sectors.length:Int)>16))||(decide ((s.Names.length:Int)>16))) a.Configs (λj s=>rfl) λD=>?_;refine X1 (p:=λ(s:Segment)=>decide ((s.Open.length:Int)>8)) a.Segments (λj s=>by simp only[Ajf,AS]) λ_=>?_;refine X1 (p:=λ(s:Route)=>(decide ((s.Segments.length:Int)>10))||(decide ((s.Names.length:Int)>10))) a.Routes (λj s=>rfl) λO=>?_;refine X1 (p:=λ(s:Airport)=>decide ((s.Modes.length:Int)>6)) a.Airports (λj s=>by simp only[Aiz,AS]) λR=>.ok λ_=>?_;refine⟨by omega,by omega,by omega,by omega,by omega,by omega,by omega,by omega,λx z=>?_,λx z=>?_,λx z=>?_,λx z=>?_⟩
 ·have:=A x z;simp only[FA,DP]at this;omega
 ·have:=D x z;simp only[FA,DP]at this;omega
 ·have:=O x z;simp only[FA,DP]at this;omega
 ·have:=R x z;simp only[DP]at this;omega
theorem A33 (a:Airspace)(r:Rule):As (Aao a r) T1:=by unfold Aao;exact As.ite (λ_=>.ok trivial) λ_=>As.ite (λ_=>.ok trivial) λ_=>As.ite (λ_=>.ok trivial) λ_=>As.ite (λ_=>.ok trivial) λ_=>As.ite (λ_=>.ok trivial) λ_=>As.ite (λ_=>.ok trivial) λ_=>.ok trivial
theorem Baq (a:Airspace):As (Afd a) T1:=by unfold Afd;refine Pu (Aiq λ_=>As.bind (p:=T1) ?_ λr _=>.ok trivial);unfold Ae8;refine As.ite (λ_=>.ok trivial) λ_=>As.alt (I:=T1) (J:=T1) ((Lu (λ_ _=>True) T1 a.Rules 0 () (λj x u _ _=>?_) trivial).mono λr _=>by cases r<;>trivial) (λ_ _=>.ok trivial) λ_ _=>.ok trivial;unfold Ad9;exact(A33 _ _).bind λr _=>As.ite (λ_=>.ok trivial) λ_=>.ok trivial
theorem A9o (a:Airspace):As (Aab a) λb=>b=true→Bd a:=by unfold Aab;refine(Bdj a).bind λr _=>As.bind (p:=T1) (Y7 (Pu (Bad a))) λb _=>As.bind (p:=λb=>b=true→Bd a) (As.ite (λ_=>(A9j a).bind λr h=>.ok h) λ_=>.ok λh=>by cases h) λb1 z=>?_;refine As.bind (p:=λD=>D=true→Bd a) (As.ite (λh1=>(Baq a).bind λ_ _=>.ok λ_=>z h1) λ_=>.ok λh=>by cases h) λD A=>.ok λh=>A ?_;simp only[AF]at h;exact h.1.1.1
theorem Bd.small(h:Bd a):Small 1048576 a:=⟨by have:=h.v;omega,by have:=h.s;omega,by have:=h.c;omega,by have:=h.g;omega,by have:=h.r;omega,by have:=h.p;omega,by have:=h.k;omega,by have:=h.u;omega,λx z=>by have:=h.sn x z;omega,λx z=>by have:=h.cn x z;omega,λx z=>by have:=h.rn x z;omega,λx z=>by have:=h.pm x z;omega⟩
theorem Bd.low(h:Bd a):LowOk (Pw a) where
 seg:=by have:=h.g;simp only[Pw,AX];omega
 vol:=by have:=h.v;simp only[Pw];omega
 rt:=by have:=h.r;simp only[Pw,AX];omega
 rs:=λx z=>by obtain⟨y,A,rfl⟩:=BU.1 z;have:=h.rn y A;simp only[As4,AX];omega
 sec:=by have:=Ab6;have:=h.s;simp only[Pw,AX];omega
 secv:=λx z=>by obtain⟨y,A,rfl⟩:=BU.1 z;have:=Ab6;have:=h.sn y A;simp only[Aq3,AX];omega
 con:=by have:=Ab6;have:=h.c;simp only[Pw,AX];omega
 cons:=λx z=>by obtain⟨y,A,rfl⟩:=BU.1 z;have:=Ab6;have:=h.cn y A;simp only[Aqt,AX];omega
 air:=by have:=Ab6;have:=h.p;simp only[Pw];omega
 mod:=λx z=>by have:=Ab6;have:=h.pm x z;omega
 cla:=by have:=Ab6;have:=h.k;simp only[Pw];omega
end Go.Am
