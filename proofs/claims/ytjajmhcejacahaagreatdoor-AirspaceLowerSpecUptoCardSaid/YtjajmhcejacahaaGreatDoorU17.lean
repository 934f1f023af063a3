import Derived.Test.YtjajmhcejacahaaGreatDoorU6
set_option linter.all false
set_option maxRecDepth 100000
open Go.IntKind(wrap)
namespace Go.Am
open Go
abbrev BN:=@Int.fdiv_eq_ediv_of_nonneg
abbrev DB:=@List.take_add_one
abbrev DE:=@List.take_length
abbrev DF:=@List.nodup_append
abbrev DI:=@List.mem_iff_getElem?
abbrev DW:=@decide_eq_true
abbrev DZ:=@decide_eq_false
abbrev EI:=@List.length_range
abbrev EO:=@Int.le_refl
abbrev EX:=@List.flatMap_cons
abbrev FH:=@List.replicate_append_replicate
abbrev FR:=@List.take_append_of_le_length
abbrev FV:=@Nat.eq_of_testBit_eq
abbrev GR:=@List.range_succ
abbrev GS:=@Nat.testBit_and
abbrev GY:=@Nat.testBit_two_pow
abbrev HC:=@Nat.testBit_two_pow_sub_one
abbrev HK:=@Nat.shiftRight_eq_div_pow
abbrev HW:=@Nat.zero_testBit
abbrev IB:=@Bool.false_and
variable{α:Type}
def An(m:R α)(p:α->Prop):Prop:=∃a,m=.ok a/\p a
def An.ok{p:α->Prop}{a:α}(h:p a):An (.ok a) p:=⟨a,rfl,h⟩
variable{β:Type}
def An.bind{m:R α}{f:α->R β}{p:α->Prop}{q:β->Prop}(h:An m p)(hf:∀a,p a->An (f a) q):An (m.bind f) q:=by obtain⟨a,rfl,z⟩:=h;exact hf a z
def An.mono{m:R α}{p q:α->Prop}(h:An m p)(z:∀a,p a->q a):An m q:=let ⟨a,h1,h2⟩:=h;⟨a,h1,z a h2⟩
def An.np{m:R α}{p:α->Prop}(h:An m p):An m.np p:=by obtain⟨a,rfl,z⟩:=h;exact⟨a,rfl,z⟩
def An.ite{c:Prop}[Decidable c]{a b:R α}{p:α->Prop}(h1:c->An a p)(h2:¬c->An b p):An (if c then a else b) p:=by
 split
 .exact h1 ‹_›
 .exact h2 ‹_›
def An.need{c:Prop}[Decidable c]{a b:R α}{p:α->Prop}(z:c)(h1:An a p):An (if c then a else b) p:=by rw[if_pos z];exact h1
def An.idx{l:List α}{i:Int}{f:α->R β}{p:β->Prop}(h0:0<=i)(h1:i<(l.length:Int))(hf:∀a,l[i.toNat]?=some a->An (f a) p):An ((idx l i).bind f) p:=by
 obtain⟨n,rfl⟩:=BY h0;have z:n<l.length:=by omega
 rw[Zo (AA z)];exact hf _ (AA z)
variable{σ:Type}{ε:Type}
def Sm(I:σ->Prop)(J:ε->Prop):σ ⊕ ε->Prop
 |.inl s=>I s
 |.inr e=>J e
def An.alt{m:R (σ ⊕ ε)}{f:σ->R β}{g:ε->R β}{I:σ->Prop}{J:ε->Prop}{p:β->Prop}(h:An m (Sm I J))(hf:∀s,I s->An (f s) p)(A:∀e,J e->An (g e) p):An (m.bind (alt f g)) p:=
 h.bind λa z=>by
  cases a with
  |inl s=>exact hf s z
  |inr e=>exact A e z
def Cp{b:Nat->α->σ->R σ}(I:Nat->σ->Prop):∀(l:List α) (k:Nat) (s:σ),(∀j a s,l[j]?=some a->I (k+j) s->An (b (k+j) a s) (I (k+j+1)))->I k s->An (A5 b k l s) (I (k+l.length))
 |[],k,s,_,z=>.ok z
 |a::l,k,s,D,z=>by rw[Ic];refine(D 0 a s rfl z).bind λs' A=>?_;have:=Cp I l (k+1) s' (λj x t G ht=>by have:=D (j+1) x t (by simpa using G) (by rw[show k+(j+1)=k+1+j by omega];exact ht);rwa[show k+(j+1)=k+1+j by omega]at this) A;rw[BV,show k+(l.length+1)=k+1+l.length by omega];exact this
def Lu{b:Nat->α->σ->R (σ ⊕ ε)}(I:Nat->σ->Prop)(J:ε->Prop):∀(l:List α) (k:Nat) (s:σ),(∀j a s,l[j]?=some a->I (k+j) s->An (b (k+j) a s) (Sm (I (k+j+1)) J))->I k s->An (each b k l s) (Sm (I (k+l.length)) J)
 |[],k,s,_,z=>.ok z
 |a::l,k,s,A,z=>by
  simp only[each];refine(A 0 a s rfl z).bind λr hr=>?_;cases r with
  |inr e=>exact .ok hr
  |inl s'=>have:=Lu I J l (k+1) s' (λj x t D ht=>by have:=A (j+1) x t (by simpa using D) (by rw[show k+(j+1)=k+1+j by omega];exact ht);rwa[show k+(j+1)=k+1+j by omega]at this) hr;rw[BV,show k+(l.length+1)=k+1+l.length by omega];exact this
def Aue{b:α->σ->R σ}(I:σ->Prop)(D:∀a s,I s->An (b a s) I):∀(l:List α) (s:σ),I s->An (Lf b l s) I
 |[],s,z=>.ok z
 |a::l,s,z=>(D a s z).bind λs' A=>Aue I D l s' A
def Fx{b:σ->R (σ ⊕ ε)}(μ:σ->Nat)(I:σ->Prop)(J:ε->Prop)(A:∀s,I s->An (b s) (Sm (λs'=>I s'/\μ s'<μ s) J)):∀(n:Nat) (s:σ),μ s<=n->I s->An (loop b s) J:=by
 intro n;induction n with
 |zero=>
  intro s D z;rw[Ms];refine(A s z).bind λr hr=>?_;cases r with
  |inl s'=>exact absurd hr.2 (by omega)
  |inr e=>exact .ok hr
 |succ n G=>
  intro s D z;rw[Ms];refine(A s z).bind λr hr=>?_;cases r with
  |inl s'=>exact G s' (by have:=hr.2;omega) hr.1
  |inr e=>exact .ok hr
abbrev T1:α->Prop:=λ_=>True
variable{b:Nat→α→Unit→R (Unit ⊕ Int)}
def Am9(l:List α)(A:∀j a,l[j]?=some a->An (b j a ()) (Sm T1 λi=>i=(j:Int))):
  An ((each b 0 l ()).bind (alt (λ_=>.ok (-1)) (λr=>.ok r))) λi=>i= -1\/(0<=i/\i<(l.length:Int)):=by
 refine An.alt (I:=T1) (J:=λi=>0<=i/\i<(l.length:Int)) ((Lu (λ_ _=>True) (λi=>0<=i/\i<(l.length:Int)) l 0 () (λj a s z _=>?_) trivial).mono λr hr=>by
  cases r with
  |inl u=>trivial
  |inr i=>exact hr) (λ_ _=>.ok (.inl rfl)) λi hi=>.ok (.inr hi)
 rw[AE]
 have D:j<l.length:=(BZ.1 z).1
 refine(A j a z).mono λr hr=>?_
 cases r with
 |inl u=>trivial
 |inr i=>exact⟨by have:i=(j:Int):=hr;omega,by have:i=(j:Int):=hr;omega⟩
def Aoa (l:List Span):An (T4 l) T1:=by unfold T4 Jl L9;refine An.bind (p:=T1) (An.bind (Am9 l λj a _=>?_) λi _=>.ok trivial) λb _=>An.ite (λ_=>.ok trivial) λ_=>.ok trivial;unfold Oh Y5;simp only[R.ok_bind];exact An.ite (λ_=>.ok rfl) λ_=>.ok trivial
def Bcv (k:Int)(h:0<=k/\k<5):Ap (#v[249,250,251,253,254]:Vector Nat 5) k.toNat 0∈[249,250,251,253,254]:=by
 obtain⟨n,rfl⟩:=BY h.1;have z:n<5:=by omega
 match n,z with
 |0,_=>decide
 |1,_=>decide
 |2,_=>decide
 |3,_=>decide
 |4,_=>decide
def Bao (a:Airspace)(r:Rule):An (Vd r a ({fValid:=(#v[249,250,251,253,254]:(Vector Nat 5))}:T250)) T1:=by
 unfold Vd;refine An.ite (λ_=>.ok trivial) λh1=>An.ite (λ_=>.ok trivial) λh2=>An.ite (λ_=>.ok trivial) λU=>An.ite (λ_=>.ok trivial) λV=>?_;simp only[BB]at h1 h2;have hk:0<=r.Kind/\r.Kind<5:=by omega
 refine An.need hk ?_;have z:=Bcv r.Kind hk;simp only[AN,BW,or_false]at z;refine An.ite (λ_=>by unfold Y1;exact .ok trivial) λA=>An.ite (λ_=>?_) λD=>An.ite (λ_=>?_) λG=>An.ite (λ_=>?_) λO=>An.ite (λ_=>?_) λS=>?_
 .unfold Zs;rw[R.bind_assoc];refine An.bind (p:=T1) (An.ite (λ_=>(Aoa _).bind λe _=>.ok trivial) λ_=>.ok trivial) λb _=>.ok trivial
 .unfold Zd Q5;exact .ok trivial
 .unfold Zf Q5;exact .ok trivial
 .unfold Zj Q5;exact .ok trivial
 .rcases z with h|h|h|h|h
  .exact absurd h A
  .exact absurd h D
  .exact absurd h G
  .exact absurd h O
  .exact absurd h S
def Apq (a:Airspace):An (Tv a) λe=>e=0->a.Rules.length<=64:=by
 unfold Tv Ae3;simp only[R.ok_bind];refine An.bind (p:=λb=>b=false->a.Rules.length<=64) (An.ite (λ_=>.ok λh=>by cases h) λz=>?_) λb A=>An.ite (λ_=>.ok λh=>by cases h) λh=>.ok λ_=>A (by simpa using h);simp only[BB]at z;unfold Jn Lq;refine An.bind (p:=T1) (An.bind (Am9 a.Rules λj r _=>?_) λi _=>.ok trivial) λb _=>.ok λ_=>by omega
 unfold Oy;exact(Bao a r).bind λb _=>An.ite (λ_=>.ok rfl) λ_=>.ok trivial
def At6 (a:Airspace)(c:Int):An (Tx a c) λe=>e=0->a.Rules.length<=64:=by unfold Tx;exact(Apq a).bind λe z=>An.ite (λh=>.ok λh0=>z h0) λh=>An.ite (λ_=>.ok λh=>by cases h) λ_=>.ok λ_=>z (by simpa using h)
def Auy (a:Airspace)(k c o:Int):An (Ru a k c o) T1:=by unfold Ru Kb;refine An.bind (Am9 a.Rules λj r _=>?_) λi hi=>An.ite (λ_=>.ok trivial) λh=>An.idx (by omega) (by omega) λx _=>.ok trivial;unfold M9 Xn;simp only[R.ok_bind];exact An.ite (λ_=>.ok rfl) λ_=>.ok trivial
def Bff (a:Airspace)(c:Int):An (Yi a c) T1:=by unfold Yi;exact(At6 a c).bind λe _=>An.ite (λ_=>.ok trivial) λ_=>(Auy _ _ _ _).bind λn _=>.ok trivial
def Bcm (a:Airspace)(c:Int):An (Wu a c) T1:=by unfold Wu;exact(At6 a c).bind λe _=>An.ite (λ_=>.ok trivial) λ_=>(Auy _ _ _ _).bind λn _=>(Auy _ _ _ _).bind λn _=>.ok trivial
variable{n:Nat}
def Dt{c:Nat}(h:n*c<=140737488355328):n*c<=Bj:=h
def unc (l:List Span):Nat:=(List.range 1440).countP λi=>!Xk l i
variable{x:Nat}
def A14{p q:Nat->Bool}:∀(l:List Nat),(∀i,q i=true->p i=true)->x∈l->p x=true->q x=false->l.countP q<l.countP p
 |[],_,A,_,_=>by cases A
 |a::l,h,A,hp,D=>by
  have G:l.countP q<=l.countP p:=List.countP_mono_left λi _=>h i;rw[List.countP_cons,List.countP_cons];rcases AN.1 A with rfl|A
  .rw[hp,D];simp;omega
  .have:=A14 l h A hp D;have:(if q a=true then 1 else 0)<=(if p a=true then 1 else 0):=by
    by_cases z:q a=true
    .rw[if_pos z,if_pos (h a z)];exact AF _
    .rw[if_neg z];exact DA _
   omega
def Bbp (l:List Span):unc l<=1440:=by unfold unc;exact CR List.countP_le_length (by simp)
def Bo8 {l:List Span}{s:Span}{f:Nat}(hf:f<1440)(z:Xk l f=false)(A:inS s f=true):unc (l++[s])<unc l:=by
 unfold unc;refine A14 _ (λi h=>?_) (EM.2 hf) (by simp[z]) ?_
 .unfold Xk at h ⊢;rw[List.any_append]at h;cases D:l.any λs=>inS s i with
  |false=>rfl
  |true=>rw[D]at h;simp at h
 .unfold Xk;rw[List.any_append];simp[A]
def Aqo:∀(l:List Bool) (k:Nat) (o:Option Nat),(∀f,o=some f->f<k)->∀s∈Hs k l o,∃f t,s=sp f t/\f<t
 |[],k,none,_,s,z=>by cases z
 |[],k,some f,h,s,z=>by rw[Hs,AM]at z;exact⟨f,k,z,h f rfl⟩
 |true::l,k,none,h,s,z=>Aqo l (k+1) (some k) (λf hf=>by cases hf;omega) s z
 |true::l,k,some g,h,s,z=>Aqo l (k+1) (some g) (λf hf=>by cases hf;have:=h g rfl;omega) s z
 |false::l,k,none,h,s,z=>Aqo l (k+1) none (λf hf=>by cases hf) s z
 |false::l,k,some g,h,s,z=>by
  rw[Hs]at z;rcases AN.1 z with rfl|z
  .exact⟨g,k,rfl,h g rfl⟩
  .exact Aqo l (k+1) none (λf hf=>by cases hf) s z
variable{rest:List Span}
def Bih{a l:List Span}{r:Span}(h:Zr a l=r::rest):∃f:Nat,r.From=(f:Int)/\f<1440/\Xk l f=false:=by
 obtain⟨f,t,rfl,A⟩:=Aqo _ 0 none (λf hf=>by cases hf) r (by
  have:r∈Zr a l:=by rw[h];simp
  exact this)
 refine⟨f,rfl,?_⟩;have z:Xk (Zr a l) f=true:=by rw[h];unfold Xk;rw[List.any_cons,Bg6];simp[A]
 rw[Bio]at z;simp only[AK,BB,CZ]at z;exact⟨z.1,z.2.2⟩
def Ba6 (c s:List Span)(Z:c.length<=100000):An (Zn c s) λn=> -1<=n/\n<=1440:=by
 unfold Zn P4;rw[if_pos (Dt (by omega))];simp only[R.ok_bind];refine An.bind (p:=λn=> -1<=n/\n<=1440) (Fx (λs=>unc s.2) (λt=>∃m:Nat,t.1=(m:Int)/\m+unc t.2<=1440/\t.2.length+unc t.2<=200000) (λn=> -1<=n/\n<=1440) (λt ht=>?_) 1440 _ (Bbp _) ⟨0,rfl,by simp only;have:=Bbp c;omega,by simp only;have:=Bbp c;omega⟩) λn V=>.ok V;obtain⟨n,l1⟩:=t;obtain⟨m,rfl,W,X⟩:=ht;simp only[Ct];simp only at W X;unfold W0;rw[Az7];simp only[R.ok_bind];cases z:Zr [({From:=0,To:=1440}:Span)] l1 with
 |nil=>simp only[CW];exact An.need rfl (.ok ⟨by omega,by omega⟩)
 |cons r rest=>
  obtain⟨f,Y,D,G⟩:=Bih z;refine An.ite (λ_=>.ok ⟨by omega,by omega⟩) λ_=>?_;refine An.bind (p:=λv=>v.2=0\/(v.1<=(f:Int)/\(f:Int)<v.2)) ((Cp (λ_ (v:Int×Int)=>v.2=0\/(v.1<=(f:Int)/\(f:Int)<v.2)) s 0 (0,0) (λj a v _ A=>?_) (.inl rfl))) λv A=>?_
  .obtain⟨S,U⟩:=v;simp only[Ct];unfold Ahh;rw[Bpo];simp only[R.ok_bind];refine An.ite (λh1=>?_) λ_=>by unfold Sp;exact An.ite (λh=>by cases h) λ_=>.ok A
   unfold Sp;refine An.ite (λh2=>.ok (.inr ⟨?_,?_⟩)) λ_=>.ok A
   .simp only[BB]at h1;simp only;omega
   .simp only[BB]at h2;simp only;split at h2<;>omega
  .obtain⟨S,U⟩:=v;simp only[Ct];refine An.ite (λ_=>.ok ⟨by omega,by omega⟩) λh0=>?_;simp only[CX]at h0;rcases A with A|⟨h1,h2⟩
   .exact absurd A h0
   simp only at h1 h2;have O:=Bo8 (s:={From:=S,To:=U}) D G (by unfold inS;simp[h1,h2]);refine An.need (Dt (by simp only[AC];omega)) (.ok ⟨⟨m+1,?_,?_,?_⟩,?_⟩)
   .simp only;rw[Ok (by omega) (by omega)];omega
   .simp only;omega
   .simp only[AG,AC];omega
   .exact O
def InR (l:List Rule)(s:List Int):Prop:=∀x∈s,0<=x/\x<(l.length:Int)
def Aq1 {l:List Rule}{s:List Int}(A:InR l s)(D:s.length<=100000):An (K8 s l) λr=>r.length=s.length:=by unfold K8;refine An.bind (p:=λ(r:List Span)=>r.length=s.length) ((Cp (λk (r:List Span)=>r.length=k) s 0 [] (λj a r z hr=>?_) rfl).mono λr hr=>by simpa using hr) λr hr=>.ok hr;have G:j<s.length:=(BZ.1 z).1;obtain⟨h1,h2⟩:=A a (AH z);unfold Z2;refine An.idx h1 h2 λy _=>An.need (Dt (by simp only[AC];omega)) (.ok ?_);show(r++[y.Hours]).length=_;rw[AG,AC];omega
def Bg9 {l:List Rule}{s:List Int}(S:InR l s)(U:s.length<=1000):An (Aan l s) T1:=by
 unfold Aan;refine(Aq1 S (by omega)).bind λr hr=>(Ba6 [] r (by simp)).bind λmany hm=>An.ite (λ_=>.ok trivial) λh0=>?_;refine An.bind (p:=T1) (Fx (λt=>many.toNat-t.2.length) (λt=>t.1.length<=1000/\InR l t.1/\InR l t.2/\(t.2.length:Int)<=many) T1 (λt ht=>?_) many.toNat (s,[]) (by simp) ⟨U,S,(λx G=>absurd G (by simp)),by simp only[CW];omega⟩) λ_ _=>.ok trivial;obtain⟨s2,set⟩:=t;obtain⟨t1,O,V,t4⟩:=ht;simp only at t1 O V t4;simp only[Ct];unfold Vh;refine An.ite (λaa=>?_) λ_=>.ok trivial;refine An.alt (I:=T1) (J:=λ(e:List Int×List Int)=>e.1.length<=1000/\InR l e.1/\InR l e.2/\e.2.length=set.length+1) ((Lu (λ_ (v:List Int×List Int)=>v=(s2,set)) (λ(e:List Int×List Int)=>e.1.length<=1000/\InR l e.1/\InR l e.2/\e.2.length=set.length+1) s2 0 (s2,set) (λj a v G hv=>?_) rfl).mono λr hr=>by
   cases r with
   |inl v=>trivial
   |inr e=>exact hr) (λv _=>.ok trivial) λe he=>?_
 .subst hv;have hj:j<s2.length:=(BZ.1 G).1;simp only[Ct,AE];unfold Aen Rl;rw[if_pos (Dt (by omega))];simp only[R.ok_bind];have hw:wrap .i64 ((j:Int)+1)=((j+1:Nat):Int):=by rw[Ok (by omega) (by omega)];omega
  have A:InR l (set++[a]):=λx D=>by
   rcases BG.1 D with h|h
   .exact V x h
   .rw[AM.1 h];exact O a (AH G)
  have z:InR l (s2.drop (Int.toNat (wrap .i64 ((j:Int)+1)))):=λx D=>O x (CK D);have hdl:(s2.drop (Int.toNat (wrap .i64 ((j:Int)+1)))).length<=1000:=by rw[BF];omega
  refine An.need (Dt (by simp only[AC];omega)) (An.need (by rw[hw];omega) ?_);refine(Aq1 A (by rw[AG,AC];omega)).bind λr2 h2=>(Aq1 z (by omega)).bind λr3 h3=>?_;refine(Ba6 r2 r3 (by rw[h2,AG,AC];omega)).bind λn U=>?_;refine An.ite (λ_=>An.need (by rw[hw];omega) (.ok ⟨hdl,z,A,by rw[AG,AC]⟩)) λ_=>.ok rfl
 .obtain⟨s4,W⟩:=e;obtain⟨X,Y,Z,e4⟩:=he;simp only at X Y Z e4;simp only[Ct];unfold Zi;refine .ok ⟨⟨X,Y,Z,by simp only;omega⟩,by simp only;omega⟩
def A9o (a:Int):Ss a=.ok false:=by unfold Ss;simp
def A0s (a b:Int):An (Ly a b) T1:=by unfold Ly;rw[A9o,A9o];simp only[R.ok_bind];exact An.ite (λh=>by cases h) λ_=>An.ite (λh=>by cases h) λ_=>An.ite (λ_=>.ok trivial) λ_=>An.ite (λ_=>.ok trivial) λ_=>.ok trivial
def Bac (s t:List Int):An (Lb s t) T1:=by unfold Lb;refine An.alt (I:=T1) (J:=T1) ((Lu (λ_ _=>True) T1 s 0 () (λj a u z _=>?_) trivial).mono λr hr=>by cases r<;>trivial) (λ_ _=>An.ite (λ_=>.ok trivial) λ_=>.ok trivial) λ_ _=>.ok trivial;unfold U6;refine An.ite (λ_=>.ok trivial) λh=>An.idx (by omega) (by omega) λa1 _=>(A0s _ _).bind λc _=>An.ite (λ_=>.ok trivial) λ_=>.ok trivial
def Box (l:List Int):An (Y8 l) T1:=by unfold Y8;refine An.alt (I:=T1) (J:=T1) ((Lu (λ_ _=>True) T1 l 0 () (λj a u z _=>?_) trivial).mono λr hr=>by cases r<;>trivial) (λ_ _=>.ok trivial) λ_ _=>.ok trivial;unfold Ag8;exact An.ite (λ_=>.ok trivial) λ_=>.ok trivial
def Bkg (set s:List Int):An (Qg set s) T1:=by
 unfold Qg;have z:∀b,An (G7 set s b) T1:=λb=>by unfold G7;exact An.ite (λ_=>.ok trivial) λ_=>.ok trivial
 exact An.ite (λ_=>An.ite (λ_=>z _) λ_=>(A0s _ _).bind λ_ _=>(Bac _ _).bind λ_ _=>(Box _).bind λ_ _=>z _) λ_=>z _
def Big (set:List Int):An (P2 set) T1:=by
 unfold P2;have z:∀b,An (G5 set b) T1:=λb=>by unfold G5;exact An.ite (λ_=>.ok trivial) λ_=>.ok trivial
 exact An.ite (λ_=>An.ite (λ_=>z _) λh=>absurd rfl h) λ_=>z _
def Bch (a b:Rule):An (Wl a b) T1:=by unfold Wl;exact An.ite (λ_=>.ok trivial) λ_=>An.ite (λ_=>.ok trivial) λ_=>.ok trivial
def Blb (a:Airspace)(x y:Int)(z:0<=x/\x<(a.Rules.length:Int))(A:0<=y/\y<(a.Rules.length:Int)):An (Tj a x y) T1:=by unfold Tj;exact An.idx z.1 z.2 λp _=>An.idx A.1 A.2 λq _=>(Bch _ _).bind λb _=>An.ite (λ_=>(Big _).bind λ_ _=>.ok trivial) λ_=>.ok trivial
def Biq(b:Nat)(D:b<=1048576)(F:Int->Int->Unit->R (Unit ⊕ ε))(A:∀x y,0<=x/\x<(b:Int)->0<=y/\y<(b:Int)->An (F x y ()) T1):An (Q8 (b:Int) F ()) T1:=by
 unfold Q8;refine An.bind (p:=T1) (Fx (λs=>b-s.1.toNat) (λs=>∃m:Nat,s.1=(m:Int)) T1 (λs z=>?_) b _ (Nat.sub_le _ _) ⟨0,rfl⟩) λr _=>by
  cases r with
  |inl s=>exact .ok trivial
  |inr e=>exact .ok trivial
 obtain⟨x,u⟩:=s;obtain⟨m,rfl⟩:=z;simp only[Ct];unfold Qh;refine An.ite (λG=>?_) λ_=>.ok trivial;have hw:∀n:Nat,n<b->wrap .i64 ((n:Int)+1)=((n+1:Nat):Int):=λn O=>by rw[Ok (by omega) (by omega)];omega
 rw[hw m (by omega)];refine An.bind (p:=T1) (Fx (λs=>b-s.1.toNat) (λs=>∃m:Nat,s.1=(m:Int)) T1 (λs z=>?_) b _ (Nat.sub_le _ _) ⟨m+1,rfl⟩) λr _=>?_
 .obtain⟨y,v⟩:=s;obtain⟨q,rfl⟩:=z;simp only[Ct];unfold Qb;refine An.ite (λS=>?_) λ_=>.ok trivial;refine(A (m:Int) (q:Int) ⟨by omega,by omega⟩ ⟨by omega,by omega⟩).bind λr _=>?_;cases r with
  |inl s=>exact .ok ⟨⟨q+1,hw q (by omega)⟩,by simp only[hw q (by omega),BI];omega⟩
  |inr e=>exact .ok trivial
 .cases r with
  |inl s=>simp only[alt];unfold Qi;exact .ok ⟨⟨m+1,hw m (by omega)⟩,by simp only[hw m (by omega),BI];omega⟩
  |inr e=>exact .ok trivial
def Be1 (a:Airspace):An (Xz a) T1:=by
 unfold Xz;refine(Apq a).bind λe O=>An.ite (λ_=>.ok trivial) λh=>?_;have D:=O (by simpa using h);unfold Wy;simp only[R.ok_bind];have G:∀o,An (O9 a o) T1:=λo=>by
  unfold O9;refine An.bind (p:=T1) (Cp (λ_ _=>True) a.Classes 0 o (λj c S _ _=>?_) trivial) λ_ _=>.ok trivial;unfold Ack;refine An.bind (p:=T1) (Cp (λ_ _=>True) a.Airports 0 S (λY c1 Z _ _=>?_) trivial) λ_ _=>.ok trivial;unfold Ada;refine An.bind (p:=λ(s:List Int)=>InR a.Rules s/\s.length<=1000) ((Cp (λk (s:List Int)=>InR a.Rules s/\s.length<=k) a.Rules 0 [] (λU a7 s A z=>?_) ⟨(λx A=>absurd A (by simp)),AF _⟩).mono λs z=>⟨z.1,by have:=z.2;omega⟩) λs z=>(Bg9 z.1 z.2).bind λr3 _=>(Bkg _ _).bind λ_ _=>.ok trivial;have V:U<a.Rules.length:=(BZ.1 A).1;have W:=z.2;unfold Acw;refine An.ite (λ_=>An.need (Dt (by simp only[AC];omega)) (.ok ⟨λx A=>?_,?_⟩)) λ_=>.ok ⟨z.1,by omega⟩
  .rcases BG.1 A with h|h
   .exact z.1 x h
   .rw[AM.1 h];omega
  .rw[AG,AC];omega
 refine An.bind (p:=T1) (Biq a.Rules.length (by omega) _ λx y A X=>An.np (Blb a x y A X)) λr _=>?_;cases r with
 |inl u=>exact G _
 |inr o=>exact G _
def full (l:List Span):Prop:=∀i,i<1440->Xk l i=true
variable{i:Nat}
def Ud{l:List Span}:Xk l i=true↔∃s∈l,inS s i=true:=by unfold Xk;exact FU
def A2w{s:Span}:inS s i=true↔s.From<=(i:Int)/\(i:Int)<s.To:=by unfold inS;simp
def App{l r:List Span}:Xk (l++r) i=true↔Xk l i=true\/Xk r i=true:=by unfold Xk;simp
def Bdf:¬full []:=λh=>by have:=h 0 (by omega);cases this
def Bmf(h:i<1440):Xk [({From:=0,To:=1440}:Span)] i=true:=Ud.2 ⟨_,AM.2 rfl,A2w.2 ⟨by simp only;omega,by simp only;omega⟩⟩
def Brh {l:List Span}(h:Zr [({From:=0,To:=1440}:Span)] l=[]):full l:=λi hi=>by
 have:=Bio [({From:=0,To:=1440}:Span)] l i;rw[h,Bmf hi,DW hi]at this;cases z:Xk l i with
 |true=>rfl
 |false=>rw[z,show Xk [] i=false from rfl]at this;exact absurd this (by decide)
def Bmo:∀(l:List Bool) (k f:Nat),∃t rest,Hs k l (some f)=sp f t::rest
 |[],k,f=>⟨k,[],rfl⟩
 |true::l,k,f=>Bmo l (k+1) f
 |false::l,k,f=>⟨k,Hs (k+1) l none,rfl⟩
def Bk9:∀(l:List Bool) (k:Nat) (s:Span) (rest:List Span),Hs k l none=s::rest->∀i:Nat,k<=i->(i:Int)<s.From->l[i-k]?=some false
 |[],k,s,rest,h,i,_,_=>by cases h
 |true::l,k,s,rest,h,i,hk,hi=>by obtain⟨t,r2,e⟩:=Bmo l (k+1) k;have h:Hs (k+1) l (some k)=s::rest:=h;rw[e]at h;injection h with h _;subst h;simp only[sp]at hi;omega
 |false::l,k,s,rest,h,i,hk,hi=>by
  rcases Nat.eq_or_lt_of_le hk with rfl|z
  .simp
  .have:=Bk9 l (k+1) s rest h i z hi;rw[show i-k=i-(k+1)+1 by omega];simpa using this
def Bpw{l:List Span}{r:Span}(h:Zr [({From:=0,To:=1440}:Span)] l=r::rest):∃f:Nat,r.From=(f:Int)/\f<1440/\Xk l f=false/\∀i,i<f->Xk l i=true:=by
 obtain⟨f,h1,h2,A⟩:=Bih h;refine⟨f,h1,h2,A,λi hi=>?_⟩;have:=Bk9 _ 0 r rest h i (DA _) (by omega);have z:i<1440:=by omega
 simp only[GP,CJ,FD z,AQ,AX,Bmf z,FW,Bool.not_eq_false']at this;exact this
def Bri{s:List Span}{r:Span}{f:Nat}(hf:r.From=(f:Int)):An (A5 (λ_ a=>Ct λX D=>Ahh (r::rest) a X D) 0 s (0,0)) λv=>
  (v=(0,0)\/∃x∈s,v=(x.From,x.To)/\x.From<=(f:Int)/\(f:Int)<x.To)/\∀x∈s,x.From<=(f:Int)->(f:Int)<x.To->x.To<=v.2:=by
 refine(Cp (λk (v:Int×Int)=>(v=(0,0)\/∃x∈s,v=(x.From,x.To)/\x.From<=(f:Int)/\(f:Int)<x.To)/\∀(i:Nat) x,i<k->s[i]?=some x->x.From<=(f:Int)->(f:Int)<x.To->x.To<=v.2) s 0 (0,0) (λj a v G S=>?_) ⟨.inl rfl,λi x hi=>absurd hi (DN _)⟩).mono λv S=>⟨S.1,λx G=>by obtain⟨j,Y⟩:=DI.1 G;exact S.2 j x (by have:=A6 Y;omega) Y⟩
 obtain⟨X,D⟩:=v
 obtain⟨h1,h2⟩:=S
 simp only[AE]at h2 ⊢
 simp only[Ct]
 unfold Ahh
 rw[Bpo]
 simp only[R.ok_bind]
 have A:¬(a.From<=(f:Int)/\a.To>(if D>(f:Int)then D else(f:Int)))->(∀(i:Nat) x,i<j+1->s[i]?=some x->x.From<=(f:Int)->(f:Int)<x.To->x.To<=D):=λZ i x hi z U V=>by
  rcases CI i j with h'|h'
  .exact h2 i x h' z U V
  .have:i=j:=by omega
   subst this
   rw[G]at z;cases z
   have W:¬a.To>(if D>(f:Int)then D else(f:Int)):=λh=>Z ⟨U,h⟩
   split at W<;>omega
 refine An.ite (λg1=>?_) λg1=>by unfold Sp;simp only[BB]at g1;exact An.ite (λh=>by cases h) λ_=>.ok ⟨h1,A λh=>g1 (by rw[hf];exact h.1)⟩
 simp only[BB]at g1
 rw[hf]at g1
 unfold Sp
 refine An.ite (λO=>.ok ?_) λO=>.ok ⟨h1,A λh=>O (by rw[hf];exact DW h.2)⟩
 simp only[BB]at O
 rw[hf]at O
 have hT:(f:Int)<a.To/\D<a.To\/((f:Int)<a.To/\D<=(f:Int)):=by split at O<;>omega
 refine⟨.inr ⟨a,AH G,rfl,g1,by omega⟩,λi x hi z U V=>?_⟩
 rcases CI i j with h'|h'
 .have:=h2 i x h' z U V;simp only at this ⊢;omega
 .have:i=j:=by omega
  subst this
  rw[G]at z;cases z
  exact EO _
def A1j (S s:List Span):Prop:=∀x∈S,x∈s
def Bml (c s:List Span)(hc:c.length<=100000):An (Zn c s) λn=>
  -1<=n/\n<=1440/\(0<=n->∃S,A1j S s/\(S.length:Int)=n/\full (c++S))/\∀S,A1j S s->full (c++S)->0<=n/\n<=(S.length:Int):=by
 unfold Zn P4
 rw[if_pos (Dt (by omega))]
 simp only[R.ok_bind]
 refine An.bind (p:=λn=> -1<=n/\n<=1440/\(0<=n->∃S,A1j S s/\(S.length:Int)=n/\full (c++S))/\∀S,A1j S s->full (c++S)->0<=n/\n<=(S.length:Int)) (Fx (λs=>unc s.2) (λt=>∃P:List Span,t.1=(P.length:Int)/\t.2=c++P/\A1j P s/\P.length+unc t.2<=1440/\t.2.length+unc t.2<=200000/\∀S,A1j S s->full (c++S)->∃G,A1j G s/\full (t.2++G)/\P.length+G.length<=S.length) _ (λt ht=>?_) 1440 _ (Bbp _) ⟨[],rfl,by simp,(λx U=>absurd U (by simp)),by simp only[CW];have:=Bbp c;omega,by simp only;have:=Bbp c;omega,λS h1 h2=>⟨S,h1,h2,by simp⟩⟩) λn hn=>.ok hn
 obtain⟨n,l1⟩:=t
 obtain⟨P,rfl,W,hP,hm,hl,hS⟩:=ht
 simp only[Ct]
 simp only at hm hl W hS
 subst W
 unfold W0
 rw[Az7]
 simp only[R.ok_bind]
 cases O:Zr [({From:=0,To:=1440}:Span)] (c++P)with
 |nil=>simp only[CW];refine An.need rfl (.ok ⟨by omega,by omega,λ_=>⟨P,hP,rfl,Brh O⟩,λS h1 h2=>?_⟩);obtain⟨G,_,_,h3⟩:=hS S h1 h2;exact⟨by omega,by omega⟩
 |cons r rest=>
  obtain⟨f,aa,X,Y,ab⟩:=Bpw O;refine An.ite (λh=>absurd h (by simp;omega)) λ_=>?_;refine(Bri aa).bind λv hv=>?_;obtain⟨vF,vT⟩:=v;obtain⟨D,Z⟩:=hv;simp only at Z;have U:∀G,A1j G s->full (c++P++G)->∃x∈G,x.From<=(f:Int)/\(f:Int)<x.To/\x.To<=vT:=λG h1 h2=>by
   rcases App.1 (h2 f X)with h|h
   .rw[Y]at h;cases h
   .obtain⟨x,U,hi⟩:=Ud.1 h;obtain⟨q1,q2⟩:=A2w.1 hi;exact⟨x,U,q1,q2,Z x (h1 x U) q1 q2⟩
  simp only[Ct];refine An.ite (λh0=>.ok ⟨by omega,by omega,λh=>absurd h (by decide),λS h1 h2=>?_⟩) λh0=>?_
  .simp only[CX]at h0;obtain⟨G,g1,g2,_⟩:=hS S h1 h2;obtain⟨x,_,_,q2,q3⟩:=U G g1 g2;omega
  .simp only[CX]at h0;rcases D with D|⟨y,hy,D,ac,ad⟩
   .injection D with _ D;exact absurd D h0
   injection D with e1 e2;subst e1 e2;have ae:unc (c++P++[y])<unc (c++P):=Bo8 X Y (A2w.2 ⟨ac,ad⟩);refine An.need (Dt (by simp only[AC];omega)) (.ok ⟨⟨P++[y],?_,by simp,λx U=>?_,?_,?_,λS h1 h2=>?_⟩,ae⟩)
   .simp only[AG,AC];rw[Ok (by omega) (by omega)];omega
   .rcases BG.1 U with h|h
    .exact hP x h
    .rw[AM.1 h];exact hy
   .show(P++[y]).length+unc (c++P++[y])<=1440;simp only[AG,AC];omega
   .show(c++P++[y]).length+unc (c++P++[y])<=200000;simp only[AG,AC]at hl ⊢;omega
   .obtain⟨G,g1,g2,g3⟩:=hS S h1 h2;obtain⟨x,af,q1,q2,q3⟩:=U G g1 g2;obtain⟨A,B,rfl⟩:=List.append_of_mem af;refine⟨A++B,λz hz=>g1 z (by rcases BG.1 hz with h|h<;>simp[h]),λi hi=>?_,?_⟩
    .by_cases hc:Xk (c++P) i=true
     .exact App.2 (.inl (App.2 (.inl hc)))
     .rcases App.1 (g2 i hi)with h|h
      .exact absurd h hc
      .have ag:f<=i:=by
        rcases CI i f with h'|h'
        .exact absurd (ab i h') hc
        .exact h'
       obtain⟨z,hz,V⟩:=Ud.1 h
       obtain⟨z1,z2⟩:=A2w.1 V
       rcases BG.1 hz with h|h
       .exact App.2 (.inr (Ud.2 ⟨z,by simp[h],V⟩))
       .rcases AN.1 h with h|h
        .subst h;exact App.2 (.inl (App.2 (.inr (Ud.2 ⟨_,AM.2 rfl,A2w.2 ⟨by simp only;omega,by simp only;omega⟩⟩))))
        .exact App.2 (.inr (Ud.2 ⟨z,by simp[h],V⟩))
    .simp only[AG,BV,AC,CW]at g3 ⊢;omega
def Bhp (a:Span):∀S:List Span,∃A:List Span,(∀x∈A,x∈S/\x≠a)/\(∀x∈S,x=a\/x∈A)/\A.length<=S.length/\(a∈S->A.length<S.length)
 |[]=>⟨[],λx z=>(by cases z),λx z=>(by cases z),AF _,λh=>(by cases h)⟩
 |b::S=>by
  obtain⟨A,h1,h2,G,D⟩:=Bhp a S;by_cases e:b=a
  .subst e;exact⟨A,λx z=>⟨BC _ (h1 x z).1,(h1 x z).2⟩,λx z=>(AN.1 z).elim .inl (h2 x),by simp only[BV];omega,λ_=>by simp only[BV];omega⟩
  .refine⟨b::A,λx z=>?_,λx z=>?_,by simp only[BV];omega,λh=>?_⟩
   .rcases AN.1 z with rfl|z
    .exact⟨BE,e⟩
    .exact⟨BC _ (h1 x z).1,(h1 x z).2⟩
   .rcases AN.1 z with rfl|z
    .exact .inr BE
    .exact(h2 x z).imp id (BC _)
   .rcases AN.1 h with h|h
    .exact absurd h.symm e
    .have:=D h;simp only[BV];omega
def pick:∀(r S:List Span),A1j S r->S≠[]->∃(j:Nat) (a:Span) (z:List Span),r[j]?=some a/\A1j z (r.drop (j+1))/\z.length+1<=S.length/\∀x∈S,x=a\/x∈z
 |[],S,h,A=>by
  cases S with
  |nil=>exact absurd rfl A
  |cons x S=>exact absurd (h x (by simp)) (by simp)
 |a::r,S,h,A=>by
  by_cases O:a∈S
  .obtain⟨z,h1,h2,U,G⟩:=Bhp a S;refine⟨0,a,z,rfl,λx D=>?_,G O,h2⟩;obtain⟨g1,V⟩:=h1 x D;rcases AN.1 (h x g1)with h|h
   .exact absurd h V
   .simpa using h
  .obtain⟨j,b,z,h1,h2,U,G⟩:=pick r S (λx D=>by
    rcases AN.1 (h x D)with e|e
    .exact absurd (e▸D) O
    .exact e) A
   exact⟨j+1,b,z,by simpa using h1,by simpa using h2,U,G⟩
def Aea (l:List Rule)(i:Int):Span:=((l[i.toNat]?).map (·.Hours)).getD {From:=0,To:=0}
def A0h {l:List Rule}{s:List Int}(A:InR l s)(O:s.length<=100000):K8 s l=.ok (s.map (Aea l)):=by unfold K8;have:An (A5 (λ_ a=>λD=>Z2 l a D) 0 s []) λr=>r=(s.take (0+s.length)).map (Aea l):=Cp (λk (r:List Span)=>r=(s.take k).map (Aea l)) s 0 [] (λj a r z hr=>by have S:=A6 z;obtain⟨h1,h2⟩:=A a (AH z);rw[AE]at hr ⊢;unfold Z2;refine An.idx h1 h2 λy G=>An.need (Dt (by rw[hr];simp only[AL,BS,AC];omega)) (.ok ?_);rw[hr,DB,z];simp only[Option.toList_some,FQ,BM,List.map_nil];congr 2;unfold Aea;rw[G];rfl) rfl;obtain⟨r,h,hr⟩:=this;rw[h,hr,AE,DE];rfl
def Bpy {l:List Rule}{s:List Int}(hs:InR l s)(hn:s.length<=1000):An (Aan l s) λset=>set≠[]↔full (s.map (Aea l)):=by
  unfold Aan;rw[A0h hs (by omega)];simp only[R.ok_bind];refine(Bml [] (s.map (Aea l)) (by simp)).bind λmany hm=>?_;obtain⟨m1,m2,m3,m4⟩:=hm;have W:full (s.map (Aea l))->0<=many:=λh=>(m4 _ (λx z=>z) h).1;refine An.ite (λh0=>.ok ⟨λh=>absurd rfl h,λh=>by have:=W h;omega⟩) λh0=>?_;obtain⟨S,X,af,A⟩:=m3 (by omega);have A:full S:=A;have U:full (s.map (Aea l)):=λi hi=>by obtain⟨x,z,G⟩:=Ud.1 (A i hi);exact Ud.2 ⟨x,X x z,G⟩
  have Y:S≠[]:=λe=>Bdf (e▸A);obtain⟨p,pa,S',p1,p2,p3,p4⟩:=pick _ S X Y;have aa:full ([pa]++S'):=λi hi=>by
    obtain⟨x,z,G⟩:=Ud.1 (A i hi);rcases p4 x z with h|h
    . exact Ud.2 ⟨x,by simp[h],G⟩
    . exact Ud.2 ⟨x,by simp[h],G⟩
  refine An.bind (p:=λset=>set≠[]) (Fx (λt=>many.toNat-t.2.length) (λt=>t.1.length<=1000/\InR l t.1/\InR l t.2/\(t.2.length:Int)<=many/\(t.2=[]->t.1=s)) (λset=>set≠[]) (λt ht=>?_) many.toNat (s,[]) (by simp) ⟨hn,hs,(λx z=>absurd z (by simp)),by simp only[CW];omega,λ_=>rfl⟩) λr hr=>.ok ⟨λ_=>U,λ_=>hr⟩;obtain⟨s2,set⟩:=t;obtain⟨t1,t2,t3,t4,t5⟩:=ht;simp only at t1 t2 t3 t4 t5;simp only[Ct];unfold Vh;refine An.ite (λag=>?_) λZ=>.ok λe=>?_
  . refine An.alt (I := λ(v : List Int × List Int) => v.2 ≠ []) (J := λ(e : List Int × List Int) => e.1.length <= 1000 /\ InR l e.1 /\ InR l e.2 /\ e.2.length = set.length + 1) ((Lu (λk (v : List Int × List Int) => v = (s2, set) /\ (set = [] -> k <= p)) (λ(e : List Int × List Int) => e.1.length <= 1000 /\ InR l e.1 /\ InR l e.2 /\ e.2.length = set.length + 1) s2 0 (s2, set) (λj a v z hv => ?_) ⟨rfl, λ_ => DA _⟩).mono λr hr => by
        cases r with
        |inl v=>
          refine λe=>?_
          have e:set=[]:=by rw[hr.1]at e;exact e
          have h1:=hr.2 e
          rw[t5 e]at h1
          have h2:=A6 p1
          rw[AL]at h2
          omega
        |inr e=>exact hr) (λv hv=>.ok hv) λe he=>?_
    . obtain⟨hv,hk⟩:=hv
      subst hv
      have hj:j<s2.length:=A6 z
      simp only[Ct,AE]at hk ⊢
      unfold Aen Rl
      rw[if_pos (Dt (by omega))]
      simp only[R.ok_bind]
      have hw:wrap .i64 ((j:Int)+1)=((j+1:Nat):Int):=by rw[Ok (by omega) (by omega)];omega
      have O:InR l (set++[a]):=λx V=>by
        rcases BG.1 V with h|h
        . exact t3 x h
        . rw[AM.1 h];exact t2 a (AH z)
      have D:InR l (s2.drop (j+1)):=λx V=>t2 x (CK V)
      have hdl:(s2.drop (j+1)).length<=1000:=by rw[BF];omega
      rw[hw]
      simp only[BI]
      refine An.need (Dt (by simp only[AC];omega)) (An.need (by omega) ?_)
      rw[A0h O (by rw[AG,AC];omega),A0h D (by omega)]
      simp only[R.ok_bind]
      refine(Bml _ _ (by rw[AL,AG,AC];omega)).bind λn hn=>?_
      obtain⟨n1,n2,n3,n4⟩:=hn
      refine An.ite (λ_=>An.need (by omega) (.ok ⟨hdl,D,O,by rw[AG,AC]⟩)) λab=>.ok ⟨rfl,λe=>?_⟩
      have ac:=hk e
      rcases Nat.eq_or_lt_of_le ac with rfl|h'
      . exfalso
        have ad:=t5 e
        subst e ad
        rw[CJ,z]at p1
        simp only[AQ,AX]at p1
        have:=n4 S' (λx z=>by rw[FM];exact p2 x z) (by simp only[CM,BM,List.map_nil,p1];exact aa)
        apply ab
        simp only[CM,AC,AK,BB]
        rw[Ok (by omega) (by omega)]
        exact⟨by omega,by omega⟩
      . omega
    . obtain⟨s4,ae⟩:=e
      obtain⟨e1,e2,e3,e4⟩:=he
      simp only at e1 e2 e3 e4
      simp only[Ct]
      unfold Zi
      refine .ok ⟨⟨e1,e2,e3,by simp only;omega,λe=>?_⟩,by simp only;omega⟩
      simp only at e
      rw[e]at e4;simp at e4
  . have hl:S.length=0:=by rw[e]at Z;simp only[CW]at Z;omega
    exact Y (BL hl)
def Bot (a:Span)(v:List Bool)(f:Nat->Bool)(D:v.length=1440)(hf:∀i,i<1440->v.getD i false=f i):∃v',Lx a v=.ok v'/\v'.length=1440/\∀i,i<1440->v'.getD i false=(f i||inS a i):=by
 unfold Lx;rw[Bmd];have U:hi a<=1440:=by unfold hi;split<;>omega
 have:=A5d (b:=Ct λm A=>Jo a m A) (hi:=hi a) (g:=λj (v:List Bool)=>v.set j true) (I:=λv=>v.length=1440) (λm s O _=>by simpa using O)
  (λm s O G=>by show Jo a m s=_;unfold Jo;have z:(m:Int)<(if 1440<a.To then 1440 else a.To):=G;rw[if_pos z,Azq (by omega),R.ok_bind,A63 (by omega)];simp)
  (λm s _ G=>by
   show Jo a m s=_;unfold Jo;have z:¬(m:Int)<(if 1440<a.To then 1440 else a.To):=by have:hi a<=(m:Int):=G;unfold hi at this;omega
   rw[if_neg z])
  _ (lo a) v D rfl
 rw[this];by_cases S:(hi a-(lo a:Int)).toNat=0
 .rw[S];refine⟨v,rfl,D,λi hi'=>?_⟩;rw[<-Bkt a i hi',S];have:(decide (lo a<=i)&&decide (i<lo a+0))=false:=by rw[Bool.eq_false_iff];simp
  rw[this];simpa using hf i hi'
 .obtain⟨k1,k2⟩:=Bas f (hi a-(lo a:Int)).toNat (lo a) v D (by omega) hf;exact⟨_,rfl,k1,λi hi'=>by rw[k2 i hi',Bkt a i hi']⟩
def Azr (l:List Span):Nm l=.ok ((List.range 1440).map (Xk l)):=by
 have key:∀(l:List Span) (k:Nat) (v:List Bool) (f:Nat->Bool),v.length=1440->(∀i,i<1440->v.getD i false=f i)->∃v',A5 (λ_ a=>λout=>Lx a out) k l v=.ok v'/\v'.length=1440/\∀i,i<1440->v'.getD i false=(f i||Xk l i):=by
  intro l;induction l with
  |nil=>intro k v f A hf;exact⟨v,rfl,A,λi hi=>by simpa[Xk]using hf i hi⟩
  |cons a l G=>intro k v f A hf;obtain⟨v',h1,z,h2⟩:=Bot a v f A hf;obtain⟨v2,O,D,S⟩:=G (k+1) v' _ z h2;refine⟨v2,by rw[Ic,h1,R.ok_bind,O],D,λi hi=>?_⟩;rw[S i hi];simp[Xk,Bool.or_assoc]
 unfold Nm;rw[if_pos (by refine⟨by omega,by omega,?_⟩;decide)];obtain⟨v,h1,z,h2⟩:=key l 0 (List.replicate (Int.toNat 1440) false) (λ_=>false) DO (λi hi=>Bex _ _);rw[h1];show R.ok v=_;rw[A0f (f:=Xk l) z (λi hi=>by rw[h2 i hi,Bool.false_or])]
def Aum (j:Nat)(out:List Span):J9 j false out=.ok out:=by simp[J9]
def A7v (j:Nat)(out:List Span)(S:j<1440)(O:out.length<=j)(h:∀s,out.getLast?=some s->s.To≠(j:Int)):J9 j true out=.ok (out++[sp j (j+1)]):=by
 unfold J9;rw[if_pos rfl,Blo (by omega)];have z:(out.length+[({From:=(j:Int),To:=((j+1:Nat):Int)}:Span)].length)*16<=Bj:=by simp[Bj];omega
 rcases List.eq_nil_or_concat out with rfl|⟨o,s,rfl⟩
 .simp[Bj,sp]
 .have A:((o.concat s).length:Int)=((o.length+1:Nat):Int):=by simp
  rw[A]
  have D:decide (((o.length+1:Nat):Int)>0)=true:=DW (by omega)
  have hw:wrap .i64 (((o.length+1:Nat):Int)-1)=(o.length:Int):=Bmz (by simp at O;omega)
  rw[D,if_pos rfl,hw]
  have hi:idx (o.concat s) (o.length:Int)=.ok s:=Zo (by simp)
  rw[hi]
  have G:(s.To==(j:Int))=false:=by simpa using h s (by simp)
  simp only[R.ok_bind,G,BD,if_false]
  rw[if_pos z]
  rfl
def A9j (j f:Nat)(o:List Span)(G:j<1440)(O:o.length<1440):J9 j true (o++[sp f j])=.ok (o++[sp f (j+1)]):=by
 unfold J9;rw[if_pos rfl,Blo (by omega)];have z:((o++[sp f j]).length:Int)=((o.length+1:Nat):Int):=by simp
 rw[z];have A:decide (((o.length+1:Nat):Int)>0)=true:=DW (by omega);have hw:wrap .i64 (((o.length+1:Nat):Int)-1)=(o.length:Int):=Bmz (by omega);rw[A,if_pos rfl,hw];have hi:idx (o++[sp f j]) (o.length:Int)=.ok (sp f j):=Zo (by simp);rw[hi];have D:((sp f j).To==(j:Int))=true:=by simp[sp]
 simp only[R.ok_bind,D,if_true];congr 1;simp[sp]
def Awy:∀(l:List Bool) (k:Nat) (out:List Span),k+l.length<=1440->out.length<=k->
  ((∀s,out.getLast?=some s->s.To<(k:Int))->A5 (λj a=>λout=>J9 j a out) k l out=.ok (out++Hs k l none))/\
  (∀o f,out=o++[sp f k]->A5 (λj a=>λout=>J9 j a out) k l out=.ok (o++Hs k l (some f)))
 |[],k,out,_,_=>⟨λ_=>by simp[Anw,Hs],λo f h=>by simp[Anw,Hs,h]⟩
 |false::l,k,out,hk,A=>by
  have D:=Awy l (k+1) out (by simp at hk;omega) (by omega);refine⟨λh=>?_,λo f h=>?_⟩
  .rw[Ic,Aum,R.ok_bind,D.1 (λs z=>by have:=h s z;omega)];simp[Hs]
  .rw[Ic,Aum,R.ok_bind,D.1 (λs z=>by
    rw[h]at z
    have:s=sp f k:=by simpa using z.symm
    subst this;simp[sp];omega)]
   simp[Hs,h]
 |true::l,k,out,hk,A=>by
  simp only[BV]at hk;refine⟨λh=>?_,λo f h=>?_⟩
  .rw[Ic,A7v k out (by omega) A (λs z e=>by have:=h s z;omega),R.ok_bind,(Awy l (k+1) _ (by omega) (by simp;omega)).2 out k rfl];simp[Hs]
  .subst h;simp only[AG,AC]at A;rw[Ic,A9j k f o (by omega) (by omega),R.ok_bind,(Awy l (k+1) _ (by omega) (by simp;omega)).2 o f rfl];simp[Hs]
def Bhm (l:List Bool)(h:l.length<=1440):Xa l=.ok (Hs 0 l none):=by unfold Xa;rw[(Awy l 0 [] (by omega) (by simp)).1 (λs z=>by simp at z)];rfl
def Bh0 (a b:List Span):Acl a b=.ok (Hs 0 ((List.range 1440).map λi=>Xk a i&&!Xk b i) none):=by
 unfold Acl;rw[Azr,Azr,R.ok_bind,R.ok_bind];have key:∀(n m:Nat) (x:List Bool),m+n=1440->x.length=1440->(∀i,i<1440->x.getD i false=if i<m then(Xk a i&&!Xk b i)else Xk a i)->
   loop (Ct λm x=>Jj ((List.range 1440).map (Xk b)) m x) ((m:Int),x)=.ok ((List.range 1440).map λi=>Xk a i&&!Xk b i):=by
  intro n
  induction n with
  |zero=>
   intro m x G z D;obtain rfl:m=1440:=by omega
   rw[Ms];have e:(Ct λm x=>Jj ((List.range 1440).map (Xk b)) m x) (((1440:Nat):Int),x)=.ok (.inr x):=by show Jj _ _ _=_;unfold Jj;rw[if_neg (by rw[z];omega)]
   rw[e];show R.ok x=_;rw[A0f (f:=λi=>Xk a i&&!Xk b i) z (λi hi=>by rw[D i hi,if_pos hi])]
  |succ n O=>
   intro m x G z D;rw[Ms];have e:(Ct λm x=>Jj ((List.range 1440).map (Xk b)) m x) ((m:Int),x)=.ok (.inl (((m+1:Nat):Int),x.set m (Xk a m&&!Xk b m))):=by
    show Jj _ _ _=_;unfold Jj;rw[if_pos (by rw[z];omega)];have h1:idx x (m:Int)=.ok (Xk a m):=by have h2:=D m (by omega);rw[if_neg (by omega),CE,AA (by omega),BH]at h2;rw[Azq (by omega),h2]
    have S:idx ((List.range 1440).map (Xk b)) (m:Int)=.ok (Xk b m):=Zo (by rw[CJ,FD (by omega)];rfl);rw[h1,R.ok_bind,S,A63 (by omega)];cases Xk a m<;>simp
   rw[e];simp only[R.ok_bind];refine O (m+1) _ (by omega) (by simpa using z) λi hi=>?_;rw[Axs _ _ _ _ (by omega),D i hi];by_cases A:m=i
   .subst A;simp
   .rw[if_neg A];by_cases h1:i<m
    .rw[if_pos h1,if_pos (by omega)]
    .rw[if_neg h1,if_neg (by omega)]
 have:=key 1440 0 ((List.range 1440).map (Xk a)) rfl (by simp) (λi hi=>by rw[if_neg (by omega),CE,CJ,FD hi];rfl);rw[show(0:Int)=((0:Nat):Int)from rfl,this];show Ti _=_;unfold Ti;rw[Bhm _ (by simp)];rfl
def Bfq (a b:List Span):Acl a b=.ok (Zr a b):=Bh0 a b
def opn (s:Segment):List Span:=if s.Open.length=0 then[{From:=0,To:=1440}]else s.Open
def Aat (a:Airspace)(n:Int):Option (Segment×Volume):=
 if 0<=n then(match a.Segments[n.toNat]? with
  |none=>none
  |some s=>if 0<=s.Volume then(match a.Volumes[s.Volume.toNat]? with|none=>none|some v=>some (s,v))else none)else none
def A01 (p:Segment×Volume):List Span:=Zr (opn p.1) p.2.Closed
def Afv (a:Airspace)(n:Int):Option (List Span):=(Aat a n).map A01
def Pw:Option (List α)->List α×Int
 |some l=>(l,0)
 |none=>([],1)
def unk:PV:=⟨271,.unit⟩
def Axc(F:R α)(els:PV->R α):(R.pan unk).catch' (Kw 271 F els)=F:=Yh
def Um{l:List α}{n:Int}{x:α}(h0:0<=n)(h:l[n.toNat]?=some x):idx l n=.ok x:=by unfold idx;rw[if_pos h0,h]
def Aqu{l:List α}{n:Int}(h:(l.length:Int)<=n):l[n.toNat]?=none:=BA (by omega)
def Ajn{l:List α}{n:Int}(h0:0<=n)(h:n<(l.length:Int)):∃x,l[n.toNat]?=some x:=⟨_,AA (by omega)⟩
variable{a:Airspace}
def A4e{n:Int}(h:n<0):Aat a n=none:=by unfold Aat;rw[if_neg (by omega)]
def A50{n:Int}(h0:0<=n)(h:(a.Segments.length:Int)<=n):Aat a n=none:=by unfold Aat;rw[if_pos h0,Aqu h]
def A8w{n:Int}{s:Segment}(h0:0<=n)(z:a.Segments[n.toNat]?=some s):Aat a n=if 0<=s.Volume then(match a.Volumes[s.Volume.toNat]? with|none=>none|some v=>some (s,v))else none:=by unfold Aat;rw[if_pos h0,z]
def Ap4{n:Int}{p:Segment×Volume}(h:Aat a n=some p):0<=n/\a.Segments[n.toNat]?=some p.1/\0<=p.1.Volume/\a.Volumes[p.1.Volume.toNat]?=some p.2:=by
 unfold Aat at h;split at h
 .rename_i h0;split at h
  .cases h
  .rename_i s A;split at h
   .rename_i D;split at h
    .cases h
    .rename_i v z;cases h;exact⟨h0,A,D,z⟩
   .cases h
 .cases h
def Bhw (s:Segment):(if((s.Open.length:Int)==0)=true then([{From:=0,To:=1440}]:List Span)else s.Open)=opn s:=by
 unfold opn;by_cases h:s.Open.length=0
 .simp[h]
 .rw[if_neg h,if_neg (by simpa using h)]
def Bo7 (a:Airspace)(s:Segment)(l:List Span)(v:Volume)(h0:0<=s.Volume)(z:a.Volumes[s.Volume.toNat]?=some v):Lg a s l=.ok (Zr l v.Closed):=by unfold Lg;rw[Um h0 z,R.ok_bind,Az7];rfl
def A2q (a:Airspace)(n:Int):Pd a n=match Afv a n with|some l=>.ok l|none=>.pan unk:=by
 unfold Pd Afv;by_cases h0:0<=n;case neg=>rw[A4e (by omega),if_pos (by simp;omega)];rfl
 by_cases h1:n<(a.Segments.length:Int);case neg=>rw[A50 h0 (by omega),if_pos (by simp;omega)];rfl
 obtain⟨s,z⟩:=Ajn h0 h1;rw[if_neg (by simp;omega),Um h0 z,R.ok_bind,A8w h0 z];by_cases h2:0<=s.Volume;case neg=>rw[if_pos (by simp;omega),if_neg h2];rfl
 by_cases D:s.Volume<(a.Volumes.length:Int);case neg=>rw[if_pos (by simp;omega),if_pos h2,Aqu (by omega)];rfl
 obtain⟨v,A⟩:=Ajn h2 D;rw[if_neg (by simp;omega),if_pos h2,A];simp only[AQ,A01];rw[<-Bhw];split<;>rw[Bo7 a s _ v h2 A]<;>simp_all
def Bgv (a:Airspace)(n:Int):Ah6 a n=.ok (Aat a n).isSome:=by
 unfold Ah6;by_cases h0:0<=n;case neg=>rw[A4e (by omega),if_neg (by simp;omega)];rfl
 rw[if_pos (by simpa using h0)];by_cases h1:n<(a.Segments.length:Int);case neg=>rw[A50 h0 (by omega),if_neg (by simp;omega)];rfl
 obtain⟨s,A⟩:=Ajn h0 h1;rw[if_pos (by simpa using h1),Um h0 A,R.ok_bind,A8w h0 A];by_cases h2:0<=s.Volume;case neg=>rw[if_neg (by simp;omega),if_neg h2];rfl
 rw[if_pos (by simpa using h2),if_pos h2];by_cases z:s.Volume<(a.Volumes.length:Int);case neg=>rw[Aqu (by omega),DZ z];rfl
 obtain⟨v,D⟩:=Ajn h2 z;rw[D,DW z];rfl
def Az8 (a:Airspace)(n:Int):Up a n=.ok (Pw (Afv a n)):=by
 unfold Up Afv;rw[Bgv,R.ok_bind];cases z:Aat a n with
 |none=>rfl
 |some p=>
  obtain⟨h0,h1,h2,A⟩:=Ap4 z;simp only[Option.isSome_some,if_true];rw[Um h0 h1,R.ok_bind];have D:∀l,Oj a p.1 l=.ok (Zr l p.2.Closed,0):=λl=>by unfold Oj;rw[Um h2 A,R.ok_bind,Bfq];rfl
  simp only[AQ,A01,Pw];rw[<-Bhw];split<;>rw[D]<;>simp_all
def Aid (a:Airspace)(n:Int):Option Leg:=(Aat a n).map λp=>{Segment:=n,Volume:=p.1.Volume,Length:=p.1.Length,Minutes:=A01 p}
def Alw(f:α->Option β):List α->Option (List β)
 |[]=>some []
 |x::l=>match f x,Alw f l with
  |some y,some r=>some (y::r)
  |_,_=>none
def Wj (a:Airspace)(r:Int):Option (List Leg):=if 0<=r then(match a.Routes[r.toNat]? with|none=>none|some rt=>Alw (Aid a) rt.Segments)else none
variable{f:α→Option β}
def Ba2:∀{l:List α} {r:List β},Alw f l=some r->r.length=l.length
 |[],r,h=>by cases h;rfl
 |x::l,r,h=>by
  unfold Alw at h;split at h
  .rename_i y z A hr;cases h;simp[Ba2 hr]
  .cases h
def Bnw(a:Airspace)(b:Leg->σ->R σ)(n:Int)(s:σ):Im a b n s=match Aid a n with|some g=>b g s|none=>.pan unk:=by
 unfold Im;rw[A2q];unfold Afv Aid;cases z:Aat a n with
 |none=>rfl
 |some p=>obtain⟨h0,h1,h2,A⟩:=Ap4 z;simp only[AQ,R.ok_bind];rw[Um h0 h1,R.ok_bind,R.bind_ok]
def A4n(a:Airspace)(b:Leg->σ->R σ)(h:Leg->σ->σ)(I:σ->Nat->Prop)(z:∀g s n,I s (n+1)->I (h g s) n/\b g s=.ok (h g s)):∀(l:List Int) (k:Nat) (s:σ),I s l.length->
  A5 (λ_ a1=>λs=>Im a b a1 s) k l s=match Alw (Aid a) l with|some ls=>.ok (ls.foldl (λs g=>h g s) s)|none=>.pan unk
 |[],k,s,_=>rfl
 |n::l,k,s,A=>by
  rw[Ic,Bnw];unfold Alw;cases D:Aid a n with
  |none=>rfl
  |some g=>obtain⟨h1,h2⟩:=z g s l.length A;simp only[h2,R.ok_bind];rw[A4n a b h I z l (k+1) _ h1];cases Alw (Aid a) l<;>rfl
def A5s(a:Airspace)(r:Int)(b:Leg->σ->R σ)(h:Leg->σ->σ)(I:σ->Nat->Prop)(A:∀g s n,I s (n+1)->I (h g s) n/\b g s=.ok (h g s))(s:σ)(D:∀rt,a.Routes[r.toNat]?=some rt->I s rt.Segments.length):
  L6 r a b s=match Wj a r with|some ls=>.ok (ls.foldl (λs g=>h g s) s)|none=>.pan unk:=by
 unfold L6 Wj
 by_cases h0:0<=r
 case neg=>rw[if_pos (by simp;omega),if_neg h0];rfl
 rw[if_pos h0]
 by_cases h1:r<(a.Routes.length:Int)
 case neg=>rw[if_pos (by simp;omega),Aqu (by omega)];rfl
 obtain⟨rt,z⟩:=Ajn h0 h1
 rw[if_neg (by simp;omega),Um h0 z,R.ok_bind,z,A4n a b h I A _ 0 s (D rt z)]
 simp only
 cases Alw (Aid a) rt.Segments<;>rfl
structure OpSmall (a:Airspace):Prop where
 seg:a.Segments.length<=1048576
 vol:a.Volumes.length<=1048576
 rt:a.Routes.length<=1048576
 rs:∀r∈a.Routes,r.Segments.length<=1048576
def A2e:∀(l s:List α),l.foldl (λs g=>s++[g]) s=s++l
 |[],s=>by simp
 |a::l,s=>by rw[FY,A2e l];simp
def Bm9 (a:Airspace)(r:Int)(z:OpSmall a):Acm a r=.ok (Pw (Wj a r)):=by
 unfold Acm Ze;have:=A5s a r (λa1 A=>R.np ((λl=>Pf a1 l) A)) (λg s=>s++[g]) (λs n=>s.length+n<=1048576) (λg s n D=>by refine⟨by simp;omega,?_⟩;show R.np (Pf g s)=_;unfold Pf;rw[if_pos (by simp[Bj];omega)];rfl) [] (λrt h=>by have:=z.rs rt (AH h);simpa using this);simp only[N3,R.ok_bind,this];cases Wj a r with
 |some l=>show R.ok (l.foldl (λs g=>s++[g]) [],(0:Int))=R.ok (l,0);rw[A2e];rfl
 |none=>exact Axc _ _
def Aw2 (a:Airspace)(r:Int)(rt:Route)(h0:0<=r)(z:a.Routes[r.toNat]?=some rt)(A:rt.Segments.length<=1048576):∀(n k:Nat) (l:List Leg),k+n=rt.Segments.length->l.length=k->
  loop (Ct λi l=>Jq a r i l) ((k:Int),l)=.ok (match Alw (Aid a) (rt.Segments.drop k)with|some ls=>.inl (l++ls)|none=>.inr ([],1))
 |0,k,l,hk,G=>by
  rw[Ms];have e:(Ct λi l=>Jq a r i l) ((k:Int),l)=.ok (.inr (.inl l)):=by show Jq _ _ _ _=_;unfold Jq;rw[Um h0 z,R.ok_bind,if_neg (by omega)]
  rw[e,CV (by omega)];simp[Alw]
 |n+1,k,l,hk,G=>by
  rw[Ms];have D:k<rt.Segments.length:=by omega
  have e:(Ct λi l=>Jq a r i l) ((k:Int),l)=match Aid a rt.Segments[k]with|some g=>.ok (.inl (((k+1:Nat):Int),l++[g]))|none=>.ok (.inr (.inr ([],1))):=by
   show Jq _ _ _ _=_;unfold Jq;rw[Um h0 z,R.ok_bind,if_pos (by omega),Azq D,R.ok_bind,Az8,R.ok_bind];unfold Afv Aid;cases O:Aat a rt.Segments[k]with
   |none=>rfl
   |some p=>obtain⟨S,U,V,W⟩:=Ap4 O;show(if((0:Int)!=0)=true then _ else _)=_;rw[if_neg (by simp),Um S U,R.ok_bind,if_pos (by simp[Bj];omega),Ok (by omega) (by omega)];simp[Pw]
  rw[e,EG D];unfold Alw;cases X:Aid a rt.Segments[k]with
  |none=>rfl
  |some g=>simp only[R.ok_bind];rw[Aw2 a r rt h0 z A n (k+1) (l++[g]) (by omega) (by simp;omega)];cases Alw (Aid a) (rt.Segments.drop (k+1))<;>simp
def Blm (a:Airspace)(r:Int)(A:OpSmall a):Aeg a r=.ok (Pw (Wj a r)):=by
 unfold Aeg Wj;by_cases h0:0<=r;case neg=>rw[if_pos (by simp;omega),if_neg h0];rfl
 rw[if_pos h0];by_cases h1:r<(a.Routes.length:Int);case neg=>rw[if_pos (by simp;omega),Aqu (by omega)];rfl
 obtain⟨rt,z⟩:=Ajn h0 h1;rw[if_neg (by simp;omega),z];have:=Aw2 a r rt h0 z (A.rs rt (AH z)) rt.Segments.length 0 [] (by omega) rfl;rw[show(0:Int)=((0:Nat):Int)from rfl,this];simp only[DV,CM,R.ok_bind];cases Alw (Aid a) rt.Segments<;>rfl
def Abz (z:List Leg):Bool:=z.any λg=>(g.Minutes.length:Int)==0
def Ayr (a:Airspace):List Route->Nat->List Int->Option (List Int)
 |[],_,x=>some x
 |_::rs,k,x=>match Wj a (k:Int)with
  |none=>none
  |some z=>Ayr a rs (k+1) (if Abz z then x++[(k:Int)]else x)
def blk (a:Airspace):Option (List Int):=Ayr a a.Routes 0 []
def Bau (z:List Leg)(o:Bool):z.foldl (λs g=>s||((g.Minutes.length:Int)==0)) o=(o||Abz z):=by
 induction z generalizing o with
 |nil=>simp[Abz]
 |cons g z A=>rw[FY,A];simp[Abz,Bool.or_assoc]
variable{y:Int}
def A3j{b:Bool}{x:List Int}{k:Nat}(z:x.length<=k):(if b=true then x++[y]else x).length<=k+1:=by
 split
 .simp;omega
 .omega
def A49 (a:Airspace):∀(rs:List Route) (k:Nat) (x:List Int),x.length<=k->k+rs.length<=1048576->A5 (λj _=>λA=>O4 a j A) k rs x=match Ayr a rs k x with|some l=>.ok l|none=>.pan unk
 |[],k,x,_,_=>rfl
 |rt::rs,k,x,D,hk=>by
  simp only[BV]at hk;rw[Ic];unfold Ayr;have e:O4 a k x=match Wj a (k:Int)with|some z=>.ok (if Abz z then x++[(k:Int)]else x)|none=>.pan unk:=by
   unfold O4;have:=A5s a (k:Int) (λa2 G=>R.np ((λo=>Sz a2 o) G)) (λg s=>s||((g.Minutes.length:Int)==0)) (λ_ _=>True) (λg s n _=>⟨trivial,rfl⟩) false (λ_ _=>trivial);simp only[N3,R.ok_bind,this];cases Wj a (k:Int)with
   |none=>rfl
   |some z=>
    simp only[R.ok_bind];rw[Bau,Bool.false_or];cases Abz z
    .rfl
    .simp only[if_true];rw[if_pos (by simp[Bj];omega)]
  rw[e];cases O:Wj a (k:Int)with
  |none=>rfl
  |some z=>simp only[R.ok_bind];exact A49 a rs (k+1) _ (A3j D) (by omega)
def A2m (a:Airspace)(z:OpSmall a):Xs a=.ok (Pw (blk a)):=by
 unfold Xs Ur;rw[A49 a a.Routes 0 [] (by simp) (by have:=z.rt;omega)];show R.catch' (R.bind (match blk a with|some l=>.ok l|none=>.pan unk) _) _=_;cases blk a with
 |some l=>rfl
 |none=>exact Axc _ _
def A19 (a:Airspace)(A:OpSmall a):∀(rs:List Route) (k:Nat) (x:List Int),x.length<=k->k+rs.length<=1048576->each (λj _=>λl=>Lo a j l) k rs x=.ok (match Ayr a rs k x with|some l=>.inl l|none=>.inr ([],1))
 |[],k,x,_,_=>rfl
 |rt::rs,k,x,D,hk=>by
  simp only[BV]at hk;rw[Abg];unfold Ayr;have e:Lo a k x=match Wj a (k:Int)with|some z=>.ok (.inl (if Abz z then x++[(k:Int)]else x))|none=>.ok (.inr ([],1)):=by
   unfold Lo;rw[Blm a _ A,R.ok_bind];cases Wj a (k:Int)with
   |none=>rfl
   |some z=>
    show(if((0:Int)!=0)=true then _ else _)=_;rw[if_neg (by simp)];have hf:∀(z:List Leg) (i:Nat) (o:Bool),A5 (λ_ a2=>λblocked=>Ajm a2 blocked) i z o=.ok (z.foldl (λs g=>s||((g.Minutes.length:Int)==0)) o):=by
     intro z;induction z with
     |nil=>intro i o;rfl
     |cons g z G=>intro i o;rw[Ic];exact G (i+1) _
    rw[hf,R.ok_bind,Bau,Bool.false_or];show(if Abz z=true then _ else _)=R.ok (Sum.inl (if Abz z=true then _ else _));cases Abz z
    .rfl
    .simp only[if_true];rw[if_pos (by simp[Bj];omega)]
  rw[e];cases O:Wj a (k:Int)with
  |none=>rfl
  |some z=>simp only[R.ok_bind];exact A19 a A rs (k+1) _ (A3j D) (by omega)
def Bce (a:Airspace)(z:OpSmall a):Ab8 a=.ok (Pw (blk a)):=by unfold Ab8;rw[A19 a z a.Routes 0 [] (by simp) (by have:=z.rt;omega)];unfold blk;cases Ayr a a.Routes 0 []<;>rfl
def Uy (a:Airspace):List Segment->Nat->Option (List Int)
 |[],_=>some []
 |s::ss,k=>match Afv a (k:Int)with
  |none=>none
  |some l=>(Uy a ss (k+1)).map λr=>if(l.length:Int)>0 then s.Volume::r else r
def Ae6 (nv:Nat)(vs:List Int):List Int:=((List.range nv).filter λi=>vs.contains ((i:Nat):Int)).map λi=>((i:Nat):Int)
def A1e (a:Airspace):Option (List Int):=(Uy a a.Segments 0).map (Ae6 a.Volumes.length)
section
variable{V:Type}
def A51 (m:List (Int×V))(k:Int)(v:V):(G4 m k v).map (·.1)=if k∈m.map (·.1)then m.map (·.1)else m.map (·.1)++[k]:=by
 induction m with
 |nil=>simp[G4]
 |cons p m A=>
  rw[G4];by_cases h:p.1=k
  .rw[if_pos (by simpa using h)];subst h;simp
  .rw[if_neg (by simpa using h),BM,A];have:¬k=p.1:=λe=>h e.symm;by_cases z:k∈m.map (·.1)
   .rw[if_pos z,if_pos (by simp only[BM,AN];exact .inr z)];rfl
   .rw[if_neg z,if_neg (by simp only[BM,AN,not_or];exact⟨this,z⟩)];rfl
theorem A5y (v:V):∀(vs:List Int) (m:List (Int×V)),(m.map (·.1)).Nodup→((vs.foldl (λm x=>G4 m x v) m).map (·.1)).Nodup∧∀x,x∈(vs.foldl (λm x=>G4 m x v) m).map (·.1)↔x∈m.map (·.1)∨x∈vs
 |[],m,h=>⟨h,λx=>by simp⟩
 |y::vs,m,h=>by
  rw[FY];have h1:((G4 m y v).map (·.1)).Nodup:=by
   rw[A51];split
   ·exact h
   ·rename_i hy;exact DF.2 ⟨h,by simp,λa ha b hb=>by simp at hb;subst hb;exact λe=>hy (e▸ha)⟩
  obtain⟨k1,k2⟩:=A5y v vs (G4 m y v) h1;refine⟨k1,λx=>?_⟩;rw[k2 x,A51];split
  ·rename_i hy;simp only[AN];constructor
   ·rintro(h|h)
    ·exact .inl h
    ·exact .inr (.inr h)
   ·rintro(h|rfl|h)
    ·exact .inl h
    ·exact .inl hy
    ·exact .inr h
  ·rw[BG,AM,AN,or_assoc]
end
variable{nv:Nat}
def A4u{vs:List Int}{x:Int}:x∈Ae6 nv vs↔x∈vs/\0<=x/\x<(nv:Int):=by
 unfold Ae6;simp only[CC,GN,EM,DP];constructor
 .rintro⟨i,⟨h1,h2⟩,rfl⟩;exact⟨h2,by omega,by omega⟩
 .rintro⟨h1,h2,z⟩;exact⟨x.toNat,⟨by omega,by rwa[GV h2]⟩,GV h2⟩
def Ba9 (nv:Nat)(vs:List Int):(Ae6 nv vs).Pairwise (·<·):=by unfold Ae6;refine List.pairwise_map.2 ?_;refine(List.Pairwise.filter _ List.pairwise_lt_range).imp λh=>?_;omega
def Bci{vs:List Int}(O:nv<=1048576)(S:∀x∈vs,0<=x/\x<(nv:Int)):Za (vs.foldl (λm x=>G4 m x true) [])=.ok (Ae6 nv vs):=by
 obtain⟨h1,h2⟩:=A5y true vs [] (by simp);have A:=Ba9 nv vs;have D:(Ae6 nv vs).Nodup:=A.imp λh=>Int.ne_of_lt h;have z:((vs.foldl (λm x=>G4 m x true) []).map (·.1)).Perm (Ae6 nv vs):=by
  refine(List.perm_ext_iff_of_nodup h1 D).2 λx=>?_;rw[h2 x,A4u];constructor
  .rintro(h|h)
   .simp at h
   .exact⟨h,S x h⟩
  .rintro⟨h,_⟩;exact .inr h
 have G:(vs.foldl (λm x=>G4 m x true) []).length<=nv:=by have:=z.length_eq;rw[AL]at this;rw[this];unfold Ae6;rw[AL];exact CR (List.length_filter_le _ _) (by simp)
 unfold Za;rw[if_pos ⟨by omega,AJ.2 λp hp=>by
  have:p.1∈Ae6 nv vs:=z.mem_iff.1 (CC.2 ⟨p,hp,rfl⟩);obtain⟨_,W,X⟩:=A4u.1 this;simp only[Lit.wf,AK,BB];have U:IntKind.min .i64= -9223372036854775808:=by decide
  have V:IntKind.max .i64=9223372036854775807:=by decide
  rw[U,V];omega⟩]
 congr 1;rw[mergeSort_of_perm_i z];exact List.mergeSort_of_pairwise (A.imp λh=>by simpa using Int.le_of_lt h)
def A9k{k:Nat}{s:Segment}{l:List Span}(z:a.Segments[k]?=some s)(h:Afv a (k:Int)=some l):0<=s.Volume/\s.Volume<(a.Volumes.length:Int):=by
 unfold Afv at h;cases hp:Aat a (k:Int)with
 |none=>rw[hp]at h;cases h
 |some p=>obtain⟨h0,h1,h2,A⟩:=Ap4 hp;rw[BI,z]at h1;cases h1;have:=(BZ.1 A).1;exact⟨h2,by omega⟩
def A2i (a:Airspace):∀(ss:List Segment) (k:Nat) (m:List (Int×Bool)),A5 (λj a1=>λm=>S3 a j a1 m) k ss m=match Uy a ss k with|some vs=>.ok (vs.foldl (λm x=>G4 m x true) m)|none=>.pan unk
 |[],k,m=>rfl
 |s::ss,k,m=>by
  rw[Ic];unfold Uy;have e:S3 a k s m=match Afv a (k:Int)with|some l=>.ok (if(l.length:Int)>0 then G4 m s.Volume true else m)|none=>.pan unk:=by
   unfold S3;rw[A2q];cases Afv a (k:Int)with
   |none=>rfl
   |some l=>simp only[R.ok_bind];split<;>rfl
  rw[e];cases Afv a (k:Int)with
  |none=>rfl
  |some l=>
   simp only[R.ok_bind];rw[A2i a ss (k+1)];cases Uy a ss (k+1)with
   |none=>rfl
   |some vs=>simp only[AQ];split<;>rfl
def A28 (a:Airspace):∀(ss:List Segment) (k:Nat) (vs:List Int),(∀j s,ss[j]?=some s->a.Segments[k+j]?=some s)->Uy a ss k=some vs->(∀x∈vs,0<=x/\x<(a.Volumes.length:Int))/\
  (∀j s l,ss[j]?=some s->Afv a ((k+j:Nat):Int)=some l->(l.length:Int)>0->s.Volume∈vs)
 |[],k,vs,_,h=>by cases h;exact⟨λx A=>(by cases A),λj s l h=>by simp at h⟩
 |s::ss,k,vs,D,h=>by
  unfold Uy at h;split at h
  .cases h
  .rename_i l S;cases hr:Uy a ss (k+1)with
   |none=>rw[hr]at h;cases h
   |some r=>
    rw[hr]at h;simp only[AQ,AX]at h;obtain⟨U,W⟩:=A28 a ss (k+1) r (λj s h=>by have:=D (j+1) s (by simpa using h);rwa[show k+1+j=k+(j+1)by omega]) hr;have G:=D 0 s rfl;rw[CL]at G;have X:=A9k G S;refine⟨λx A=>?_,λj s' l' V O z=>?_⟩
    .subst h;split at A
     .rcases AN.1 A with rfl|A
      .exact X
      .exact U x A
     .exact U x A
    .subst h;cases j with
     |zero=>
      have:s=s':=by simpa using V
      subst this;rw[CL,S]at O;cases O;rw[if_pos z];exact BE ..
     |succ j=>
      have:=W j s' l' (by simpa using V) (by rwa[show k+1+j=k+(j+1)by omega]) z;split
      .exact BC _ this
      .exact this
def A0p (a:Airspace)(z:OpSmall a):Vz a=.ok (Pw (A1e a)):=by
 unfold Vz Tb A1e;rw[A2i];cases A:Uy a a.Segments 0 with
 |none=>exact Axc _ _
 |some vs=>have:=(A28 a a.Segments 0 vs (λj s h=>by simpa using h) A).1;simp only[R.ok_bind,maps_Keys_198,Zl,Bci z.vol this];rfl
def A0d (a:Airspace):∀(ss:List Segment) (k:Nat) (t:List Bool),(∀j s,ss[j]?=some s->a.Segments[k+j]?=some s)->t.length=a.Volumes.length->
  each (λj a1=>λD=>Kt a j a1 D) k ss t=.ok (match Uy a ss k with|some vs=>.inl (vs.foldl (λt x=>t.set x.toNat true) t)|none=>.inr ([],1))
 |[],k,t,_,_=>rfl
 |s::ss,k,t,z,ht=>by
  rw[Abg];unfold Uy;have A:=z 0 s rfl;rw[CL]at A;have e:Kt a k s t=match Afv a (k:Int)with|some l=>.ok (.inl (if(l.length:Int)>0 then t.set s.Volume.toNat true else t))|none=>.ok (.inr ([],1)):=by
   unfold Kt;rw[Az8];cases G:Afv a (k:Int)with
   |none=>rfl
   |some l=>
    obtain⟨O,v1⟩:=A9k A G;show(if((0:Int)!=0)=true then R.ok (Sum.inr ([],0))else(if(l.length:Int)>0 then(idx t s.Volume).bind (λa2=>R.ok (Sum.inl (t.set s.Volume.toNat true)))else R.ok (Sum.inl t)))=_;rw[if_neg (by simp)];show _=R.ok (Sum.inl (if(l.length:Int)>0 then _ else _));by_cases h:(l.length:Int)>0
    .rw[if_pos h,if_pos h];obtain⟨y,S⟩:=Ajn (l:=t) O (by rw[ht];exact v1);rw[Um O S];rfl
    .rw[if_neg h,if_neg h]
  rw[e];cases G:Afv a (k:Int)with
  |none=>rfl
  |some l=>
   simp only[R.ok_bind];rw[A0d a ss (k+1) _ (λj s h=>by have:=z (j+1) s (by simpa using h);rwa[show k+1+j=k+(j+1)by omega]) (by split<;>simp[ht])];cases Uy a ss (k+1)with
   |none=>rfl
   |some vs=>simp only[AQ];split<;>rfl
def Ba4:∀(vs:List Int) (t:List Bool) (n:Nat),t.length=n->(∀x∈vs,0<=x/\x<(n:Int))->(vs.foldl (λ(t:List Bool) (x:Int)=>t.set x.toNat true) t).length=n/\∀i,i<n->(vs.foldl (λ(t:List Bool) (x:Int)=>t.set x.toNat true) t).getD i false=(t.getD i false||vs.contains (i:Int))
 |[],t,n,ht,_=>⟨ht,λi hi=>by simp⟩
 |x::vs,t,n,ht,A=>by
  rw[FY];have G:=A x (BE ..);obtain⟨k1,k2⟩:=Ba4 vs (t.set x.toNat true) n (by simpa using ht) (λy D=>A y (BC _ D));refine⟨k1,λi hi=>?_⟩;rw[k2 i hi,Axs _ _ _ _ (by omega)];by_cases h:x.toNat=i
  .have z:x=(i:Int):=by omega
   subst z
   simp
  .rw[if_neg h];have:((i:Int)==x)=false:=by simp;omega
   rw[List.contains_cons,this,Bool.false_or]
def Aw0 (t:List Bool)(O:t.length<=1048576):∀(n k:Nat) (l:List Int),k+n=t.length->l.length<=k->loop (un3 λA z l=>Fc A z l) ((k:Int),t,l)=.ok (l++((List.range' k n).filter λi=>t.getD i false).map λi=>((i:Nat):Int))
 |0,k,l,hk,G=>by
  rw[Ms];have e:(un3 λA z l=>Fc A z l) ((k:Int),t,l)=.ok (.inr l):=by show Fc _ _ _=_;unfold Fc;rw[if_neg (by omega)]
  rw[e];simp
 |n+1,k,l,hk,G=>by
  rw[Ms];have D:k<t.length:=by omega
  have e:(un3 λA z l=>Fc A z l) ((k:Int),t,l)=.ok (.inl (((k+1:Nat):Int),t,if t.getD k false then l++[(k:Int)]else l)):=by
   show Fc _ _ _=_;unfold Fc;rw[if_pos (by omega),Azq D,R.ok_bind,Ok (by omega) (by omega)];have:t.getD k false=t[k]:=by rw[CE,AA D];rfl
   rw[this];cases t[k]
   .simp
   .simp only[if_true];rw[if_pos (by simp[Bj];omega)];simp
  rw[e];simp only[R.ok_bind];rw[Aw0 t O n (k+1) _ (by omega) (A3j G),FC,List.filter_cons];cases h:t.getD k false<;>simp
def A96 (a:Airspace)(D:OpSmall a):Zq a=.ok (Pw (A1e a)):=by
 unfold Zq A1e;rw[if_pos ⟨by omega,EO _,by have:=D.vol;simp[Bj];omega⟩,BI,A0d a a.Segments 0 _ (λj s h=>by simpa using h) (by simp)];cases G:Uy a a.Segments 0 with
 |none=>rfl
 |some vs=>have A:=(A28 a a.Segments 0 vs (λj s h=>by simpa using h) G).1;obtain⟨k1,k2⟩:=Ba4 vs (List.replicate a.Volumes.length false) a.Volumes.length (by simp) A;have:=Aw0 (vs.foldl (λ(t:List Bool) (x:Int)=>t.set x.toNat true) (List.replicate a.Volumes.length false)) (by have:=D.vol;omega) a.Volumes.length 0 [] (by omega) (by simp);show R.bind (loop (un3 λO z l=>Fc O z l) (((0:Nat):Int),_,[])) _=_;rw[this];simp only[R.ok_bind,CM,AQ,Pw,M4,Ae6];rw[<-List.range_eq_range'];congr 3;refine List.filter_congr λi hi=>?_;rw[k2 i (EM.1 hi),Bex,Bool.false_or]
def min2:Zr [{From:=0,To:=1440}] [{From:=0,To:=1440}]=[]:=by decide+kernel
@[irreducible] def NN:Nat:=1048576
def Xd:NN=1048576:=by unfold NN;rfl
def Mz{b:Nat->α->List β->R (List β)}{F:Nat->α->R β}{c:Nat}(p:β->Prop)(D:∀j a y,b j a y=(F j a).bind λr=>if(y.length+[r].length)*c<=Bj then .ok (y++[r])else .bad)(l:List α)(G:c<=1000)(S:l.length<=NN)(O:∀j,∀a∈l,An (F j a) p):An (A5 b 0 l []) λy=>y.length=l.length/\∀x∈y,p x:=by
 refine(Cp (λk (y:List β)=>y.length=k/\∀x∈y,p x) l 0 [] (λj a y z A=>?_) ⟨rfl,λx z=>absurd z (by simp)⟩).mono λy A=>⟨by rw[A.1,AE],A.2⟩;have U:j<l.length:=(BZ.1 z).1;rw[D];refine(O _ a (AH z)).bind λr hr=>An.need ?_ (.ok ⟨by rw[AG,AC,A.1],λx z=>?_⟩)
 .rw[A.1,AC];have h0:0+j+1<=1048576:=by have:=Xd;omega
  have h1:(0+j+1)*c<=1048576*1000:=Nat.mul_le_mul h0 G;have h2:(1048576*1000:Nat)=1048576000:=by rfl
  rw[h2]at h1;exact Dt (CR h1 (by omega))
 .rcases BG.1 z with h|h
  .exact A.2 x h
  .rw[AM.1 h];exact hr
def Bgo (a b:List Span):An (Ae5 a b) λr=>r.length<=1441:=by refine .ok ?_;have:=Abb ((List.range 1440).map λi=>Xk a i||Xk b i) 0 none;rwa[AL,EI]at this
def Beu (a:Airspace)(c p:Int):An (X6 a c p) λr=>r.1.length<=1441:=by
 unfold X6;refine(At6 a c).bind λe A=>An.ite (λ_=>.ok (DA _)) λh=>An.ite (λ_=>.ok (DA _)) λ_=>?_;have z:=A (by simpa using h);refine An.bind (p:=T1) ((Cp (λk (s:List Span)=>s.length<=k) a.Rules 0 [] (λj a1 s D G=>?_) (AF _)).mono λ_ _=>trivial) λl _=>?_
 .have O:j<a.Rules.length:=(BZ.1 D).1;unfold Acq;exact An.ite (λ_=>An.need (Dt (by simp only[AC];omega)) (.ok (by rw[AG,AC];omega))) λ_=>.ok (by omega)
 .unfold Ab5;rw[R.bind_assoc];exact(Bgo _ _).bind λr hr=>.ok hr
def Aw4 (a:Airspace)(c p:Int):List Span:=(a.Rules.filter λr=>((r.Kind==1)&&(r.Class==c))&&(r.Airport==p)).map (·.Hours)
def A4p (l:List Rule):Prop:=∀(x y:Nat) p q,x<y->l[x]?=some p->l[y]?=some q->Wl p q=.ok false
def Bpb (s t:List Int):An (Qg s t) λr=>r=[]↔s=[]/\t=[]:=by
 unfold Qg;have z:s≠[]->t≠[]->∀b,An (G7 s t b) λr=>r=[]↔s=[]/\t=[]:=λh1 h2 b=>by unfold G7;exact An.ite (λ_=>.ok ⟨λh=>absurd h h1,λh=>absurd h.1 h1⟩) λ_=>.ok ⟨λh=>absurd h h2,λh=>absurd h.1 h1⟩
 cases s with
 |nil=>exact An.ite (λh=>absurd h (by simp)) λ_=>by unfold G7;exact An.ite (λh=>by cases h) λ_=>.ok ⟨λh=>⟨rfl,h⟩,λh=>h.2⟩
 |cons x s=>
  refine An.ite (λ_=>?_) λh=>absurd (by simp<;>omega) h;cases t with
  |nil=>exact An.ite (λ_=>by unfold G7;exact An.ite (λ_=>.ok ⟨λh=>by(cases h),λh=>h.1⟩) λh=>absurd rfl h) λh=>absurd rfl h
  |cons y t=>refine An.ite (λh=>absurd h (by simp<;>omega)) λ_=>(A0s _ _).bind λ_ _=>(Bac _ _).bind λ_ _=>(Box _).bind λ_ _=>z (by simp) (by simp) _
def Bqf(b:Nat)(W:b<=1048576)(F:Int->Int->Unit->R (Unit ⊕ ε))(P:Nat->Nat->Prop)(Q:ε->Prop)(S:∀x y:Nat,x<b->y<b->x<y->An (F x y ()) (Sm (λ_=>P x y) Q)):
  An (Q8 (b:Int) F ()) (Sm (λ_=>∀x y:Nat,x<y->y<b->P x y) Q):=by
 unfold Q8
 refine An.bind (p:=Sm (λ_=>∀x y:Nat,x<y->y<b->P x y) (Sm (λ_=>False) Q)) (Fx (λs=>b-s.1.toNat) (λs=>∃m:Nat,s.1=(m:Int)/\∀x y:Nat,x<m->x<y->y<b->P x y) _ (λs A=>?_) b _ (Nat.sub_le _ _) ⟨0,rfl,λx y h=>absurd h (DN _)⟩) λr hr=>by
  cases r with
  |inl s=>exact .ok hr
  |inr e=>
   cases e with
   |inl s=>exact absurd hr id
   |inr e=>exact .ok hr
 obtain⟨x,u⟩:=s
 obtain⟨m,rfl,G⟩:=A
 simp only[Ct]
 unfold Qh
 have hw:∀n:Nat,n<b->wrap .i64 ((n:Int)+1)=((n+1:Nat):Int):=λn X=>by rw[Ok (by omega) (by omega)];omega
 refine An.ite (λU=>?_) λU=>.ok λx y h1 h2=>G x y (by omega) h1 h2
 rw[hw m (by omega)]
 refine An.bind (p:=Sm (λ_=>∀y:Nat,m<y->y<b->P m y) (Sm (λ_=>False) Q)) (Fx (λs=>b-s.1.toNat) (λs=>∃q:Nat,s.1=(q:Int)/\m<q/\∀y:Nat,m<y->y<q->y<b->P m y) _ (λs A=>?_) b _ (Nat.sub_le _ _) ⟨m+1,rfl,by omega,λy h1 h2=>by omega⟩) λr hr=>?_
 .obtain⟨y,v⟩:=s;obtain⟨q,rfl,D,O⟩:=A;simp only[Ct];unfold Qb;refine An.ite (λV=>?_) λV=>.ok λy h1 h2=>O y h1 (by omega) h2;refine(S m q (by omega) (by omega) D).bind λr hr=>?_;cases r with
  |inl s=>exact .ok ⟨⟨q+1,hw q (by omega),by omega,λy h1 h2 z=>by
    rcases CI y q with h'|h'
    .exact O y h1 h' z
    .have:y=q:=by omega
     subst this;exact hr⟩,by simp only[hw q (by omega),BI];omega⟩
  |inr e=>exact .ok hr
 .cases r with
  |inl s=>
   simp only[alt];unfold Qi;exact .ok ⟨⟨m+1,hw m (by omega),λx y h1 h2 z=>by
    rcases CI x m with h'|h'
    .exact G x y h' h2 z
    .have:x=m:=by omega
     subst this;exact hr y h2 z⟩,by simp only[hw m (by omega),BI];omega⟩
  |inr e=>
   cases e with
   |inl s=>exact absurd hr id
   |inr e=>exact .ok hr
def Brf (a:Airspace)(c p:Nat)(U:a.Rules.length<=64):An (A5 (λO S=>λs=>Acw c p O S s) 0 a.Rules []) λs=>InR a.Rules s/\s.length<=1000/\s.map (Aea a.Rules)=Aw4 a c p:=by
 refine(Cp (λk (s:List Int)=>InR a.Rules s/\s.length<=k/\s.map (Aea a.Rules)=((a.Rules.take k).filter λr=>((r.Kind==1)&&(r.Class==(c:Int)))&&(r.Airport==(p:Int))).map (·.Hours)) a.Rules 0 [] (λj r s z A=>?_) ⟨(λx z=>absurd z (by simp)),AF _,rfl⟩).mono λs A=>⟨A.1,by have:=A.2.1;omega,by rw[A.2.2,AE,DE];rfl⟩;have V:=A6 z;obtain⟨h1,h2,G⟩:=A;rw[AE]at h2 G ⊢;have e:a.Rules.take (j+1)=a.Rules.take j++[r]:=by rw[DB,z];rfl
 rw[e,List.filter_append,FQ,<-G];unfold Acw;refine An.ite (λD=>An.need (Dt (by simp only[AC];omega)) (.ok ⟨λx z=>?_,?_,?_⟩)) λD=>.ok ⟨h1,by omega,?_⟩
 .rcases BG.1 z with h|h
  .exact h1 x h
  .rw[AM.1 h];omega
 .rw[AG,AC];omega
 .rw[FQ,List.filter_cons_of_pos (by exact D)];simp only[BM,List.map_nil,List.filter_nil];congr 2;unfold Aea;rw[BI,z];rfl
 .rw[List.filter_cons_of_neg (by exact D)];simp
def Bpa (a:Airspace):An (Xz a) λr=>(Tv a=.ok 0->r.2=0)/\(r.2=0->(r.1=[]↔A4p a.Rules/\∀c p:Nat,c<a.Classes.length->p<a.Airports.length->¬full (Aw4 a c p))):=by
 unfold Xz;obtain⟨e,hc,he⟩:=Apq a;rw[hc,R.ok_bind];refine An.ite (λh=>.ok ⟨λh0=>absurd (by injection h0) (by simpa using h),λh0=>absurd (by simpa using h0) (by simpa using h)⟩) λh=>?_;have W:=he (by simpa using h);unfold Wy;simp only[R.ok_bind];have hj:∀o,An (O9 a o) λr=>r.2=0/\(r.1=[]↔o=[]/\∀c p:Nat,c<a.Classes.length->p<a.Airports.length->¬full (Aw4 a c p)):=λo=>by
  unfold O9;refine An.bind (p:=λ(z:List Int)=>z=[]↔o=[]/\∀c p:Nat,c<a.Classes.length->p<a.Airports.length->¬full (Aw4 a c p)) ((Cp (λk (z:List Int)=>z=[]↔o=[]/\∀c p:Nat,c<k->p<a.Airports.length->¬full (Aw4 a c p)) a.Classes 0 o (λj x z hx h2=>?_) ⟨λh=>⟨h,λc p h=>absurd h (DN _)⟩,λh=>h.1⟩).mono λz h2=>by rwa[AE]at h2) λz h2=>.ok ⟨rfl,h2⟩;rw[AE]at h2 ⊢;unfold Ack;refine An.bind (p:=λ(D:List Int)=>D=[]↔z=[]/\∀p:Nat,p<a.Airports.length->¬full (Aw4 a j p)) ((Cp (λk (D:List Int)=>D=[]↔z=[]/\∀p:Nat,p<k->¬full (Aw4 a j p)) a.Airports 0 z (λj1 x1 D ac S=>?_) ⟨λh=>⟨h,λp h=>absurd h (DN _)⟩,λh=>h.1⟩).mono λD S=>by rwa[AE]at S) λD S=>.ok ?_
  .rw[AE]at S ⊢;unfold Ada;refine(Brf a j j1 W).bind λs X=>(Bpy X.1 X.2.1).bind λr3 G=>(Bpb r3 D).bind λr4 ab=>.ok ?_;rw[X.2.2]at G;rw[ab,S];constructor
   .rintro⟨Y,A,U⟩;refine⟨A,λp hp=>?_⟩;rcases CI p j1 with h'|h'
    .exact U p h'
    .have:p=j1:=by omega
     subst this
     exact λhf=>absurd Y (G.2 hf)
   .rintro⟨A,U⟩;refine⟨?_,A,λp hp=>U p (by omega)⟩;by_cases e:r3=[]
    .exact e
    .exact absurd (G.1 e) (U j1 (by omega))
  .rw[S,h2];constructor
   .rintro⟨⟨Y,A⟩,U⟩;refine⟨Y,λc p hc hp=>?_⟩;rcases CI c j with h'|h'
    .exact A c p h' hp
    .have:c=j:=by omega
     subst this
     exact U p hp
   .rintro⟨Y,A⟩;exact⟨⟨Y,λc p hc hp=>A c p (by omega) hp⟩,λp hp=>A j p (by omega) hp⟩
 refine An.bind (p:=Sm (λ_=>A4p a.Rules) λ(o:List Int)=>o≠[]/\¬A4p a.Rules) ((Bqf a.Rules.length (by omega) _ (λx y=>∀p q,a.Rules[x]?=some p->a.Rules[y]?=some q->Wl p q=.ok false) (λ(o:List Int)=>o≠[]/\¬A4p a.Rules) λx y hx hy O=>An.np ?_).mono λr hr=>by
   cases r with
   |inl u=>exact λx y p q O hp V=>hr x y O (A6 V) p q hp V
   |inr o=>exact hr) λr hr=>?_
 .unfold Tj;refine An.idx (by omega) (by omega) λp hp=>An.idx (by omega) (by omega) λq V=>?_;rw[BI]at hp V;obtain⟨b,hb,_⟩:=Bch p q;rw[hb,R.ok_bind];cases b with
  |false=>exact An.ite (λh=>by cases h) λ_=>.ok λp' q' Z aa=>by rw[hp]at Z;rw[V]at aa;cases Z;cases aa;exact hb
  |true=>refine An.ite (λ_=>?_) λh=>absurd rfl h;unfold P2;refine An.bind (p:=λ(s:List Int)=>s≠[]) (An.ite (λ_=>An.ite (λ_=>by unfold G5;exact An.ite (λ_=>.ok (by simp)) λh=>absurd rfl h) λh=>absurd rfl h) λh=>absurd (by simp<;>omega) h) λs X=>.ok ⟨X,λhn=>?_⟩;have:=hn x y p q O hp V;rw[hb]at this;cases this
 .cases r with
  |inl u=>refine(hj []).mono λr h=>⟨λ_=>h.1,λ_=>?_⟩;rw[h.2];exact⟨λh=>⟨hr,h.2⟩,λh=>⟨rfl,h.2⟩⟩
  |inr o=>refine(hj o).mono λr h=>⟨λ_=>h.1,λ_=>?_⟩;rw[h.2];exact⟨λh=>absurd h.1 hr.1,λh=>absurd h.1 hr.2⟩
def A2x{c:Int}(h:Tv a=.ok 0)(z:0<=c/\c<(a.Classes.length:Int)):Tx a c=.ok 0:=by unfold Tx;rw[h,R.ok_bind,if_neg (by decide),if_neg (by simp<;>omega)]
def Brd(a b:List Span)(h:i<1440):Xk (Bf8 a b) i=(Xk a i||Xk b i):=by unfold Bf8;rw[Aqe _ 0 none i (λf hf=>by cases hf)];simp only[DA,decide_true,FW,GP,Bool.false_or];rw[CE,CJ,FD h];simp[h]
def Atw{c:Nat}(h:n*c<=140737488355328):n*c<=Bj:=h
def Bcq (a:Airspace)(h:a.Sectors.length<=1048576):An (Yv a) T1:=by
 unfold Yv;refine An.alt (I:=T1) (J:=T1) ((Lu (λk (l:List Int)=>l.length<=k) T1 a.Sectors 0 [] (λj x s z D=>?_) (AF _)).mono λr hr=>by cases r<;>trivial) (λs _=>.ok trivial) (λe _=>.ok trivial);unfold Sw;have G:j<a.Sectors.length:=(BZ.1 z).1;refine An.alt (I:=T1) (J:=T1) ((Lu (λ_ _=>True) T1 x.Volumes 0 0 (λO a2 s2 _ _=>?_) trivial).mono λr hr=>by cases r<;>trivial) (λA _=>?_) (λe _=>.ok trivial)
 .unfold Acy;by_cases h0:0<=a2
  .by_cases h1:a2>=(a.Volumes.length:Int)
   .simp only[DW h1,Bool.or_true,if_true,R.ok_bind];exact .ok trivial
   .simp only[DZ h1,DZ (show ¬a2<0 by omega),Bool.or_false,BD,if_false,if_pos h0,R.ok_bind];exact An.ite (λ_=>.ok trivial) λ_=>.ok trivial
  .simp only[DW (show a2<0 by omega),Bool.true_or,if_true,R.ok_bind];exact .ok trivial
 .refine An.ite (λ_=>.ok trivial) λ_=>An.need (Atw ?_) (.ok ?_)
  .simp only[AC];omega
  .show(s++[A]).length<=_;rw[AG,AC];omega
def Ao6 (a:Airspace):An (Mq a) λr=>r.2=true->1<=r.1.length/\r.1.length<=32/\r.1.length=a.Configs.length:=by
 unfold Mq;refine An.ite (λ_=>.ok λh=>by cases h) λO=>?_;simp only[BU,BB,not_or]at O;obtain⟨⟨⟨⟨h1,h2⟩,V⟩,W⟩,X⟩:=O;refine(Bcq a (by omega)).bind λr _=>An.ite (λ_=>?_) λ_=>.ok λh=>by cases h
 have hw:wrap .i64 (64-(a.Volumes.length:Int))=64-(a.Volumes.length:Int):=Ok (by omega) (by omega);refine An.need (by rw[hw];omega) ?_;refine An.alt (I:=λ(l:List (List (Int×Bool)))=>l.length=a.Configs.length) (J:=λ(e:List (List (Int×Bool))×Bool)=>e.2=false) ((Lu (λk (l:List (List (Int×Bool)))=>l.length=k) (λ(e:List (List (Int×Bool))×Bool)=>e.2=false) a.Configs 0 [] (λj x s S Y=>?_) rfl).mono λq A=>by
   cases q with
   |inl l=>exact A.trans (AE _)
   |inr e=>exact A) (λl Z=>.ok λ_=>by simp only;omega) (λe D=>.ok λh=>by rw[D]at h;cases h)
 unfold L8;have hj:j<a.Configs.length:=(BZ.1 S).1;refine An.alt (I:=T1) (J:=λ(e:List (List (Int×Bool))×Bool)=>e.2=false) ((Lu (λ_ _=>True) (λ(e:List (List (Int×Bool))×Bool)=>e.2=false) x.Sectors 0 (0,[]) (λj2 a2 s2 _ _=>?_) trivial).mono λq A=>by
   cases q with
   |inl l=>trivial
   |inr e=>exact A) (λy _=>?_) (λe D=>.ok D)
 .obtain⟨G,m⟩:=s2;simp only[Ct];unfold V4;by_cases h0:0<=a2/\a2<(r.1.length:Int)
  .simp only[DZ (show ¬a2<0 by omega),DZ (show ¬a2>=(r.1.length:Int)by omega),Bool.or_false,BD,if_false,R.bind_assoc,R.ok_bind];refine An.idx h0.1 h0.2 λz hz=>?_;refine An.ite (λ_=>.ok rfl) λ_=>An.idx h0.1 h0.2 λz2 U=>.ok trivial
  .have:(decide (a2<0)||decide (a2>=(r.1.length:Int)))=true:=by
    rw[BU,BB,BB];omega
   simp only[this,if_true,R.ok_bind]
   exact .ok rfl
 .obtain⟨G,m⟩:=y;simp only[Ct];refine An.ite (λ_=>.ok rfl) λ_=>An.need (Atw ?_) (.ok ?_)
  .simp only[AC];omega
  .show(s++[m]).length=_;rw[AG,AC];omega
def Axf (a:Airspace):An (Fv a) T1:=by unfold Fv;exact(Ao6 a).bind λr _=>An.ite (λ_=>.ok trivial) λ_=>.ok trivial
def Ash (d o:List (Int×Bool)):An (Pl d o) T1:=by unfold Pl;refine(Aue T1 (λx s _=>?_) d 0 trivial).bind λn _=>.ok trivial;unfold Gs;exact An.ite (λ_=>.ok trivial) λ_=>.ok trivial
def A85 (d o:List (Int×Bool)):An (X9 d o) T1:=by unfold X9;exact(Ash _ _).bind λp _=>(Ash _ _).bind λq _=>.ok trivial
def Biu:∀n:Fin 33,(match Su (wrap .u64 1) (wrap .u64 ((n.val:Nat):Int))with|.ok p=>p==(0,((n.val:Nat):Int))|_=>false)=true:=by decide+kernel
def mul_one (n:Nat)(h:n<=32):Su (wrap .u64 1) (wrap .u64 (n:Int))=.ok (0,(n:Int)):=by
 have:=Biu ⟨n,by omega⟩;revert this;cases Su (wrap .u64 1) (wrap .u64 ((n:Nat):Int))with
 |ok p=>intro h;simp only[CX]at h;rw[h]
 |bad=>intro h;cases h
 |pan v=>intro h;cases h
def rp (n m:Nat):List Int:=List.replicate m (-1)++List.replicate (n-m) 0
def Bie{m:Nat}(h:m<=n):(rp n m).length=n:=by simp[rp];omega
def Bns{m k:Nat}(h:m<=n)(hk:k=min m (n-m)):over (rp n m) m m=rp n (m+k):=by
 unfold over;rw[Bie h,<-hk];have z:(rp n m).take m=List.replicate m (-1):=by simp[rp]
 have A:(rp n m).take k=List.replicate k (-1):=by rw[rp,FR (by simp;omega),List.take_replicate,GA (by omega)]
 have D:(rp n m).drop (m+k)=List.replicate (n-(m+k)) 0:=by rw[rp,List.drop_append,CV (by simp),DO,List.drop_replicate,CM];congr 1;omega
 rw[z,A,D,rp,FH]
def A1g (n:Nat)(h1:1<=n)(h2:n<=32):An (Mv [(-1)] (n:Int)) λl=>l=List.replicate n (-1):=by
 unfold Mv;rw[if_neg (by omega)];simp only[AC,Int.natCast_one];rw[mul_one n h2];simp only[R.ok_bind];have hw:wrap .i64 (n:Int)=(n:Int):=Ok (by omega) (by omega);rw[if_neg (by simp;omega),hw];refine An.need ⟨by omega,EO _,by simp only[BI];exact Atw (by omega)⟩ (An.need (by simp;omega) ?_);refine An.bind (p:=λl=>l=List.replicate n (-1)) (Fx (λs=>n-s.1.toNat) (λs=>∃m:Nat,1<=m/\m<=n/\s=((m:Int),rp n m)) _ (λs A=>?_) n _ (by simp) ⟨1,AF _,h1,?_⟩) λl D=>.ok D
 .obtain⟨m,G,z,rfl⟩:=A;simp only[Ct];unfold Ma;rw[Bie z];refine An.ite (λO=>?_) λS=>.ok ?_
  .refine An.need ⟨by omega,by omega⟩ (An.need ⟨by omega,by omega⟩ (.ok ?_));simp only[BI];have hk:((m:Int)+((min m (n-m):Nat):Int))=((m+min m (n-m):Nat):Int):=by omega
   refine⟨⟨m+min m (n-m),by omega,by omega,?_⟩,?_⟩
   .rw[hk,Ok (by omega) (by omega),Bns z rfl]
   .simp only[hk];rw[Ok (by omega) (by omega)];simp only[BI];omega
  .have:m=n:=by omega
   subst this
   show rp m m=_
   simp[rp]
 .simp only[BI,AC,Int.natCast_one,List.drop_replicate];rfl
def neg (l:List Int):Nat:=l.countP (·<0)
structure Srch (n M:Nat)(s:List Int×List Int):Prop where
 len:s.1.length=n
 val:∀v∈s.1,-1<=v/\v+(neg s.1:Int)<=(n:Int)
 que:∀q∈s.2,0<=q/\q<(n:Int)
 mes:2*neg s.1+s.2.length<=M
variable{a1:Int}
def Bds{M:Nat}{a2:Int}{s:List Int×List Int}(hn:n<=32)(hM:M<=1000)(A:Srch n M s)(h1:0<=a1/\a1<(n:Int))(h2:0<=a2/\a2<(n:Int)):An (Ct (λD W=>Ir a1 a2 D W) s) (Srch n M):=by
 obtain⟨D,W⟩:=s;simp only[Ct];unfold Ir;have z:=A.len;simp only at z;refine An.idx h2.1 (by rw[z];exact h2.2) λa3 X=>?_;refine An.ite (λ_=>.ok A) λZ=>An.idx h1.1 (by rw[z];exact h1.2) λG e4=>?_;have O:=A.mes;simp only at O;refine An.need (by simp only[AC];exact Atw (by omega)) (.ok ?_);have V:=A.val G (AH e4);simp only at V;have hw:wrap .i64 (G+1)=G+1:=Ok (by omega) (by omega);rw[hw];obtain⟨hi,hg⟩:=BZ.1 X;have Y:neg (D.set a2.toNat (G+1))+1=neg D:=by
  unfold neg;have hp:0<D.countP (·<0):=List.countP_pos_iff.2 ⟨a3,AH X,by simp;omega⟩;rw[List.countP_set hi,hg];have d1:decide (a3<0)=true:=by simp;omega
  have d2:decide (G+1<0)=false:=by simp;omega
  simp only[d1,d2,if_true,BD,if_false];omega
 refine⟨by simpa using z,λv U=>?_,λq S=>?_,?_⟩
 .simp only at U ⊢;rcases List.mem_or_eq_of_mem_set U with U|rfl
  .have:=A.val v U;simp only at this;omega
  .omega
 .rcases BG.1 S with S|S
  .exact A.que q S
  .rw[AM.1 S];exact h2
 .simp only[AG,AC];omega
def Bki{M:Nat}{l:List (List (Int×Bool))}{s:List Int×List Int}(A:l.length=n)(D:n<=32)(G:M<=1000)(z:Srch n M s)(h1:0<=a1/\a1<(n:Int)):
  An (Pg l a1 (λa2 O=>R.np ((Ct λS U=>Ir a1 a2 S U) O)) s) (Srch n M):=by
 unfold Pg
 refine An.bind (p:=Srch n M) (Cp (λ_=>Srch n M) l 0 s (λj a s V z=>?_) z) λs z=>.ok z
 have X:j<l.length:=(BZ.1 V).1
 unfold Oq
 refine An.ite (λ_=>An.idx h1.1 (by rw[A];exact h1.2) λW _=>?_) λ_=>.ok z
 refine(A85 _ _).bind λr _=>An.ite (λ_=>?_) λ_=>.ok z
 refine(An.np (Bds D G z h1 ⟨by omega,by omega⟩)).bind λs z=>.ok z
def A7d (l:List (List (Int×Bool)))(h1:1<=l.length)(h2:l.length<=32):An (Mw l 0) T1:=by
 unfold Mw;refine(A1g l.length h1 h2).bind λr hr=>?_;subst hr;refine An.idx (EO 0) (by simp;omega) λa _=>?_;refine An.bind (p:=T1) (Fx (λs=>2*neg s.1+s.2.length) (Srch l.length 1000) T1 (λs z=>?_) 1000 _ ?_ ?_) λ_ _=>.ok trivial
 .obtain⟨l1,O⟩:=s;simp only[Ct];unfold Mi;refine An.ite (λA=>?_) λ_=>.ok trivial;cases O with
  |nil=>simp at A
  |cons q O=>
   have S:=z.que q (by simp);refine An.idx (EO 0) (by simp) λa1 D=>?_;simp only[Int.toNat_zero,DX,AX]at D;subst D;refine An.need ⟨by omega,by simp only[BV];omega⟩ ?_;unfold Vl;simp only[R.ok_bind];have G:=z.mes;simp only[BV]at G;have U:Srch l.length (2*neg l1+O.length) (l1,(q::O).drop 1):=⟨z.len,z.val,λx X=>z.que x (by simp only;exact CK X),by simp⟩;refine(Bki rfl h2 (by omega) U S).bind λt ht=>?_;obtain⟨Y,Z⟩:=t;refine .ok ⟨⟨ht.len,ht.val,ht.que,?_⟩,?_⟩
   .have:=ht.mes;simp only at this ⊢;omega
   .have:=ht.mes;simp only[BV]at this ⊢;omega
 .have hc:neg ((List.replicate l.length (-1)).set (Int.toNat 0) 0)<=l.length:=by
   unfold neg;refine CR List.countP_le_length (by simp)
  simp only[AC];omega
 .have e:((List.replicate l.length (-1:Int)).set (Int.toNat 0) 0)=0::List.replicate (l.length-1) (-1):=by
   obtain⟨k,hk⟩:∃k,l.length=k+1:=⟨l.length-1,by omega⟩
   rw[hk];rfl
  have V:neg (0::List.replicate (l.length-1) (-1:Int))=l.length-1:=by unfold neg;simp[List.countP_replicate]
  rw[e]
  refine⟨by simp;omega,λv W=>?_,λq S=>by simp at S;omega,?_⟩
  .simp only[V];simp only[AN,List.mem_replicate]at W;rcases W with rfl|⟨_,rfl⟩<;>omega
  .simp only[V,AC];omega
def Biz (l:List Int)(v:Int):An (Kr l v) T1:=by unfold Kr;refine An.alt (I:=T1) (J:=T1) ((Lu (λ_ _=>True) T1 l 0 () (λj a s _ _=>?_) trivial).mono λr hr=>by cases r<;>trivial) (λ_ _=>.ok trivial) λ_ _=>.ok trivial;unfold Hu;exact An.ite (λ_=>.ok trivial) λ_=>.ok trivial
def Bgn (a:Airspace):An (Wo a) T1:=by unfold Wo;refine(Ao6 a).bind λr hr=>An.ite (λh=>?_) λ_=>.ok trivial;obtain⟨h1,h2,_⟩:=hr h;exact(A7d r.1 h1 h2).bind λr1 _=>(Biz _ _).bind λv _=>An.ite (λ_=>.ok trivial) λ_=>.ok trivial
theorem Avl (b:Bool)(e:Int):An (Pr b e) T1:=An.ite (λ_=>.ok trivial) λ_=>.ok trivial
def Ber (a:Airspace):An (P0 a) T1:=by unfold P0;exact(Bgn a).bind λr _=>(Avl _ _).bind λ_ _=>.ok trivial
structure LowOk (a:Airspace):Prop extends OpSmall a where
 sec:a.Sectors.length<=NN
 secv:∀s∈a.Sectors,s.Volumes.length<=NN
 con:a.Configs.length<=NN
 cons:∀s∈a.Configs,s.Sectors.length<=NN
 air:a.Airports.length<=NN
 mod:∀s∈a.Airports,s.Modes.length<=NN
 cla:a.Classes.length<=NN
structure TabOk (t:Tables):Prop where
 sec:t.Sectors.length<=NN
 secv:∀s∈t.Sectors,s.Volumes.length<=NN
 con:t.Configs.length<=NN
 cons:∀s∈t.Configs,s.Sectors.length<=NN
 way:t.Ways.length<=NN
 legs:∀w∈t.Ways,w.Legs.length<=NN/\∀g∈w.Legs,g.Minutes.length<=NN
 mod:t.Modes.length<=NN
 mods:∀m∈t.Modes,m.length<=NN
 kin:t.Kinds.length<=NN
 cur:∀k∈t.Kinds,k.Curfews.length<=NN/\∀c∈k.Curfews,c.length<=NN
def Uj:Tables:={Volumes:=0,Sectors:=[],Configs:=[],Ways:=[],Modes:=[],Kinds:=[]}
def A47:TabOk Uj:=by constructor<;>simp[Uj]
def Bnu (l:List Sector)(h:l.length<=NN)(z:∀s∈l,s.Volumes.length<=NN):An (G2 l) λy=>y.length=l.length/\∀s∈y,s.Volumes.length<=NN:=by unfold G2;exact(Mz (F:=λj a=>P9 (j:Int) a) (c:=80) _ (λ_ _ _=>rfl) l (by decide) h λj a A=>by unfold P9;exact .ok (z a A)).bind λy D=>.ok D
def Boa (l:List Config)(h:l.length<=NN)(z:∀s∈l,s.Sectors.length<=NN):An (Gx l) λy=>y.length=l.length/\∀s∈y,s.Sectors.length<=NN:=by unfold Gx;exact(Mz (F:=λj a=>P7 (j:Int) a) (c:=64) _ (λ_ _ _=>rfl) l (by decide) h λj a A=>by unfold P7;exact .ok (z a A)).bind λy D=>.ok D
def Bna (l:List Bool)(z:l.length<=1440):(Hs 0 l none).length<=NN:=CR (Abb l 0 none) (by have:=Xd;omega)
def Bj4 (a b:List Span):(Zr a b).length<=NN:=Bna _ (by simp)
def Baq{P:β->Prop}(h:∀x y,f x=some y->P y):∀{l:List α} {r:List β},Alw f l=some r->∀y∈r,P y
 |[],r,hr,y,hy=>by cases hr;cases hy
 |x::l,r,hr,y,hy=>by
  unfold Alw at hr;split at hr
  .rename_i y' r' h1 h2;cases hr;rcases AN.1 hy with rfl|hy
   .exact h _ _ h1
   .exact Baq h h2 y hy
  .cases hr
def Bl2{n:Int}{g:Leg}(h:Aid a n=some g):g.Minutes.length<=NN:=by unfold Aid at h;rw[BP]at h;obtain⟨p,_,rfl⟩:=h;exact Bj4 _ _
def Bm5 (a:Airspace)(r:Int)(D:OpSmall a):(Pw (Wj a r)).1.length<=NN/\∀g∈(Pw (Wj a r)).1,g.Minutes.length<=NN:=by
 cases h:Wj a r with
 |none=>exact⟨DA _,λg G=>absurd G (by simp[Pw])⟩
 |some l=>
  unfold Wj at h;split at h
  .split at h
   .cases h
   .rename_i rt z;have:=D.rs rt (AH z);exact⟨by rw[Pw,Ba2 h];have:=Xd;omega,Baq (λx y A=>Bl2 A) h⟩
  .cases h
def Bnx (a:Airspace)(z:OpSmall a):An (Ls a.Routes a) λy=>y.length=a.Routes.length/\∀w∈y,w.Legs.length<=NN/\∀g∈w.Legs,g.Minutes.length<=NN:=by unfold Ls;refine(Mz (F:=λj r=>P8 (j:Int) r a) (c:=40) _ (λ_ _ _=>rfl) a.Routes (by decide) (by have:=Xd;have:=z.rt;omega) λj r hr=>?_).bind λy A=>.ok A;unfold P8;rw[Bm9 a _ z];exact .ok (Bm5 a _ z)
def Bnh (l:List Airport)(h:l.length<=NN)(A:∀s∈l,s.Modes.length<=NN):An (G6 l) λy=>y.length=l.length/\∀m∈y,m.length<=NN:=by unfold G6;refine(Mz (F:=λj a=>Qd (j:Int) a) (c:=24) _ (λ_ _ _=>rfl) l (by decide) h λj a D=>?_).bind λy z=>.ok z;unfold Qd Mh;rw[R.bind_assoc];refine(Mz (F:=λj a=>Qj (j:Int) a) (c:=8) T1 (λ_ _ _=>rfl) a.Modes (by decide) (A a D) λj m G=>by unfold Qj;exact .ok trivial).bind λy z=>.ok (by rw[z.1];exact A a D)
def Boh (a:Airspace)(h:a.Classes.length<=NN)(hp:a.Airports.length<=NN):An (Kv a.Classes a) λy=>y.length=a.Classes.length/\∀k∈y,k.Curfews.length<=NN/\∀c∈k.Curfews,c.length<=NN:=by unfold Kv;refine(Mz (F:=λj c=>Qa (j:Int) c a) (c:=64) _ (λ_ _ _=>rfl) a.Classes (by decide) h λj c A=>?_).bind λy z=>.ok z;unfold Qa;refine(Bff _ _).bind λr _=>(Bcm _ _).bind λr1 _=>?_;unfold Li;rw[R.bind_assoc];refine(Mz (F:=λj b=>Md (j:Int) b a _) (c:=24) (λ(s:List Span)=>s.length<=NN) (λ_ _ _=>rfl) a.Airports (by decide) hp λj b D=>?_).bind λy z=>.ok ⟨by simp only;omega,z.2⟩;unfold Md;exact(Beu _ _ _).bind λr hr=>.ok (CR hr (by have:=Xd;omega))
def Afa (n a b:Int):Hj n a b=.ok ((decide (n>=a))&&(decide (n<=b))):=rfl
def Aba{F:α->R Bool}(z:∀j a,b j a ()=(F a).bind λr=>if r then .ok (.inr ((j:Int)))else .ok (.inl ()))(l:List α)(A:∀a∈l,An (F a) T1): An ((each b 0 l ()).bind (alt (λ_=>.ok (-1)) (λr=>.ok r))) T1:=(Am9 l λj a D=>by rw[z];exact(A a (AH D)).bind λr _=>An.ite (λ_=>.ok rfl) λ_=>.ok trivial).mono λ_ _=>trivial
variable{m:R Bool}
def Y7{c:Bool}(h:An m T1):An (if c=true then m else R.ok false) T1:=An.ite (λ_=>h) λ_=>.ok trivial
def Hp(h:An m T1):An (m.bind λr=>.ok (!r)) T1:=h.bind λ_ _=>.ok trivial
def Pu(h:An m T1):An (m.bind λr=>.ok r) T1:=h.bind λ_ _=>.ok trivial
def Bjd (l:List Sector):An (J2 l) T1:=by unfold J2 Ia Kk;refine Hp (An.bind (Aba (F:=Il) (λ_ _=>rfl) l λs _=>?_) λ_ _=>.ok trivial);unfold Il Uw;refine Hp ?_;rw[Afa];exact Pu (Y7 (by rw[Afa];exact .ok trivial))
def Bix (l:List (List Int)):An (I4 l) T1:=by unfold I4 Gb I9;refine Hp (An.bind (Aba (F:=Gl) (λ_ _=>rfl) l λs _=>?_) λ_ _=>.ok trivial);unfold Gl Uv;refine Hp ?_;rw[Afa];refine Pu (Y7 (Pu ?_));unfold Sa Kg Nd;refine Hp (An.bind (Aba (F:=La) (λ_ _=>rfl) s λs _=>?_) λ_ _=>.ok trivial);unfold La Qr;rw[Afa];exact .ok trivial
def Bk4 (g:Leg)(t:Tables):An (P1 g t) T1:=by unfold P1;rw[Afa,R.ok_bind];refine An.bind (p:=T1) (Y7 (Pu (by rw[Afa];exact .ok trivial))) λb _=>An.bind (p:=T1) (Y7 (Pu (by rw[Afa];exact .ok trivial))) λb1 _=>Pu (Y7 ((Aoa _).bind λ_ _=>.ok trivial))
def Bj0 (l:List Way)(t:Tables):An (Nr l t) T1:=by
 unfold Nr Ki Ni;refine Hp (An.bind (Aba (F:=λw=>Ny w t) (λ_ _=>rfl) l λw _=>?_) λ_ _=>.ok trivial);unfold Ny Uu;have z:∀n,An (Mr n t) T1:=λn=>by unfold Mr;rw[Afa];exact .ok trivial
 refine Hp ((z _).bind λr _=>An.bind (p:=T1) (Y7 (Pu (z _))) λb _=>An.bind (p:=T1) (Y7 (Pu (by rw[Afa];exact .ok trivial))) λb1 _=>Pu (Y7 (Pu ?_)));unfold R8 Kd Na;refine Hp (An.bind (Aba (F:=λg=>Ns g t) (λ_ _=>rfl) w.Legs λg _=>?_) λ_ _=>.ok trivial);unfold Ns;exact Hp (Bk4 g t)
def A7t (l:List Int)(h:l.length<=1000):An (Yw l) T1:=by
 unfold Yw;refine An.alt (I:=T1) (J:=T1) ((Fx (λi=>2000-i.toNat) (λi=>0<=i/\i<=1010) T1 (λi hi=>?_) 2000 0 (Nat.sub_le _ _) ⟨EO _,by omega⟩).mono λr _=>by cases r<;>trivial) (λ_ _=>.ok trivial) λ_ _=>.ok trivial;unfold Acx;have h1:wrap .i64 (i+1)=i+1:=Ok (by omega) (by omega);have h2:wrap .i64 (i+2)=i+2:=Ok (by omega) (by omega);have A:wrap .i64 (i+3)=i+3:=Ok (by omega) (by omega);rw[h1,h2];refine An.ite (λD=>?_) λ_=>.ok trivial;have z:∀b,An (Pe i b) (Sm (λs'=>(0<=s'/\s'<=1010)/\2000-s'.toNat<2000-i.toNat) T1):=λb=>by unfold Pe;refine An.ite (λ_=>.ok trivial) λ_=>.ok ?_;rw[A];exact⟨⟨by omega,by omega⟩,by omega⟩
 refine An.idx (by omega) (by omega) λa _=>An.idx (by omega) (by omega) λa1 _=>An.ite (λ_=>z _) λ_=>An.idx (by omega) (by omega) λa2 _=>z _
def Bhi (l:List Kind)(t:Tables):An (L3 l t) T1:=by unfold L3 Ji Ml;refine Hp (An.bind (Aba (F:=λw=>Lv w t) (λ_ _=>rfl) l λk _=>?_) λ_ _=>.ok trivial);unfold Lv Ul Ae1;refine Hp (An.bind (p:=T1) (An.bind (p:=T1) ?_ λb _=>An.ite (λ_=>.ok trivial) λ_=>.ok trivial) λ_ _=>.ok trivial);unfold V2;refine(A7t _ (by simp)).bind λr _=>An.ite (λ_=>.ok trivial) λ_=>Hp ?_;unfold Er E6;refine An.bind (Aba (F:=Nt) (λ_ _=>rfl) _ λs _=>?_) λ_ _=>.ok trivial;unfold Nt;exact(Aoa _).bind λ_ _=>.ok trivial
def Aiq{c:Bool}(h:c=false->An m T1):An (if c=true then R.ok true else m) T1:=An.ite (λ_=>.ok trivial) λz=>h (by simpa using z)
def A7g (t:Tables):An (Ky t) T1:=by unfold Ky;rw[Afa];simp only[R.ok_bind];refine An.bind (p:=T1) (Aiq λhr=>?_) λb _=>An.bind (p:=T1) (Aiq λ_=>Hp (Bjd _)) λb1 _=>An.ite (λ_=>.ok trivial) λ_=>An.bind (p:=T1) (Aiq λ_=>Hp (Bix _)) λb2 _=>An.bind (p:=T1) (Aiq λ_=>Hp (Bj0 _ _)) λz _=>An.bind (p:=T1) (Aiq λ_=>Hp (Bhi _ _)) λA _=>An.ite (λ_=>.ok trivial) λ_=>.ok trivial;simp only[Bool.not_eq_false',AK,BB]at hr;unfold Vw;rw[if_pos (⟨by omega,EO _,Dt (by omega)⟩:(0:Int)<=t.Volumes/\(t.Volumes:Int)<=t.Volumes/\(Int.toNat t.Volumes)*40<=Bj)];simp only[R.ok_bind];exact(Axf _).bind λ_ _=>.ok trivial
abbrev Dv:=List (List (Int×Bool))
def E (l:Dv)(x y:Nat):Prop:=x≠y/\∃p q,l[x]?=some p/\l[y]?=some q/\X9 p q=.ok true
inductive Rch (l:Dv)(a:Nat):Nat→Prop
 |nil:Rch l a a
 |cons {b c:Nat}:Rch l a b→E l b c→Rch l a c
def Ge (d:List Int)(i:Nat):Prop:=∃v,d[i]?=some v/\0<=v
def B5z (p q:List (Int×Bool)):∃m n,Pl p q=.ok m/\Pl q p=.ok n/\X9 p q=.ok ((((m==0)&&(n==0))||((m==1)&&(n==2)))||((m==2)&&(n==1))):=by obtain⟨m,z,_⟩:=Ash p q;obtain⟨n,A,_⟩:=Ash q p;exact⟨m,n,z,A,by unfold X9;rw[z,A];rfl⟩
def B6f {p q:List (Int×Bool)}(h:X9 p q=.ok true):X9 q p=.ok true:=by obtain⟨m,n,h1,h2,z⟩:=B5z p q;rw[z]at h;injection h with h;unfold X9;rw[h2,h1,R.ok_bind,R.ok_bind];congr 1;simp only[BU,AK,CX]at h ⊢;omega
variable{l:Dv}
theorem E.symm{y:Nat}(h:E l x y):E l y x:=by obtain⟨h1,p,q,h2,z,A⟩:=h;exact⟨λe=>h1 e.symm,q,p,z,h2,B6f A⟩
variable{d:List Int}{j:Nat}{v:Int}
def Ge.set(z:0<=v)(h:Ge d i):Ge (d.set j v) i:=by
 obtain⟨w,h1,h2⟩:=h;by_cases e:j=i
 .subst e;exact⟨v,by rw[BO (A6 h1)],z⟩
 .exact⟨w,by rw[EY e];exact h1,h2⟩
def Ge.of_set(h:Ge (d.set j v) i):Ge d i\/i=j:=by
 by_cases e:j=i
 .exact .inr e.symm
 .obtain⟨w,h1,h2⟩:=h;rw[EY e]at h1;exact .inl ⟨w,h1,h2⟩
structure Nx (l:Dv)(x:Nat)(d q:List Int)(k:Nat)(s:List Int×List Int):Prop where
 up:∀i,Ge d i→Ge s.1 i
 new:∀i,Ge s.1 i→Ge d i∨(E l x i∧(i:Int)∈s.2)
 que:∀v∈q,v∈s.2
 bac:∀v∈s.2,v∈q∨Ge s.1 v.toNat
 all:∀j,j<k→E l x j→Ge s.1 j
def Bic{M:Nat}{s:List Int×List Int}(hl:l.length=n)(hn:n<=32)(hM:M<=1000)(hs:Srch n M s)(h1:x<n)(hx:Ge s.1 x):
  An (Pg l (x:Int) (λa2 z_=>R.np ((Ct λl3 l4=>Ir (x:Int) a2 l3 l4) z_)) s) λt=>Srch n M t/\Nx l x s.1 s.2 n t:=by
 unfold Pg
 refine An.bind (p:=λt=>Srch n M t/\Nx l x s.1 s.2 n t) ((Cp (λk t=>Srch n M t/\Nx l x s.1 s.2 k t) l 0 s (λj a t Y ht=>?_) ⟨hs,λi h=>h,λi h=>.inl h,λv h=>h,λv h=>.inl h,λj h=>absurd h (DN _)⟩).mono λt ht=>by rwa[AE,hl]at ht) λt ht=>.ok ht
 have ab:j<l.length:=A6 Y
 rw[AE]at ht ⊢
 obtain⟨X,z⟩:=ht
 unfold Oq
 have U:¬E l x j->An (O2 t) λt=>Srch n M t/\Nx l x s.1 s.2 (j+1) t:=λhE=>.ok ⟨X,z.up,z.new,z.que,z.bac,λi hi A=>by
  rcases CI i j with h'|h'
  .exact z.all i h' A
  .have:i=j:=by omega
   subst this;exact absurd A hE⟩
 refine An.ite (λO=>An.idx (by omega) (by omega) λp hp=>?_) λO=>U λh=>O (by simp only[bne_iff_ne,ne_eq];intro e;exact h.1 (by omega))
 rw[BI]at hp
 have V:x≠j:=λe=>by subst e;simp at O
 obtain⟨b,Z,_⟩:=A85 p a
 rw[Z,R.ok_bind]
 cases b with
 |false=>refine An.ite (λh=>by cases h) λ_=>U λh=>?_;obtain⟨_,p',q',g1,g2,g3⟩:=h;rw[hp]at g1;rw[Y]at g2;cases g1;cases g2;rw[Z]at g3;cases g3
 |true=>
  refine An.ite (λ_=>?_) λh=>absurd rfl h;have hE:E l x j:=⟨V,p,a,hp,Y,Z⟩;obtain⟨d,q⟩:=t;obtain⟨u,D,hS⟩:=Bds (a1:=(x:Int)) (a2:=(j:Int)) hn hM X ⟨by omega,by omega⟩ ⟨by omega,by omega⟩;refine An.bind (p:=λw=>w=u) (An.np ⟨u,D,rfl⟩) λw hw=>?_;subst hw;refine .ok ⟨hS,?_⟩;simp only[Ct]at D;unfold Ir at D;have W:=X.len;simp only at W;have G:j<d.length:=by omega
  rw[Zo (AA G),R.ok_bind]at D;by_cases h0:d[j]>=0
  .rw[if_pos h0]at D;cases D;refine⟨z.up,z.new,z.que,z.bac,λi hi A=>?_⟩;rcases CI i j with h'|h'
   .exact z.all i h' A
   .have:i=j:=by omega
    subst this;exact⟨_,AA G,h0⟩
  .rw[if_neg h0]at D;obtain⟨v,S,ac⟩:=z.up x hx;simp only at S;rw[Zo S,R.ok_bind]at D;split at D
   .cases D;have aa:=X.val v (AH S);simp only at aa;have hw:wrap .i64 (v+1)=v+1:=Ok (by omega) (by omega);rw[hw,BI];refine⟨λi h=>(z.up i h).set (by omega),λi h=>?_,λv h=>List.mem_append_left _ (z.que v h),λy hy=>?_,λi hi A=>?_⟩
    .rcases h.of_set with h|h
     .rcases z.new i h with h|h
      .exact .inl h
      .exact .inr ⟨h.1,List.mem_append_left _ h.2⟩
     .subst h;exact .inr ⟨hE,List.mem_append_right _ (AM.2 rfl)⟩
    .rcases BG.1 hy with h|h
     .rcases z.bac y h with h|h
      .exact .inl h
      .exact .inr (h.set (by omega))
     .rw[AM.1 h,BI];exact .inr ⟨v+1,by simp only;rw[BO G],by omega⟩
    .rcases CI i j with h'|h'
     .exact(z.all i h' A).set (by omega)
     .have:i=j:=by omega
      subst this
      exact⟨v+1,by simp only;rw[BO G],by omega⟩
   .cases D
structure Fnd (l:Dv)(x:Nat)(d:List Int):Prop where
 len:d.length=l.length
 low:∀v∈d,-1<=v
 at_:Ge d x
 clo:∀i j,Ge d i->E l i j->Ge d j
 rch:∀i,Ge d i->Rch l x i
def Bgm (l:Dv)(x:Nat)(h1:x<l.length)(h2:l.length<=32):An (Mw l (x:Int)) (Fnd l x):=by
 unfold Mw;refine(A1g l.length (by omega) h2).bind λr hr=>?_;subst hr;refine An.idx (by omega) (by simp;omega) λa _=>?_;rw[BI];have hc:neg ((List.replicate l.length (-1)).set x 0)<=l.length:=by unfold neg;refine CR List.countP_le_length (by simp)
 have ac:neg ((List.replicate l.length (-1:Int)).set x 0)+1=l.length:=by
  unfold neg;have hi:x<(List.replicate l.length (-1:Int)).length:=by simpa using h1
  rw[List.countP_set hi];simp[List.countP_replicate];omega
 have S:Ge ((List.replicate l.length (-1:Int)).set x 0) x:=⟨0,by rw[BO (by simpa using h1)],EO _⟩;have z:∀i,Ge ((List.replicate l.length (-1:Int)).set x 0) i->i=x:=λi h=>by
  rcases h.of_set with⟨v,h,h0⟩|h
  .have:=AH h;simp only[List.mem_replicate]at this;omega
  .exact h
 refine An.bind (p:=Fnd l x) (Fx (λs=>2*neg s.1+s.2.length) (λs=>Srch l.length 1000 s/\Ge s.1 x/\(∀v∈s.2,Ge s.1 v.toNat)/\(∀i j,Ge s.1 i->E l i j->(i:Int)∈s.2\/Ge s.1 j)/\∀i,Ge s.1 i->Rch l x i) (Fnd l x) (λs G=>?_) 1000 _ ?_ ?_) λd hd=>.ok hd
 .obtain⟨d,q⟩:=s;obtain⟨G,s1,s2,Y,X⟩:=G;simp only at s1 s2 Y X;simp only[Ct];unfold Mi;refine An.ite (λA=>?_) λA=>.ok ⟨G.len,λv D=>(G.val v D).1,s1,λi j hi hE=>?_,X⟩
  .cases q with
   |nil=>simp at A
   |cons y q=>
    have Z:=G.que y (by simp);obtain⟨w,rfl⟩:=BY Z.1;have U:=s2 _ (by simp:((w:Nat):Int)∈((w:Nat):Int)::q);rw[BI]at U;refine An.idx (EO 0) (by simp) λa1 V=>?_;simp only[Int.toNat_zero,DX,AX]at V;subst V;refine An.need ⟨by omega,by simp only[BV];omega⟩ ?_;unfold Vl;simp only[R.ok_bind];have W:=G.mes;simp only[BV]at W;have aa:Srch l.length (2*neg d+q.length) (d,(((w:Nat):Int)::q).drop 1):=⟨G.len,G.val,λx hx=>G.que x (by simp only;exact CK hx),by simp⟩;refine(Bic rfl h2 (by omega) aa (by omega) U).bind λt ht=>?_;obtain⟨d',q'⟩:=t;obtain⟨ht,O⟩:=ht;have ab:(((w:Nat):Int)::q).drop 1=q:=rfl;rw[ab]at O;refine .ok ⟨⟨⟨ht.len,ht.val,ht.que,?_⟩,O.up _ s1,λv D=>?_,λi j hi hE=>?_,λi hi=>?_⟩,?_⟩
    .have:=ht.mes;simp only at this ⊢;omega
    .rcases O.bac v D with h|h
     .exact O.up _ (s2 v (BC _ h))
     .exact h
    .simp only at hi ⊢;rcases O.new i hi with h|h
     .rcases Y i j h hE with h'|h'
      .rcases AN.1 h' with e|h'
       .have:i=w:=by omega
        subst this
        exact .inr (O.all j (by obtain⟨_,_,_,_,hj,_⟩:=hE;exact A6 hj) hE)
       .exact .inl (O.que _ h')
      .exact .inr (O.up _ h')
     .exact .inl h.2
    .rcases O.new i hi with h|h
     .exact X i h
     .exact(X w U).cons h.1
    .have:=ht.mes;simp only[BV]at this ⊢;omega
  .cases q with
   |nil=>
    rcases Y i j hi hE with h|h
    .cases h
    .exact h
   |cons y q=>exact absurd (by simp only[BV];omega) A
 .simp only[AC];omega
 .refine⟨⟨by simp,λv D=>?_,λq Z=>by simp at Z;omega,?_⟩,S,λv D=>?_,λi j hi hE=>?_,λi hi=>?_⟩
  .simp only at D ⊢;rcases List.mem_or_eq_of_mem_set D with D|rfl
   .simp only[List.mem_replicate]at D;omega
   .omega
  .simp only[AC];omega
  .simp only[AM]at D;subst D;rw[BI];exact S
  .rw[z i hi];exact .inl (by simp)
  .rw[z i hi];exact .nil
def Fnd.fwd{a b:Nat}(h:Fnd l x d)(r:Rch l a b)(z:Ge d a):Ge d b:=by
 induction r with
 |nil=>exact z
 |cons _ e A=>exact h.clo _ _ A e
def Fnd.bwd{a b:Nat}(h:Fnd l x d)(r:Rch l a b)(z:Ge d b):Ge d a:=by
 induction r with
 |nil=>exact z
 |cons _ e A=>exact A (h.clo _ _ z e.symm)
def Fnd.all{e:List Int}(h0:Fnd l 0 e)(z:∀i,i<l.length->Ge e i)(h:Fnd l x d)(A:x<l.length):∀i,i<l.length->Ge d i:=λi hi=>h.fwd (h0.rch i (z i hi)) (h.bwd (h0.rch x (z x A)) h.at_)
def Bhf (l:List Int):An (Kr l (-1)) λv=>v<0↔(-1:Int)∉l:=by
 unfold Kr;refine An.alt (I:=λ_=>(-1:Int)∉l) (J:=λv=>0<=v/\(-1:Int)∈l) ((Lu (λk _=>(-1:Int)∉l.take k) (λv=>0<=v/\(-1:Int)∈l) l 0 () (λj a s z A=>?_) (by simp)).mono λr hr=>?_) (λ_ h=>.ok ⟨λ_=>h,λ_=>by decide⟩) λv h=>.ok ⟨λh'=>by omega,λh'=>absurd h.2 h'⟩
 .rw[AE]at A ⊢;unfold Hu;refine An.ite (λh=>.ok ⟨by omega,?_⟩) λh=>.ok ?_
  .simp only[CX]at h;exact AH (by rw[z,<-h])
  .simp only[CX]at h;show(-1:Int)∉l.take (j+1);rw[DB,z,BG,not_or];exact⟨A,λD=>by simp at D;exact h (by omega)⟩
 .cases r with
  |inl u=>show(-1:Int)∉l;have:(-1:Int)∉l.take (0+l.length):=hr;rwa[AE,DE]at this
  |inr e=>exact hr
def Fnd.ge_all(h:Fnd l x d):((-1:Int)∉d)↔∀i,i<l.length->Ge d i:=by
 constructor
 .intro z i hi;have hi':i<d.length:=by rw[h.len];exact hi
  refine⟨d[i],AA hi',?_⟩;have h1:=h.low d[i] (BK hi');by_cases e:d[i]= -1
  .exact absurd (e▸BK hi') z
  .omega
 .intro G z;obtain⟨j,A⟩:=DI.1 z;obtain⟨v,D,h0⟩:=G j (by rw[<-h.len];exact A6 A);rw[A]at D;cases D;omega
def B54{F:α->R Bool}(f:α->Bool)(z:∀j a,b j a ()=(F a).bind λr=>if r then .ok (.inr ((j:Int)))else .ok (.inl ()))(l:List α)(A:∀a,F a=.ok (f a)):
  ((each b 0 l ()).bind (alt (λ_=>.ok (-1)) (λr=>.ok r))).bind (λr=>.ok (decide (r>=0)))=.ok (l.any f):=by
 have key:∀(l:List α) (k:Nat),(∃j:Nat,each b k l ()=.ok (.inr (j:Int))/\l.any f=true)\/(each b k l ()=.ok (.inl ())/\l.any f=false):=by
  intro l;induction l with
  |nil=>intro k;exact .inr ⟨rfl,rfl⟩
  |cons a l D=>
   intro k;rw[Abg,z,A,R.ok_bind];cases h:f a with
   |true=>exact .inl ⟨k,rfl,by simp[h]⟩
   |false=>
    rcases D (k+1)with⟨j,h1,h2⟩|⟨h1,h2⟩
    .exact .inl ⟨j,h1,by simp[h2]⟩
    .exact .inr ⟨h1,by simp[h,h2]⟩
 rcases key l 0 with⟨j,h1,h2⟩|⟨h1,h2⟩
 .rw[h1,h2];show R.ok (decide ((j:Int)>=0))=_;rw[DW (by omega)]
 .rw[h1,h2];rfl
def Bgq{F:α->R Bool}(f:α->Bool)(z:∀j a,b j a ()=(F a).bind λr=>if r then .ok (.inr ((j:Int)))else .ok (.inl ()))(l:List α)(A:∀a,F a=.ok (!f a)):
  (((each b 0 l ()).bind (alt (λ_=>.ok (-1)) (λr=>.ok r))).bind (λr=>.ok (decide (r>=0)))).bind (λr=>.ok (!r))=.ok (l.all f):=by
 rw[B54 (λa=>!f a) z l A,R.ok_bind]
 congr 1
 induction l with
 |nil=>rfl
 |cons a l D=>simp only[List.any_cons,DU,Bool.not_or,Bool.not_not,D]
def M6 (n a b:Int):Bool:=(decide (n>=a))&&(decide (n<=b))
def Bzy (n a b:Int):Hj n a b=.ok (M6 n a b):=rfl
def A5m{c d:Bool}(h:m=.ok d):(if c=true then m else R.ok false)=.ok (c&&d):=by
 cases c with
 |true=>rw[if_pos rfl,h];rfl
 |false=>rfl
def A2d (s:Span):Bool:=!(((decide (s.From<0))||(decide (s.From>=s.To)))||(decide (s.To>1440)))
def B12 (l:List Span):T4 l=.ok (if l.all A2d then 0 else 50):=by
 unfold T4 Jl L9;rw[B54 (F:=Y5) (λs=>!A2d s) (λ_ _=>rfl) l λs=>by unfold Y5 A2d;rw[Bool.not_not],R.ok_bind];have:(l.any λs=>!A2d s)=!l.all A2d:=by
  induction l with
  |nil=>rfl
  |cons a l z=>simp only[List.any_cons,DU,Bool.not_and,z]
 rw[this];cases l.all A2d<;>rfl
def As4 (s:Sector):Bool:=M6 s.Radar 0 64&&M6 s.Procedural 0 s.Radar
def A3l (l:List Sector):J2 l=.ok (l.all As4):=by unfold J2 Ia Kk;refine Bgq (F:=Il) As4 (λ_ _=>rfl) l λs=>?_;unfold Il Uw;simp only[Bzy,R.ok_bind,A5m (rfl:R.ok (M6 s.Procedural 0 s.Radar)=_)];rfl
def Aq4 (l:List Int):Bool:=M6 (l.length:Int) 1 16&&l.all λn=>M6 n 0 64
def A1h (l:List (List Int)):I4 l=.ok (l.all Aq4):=by unfold I4 Gb I9;refine Bgq (F:=Gl) Aq4 (λ_ _=>rfl) l λs=>?_;unfold Gl Uv Sa Kg Nd;rw[Bgq (F:=La) (λn=>M6 n 0 64) (λ_ _=>rfl) s λn=>by unfold La Qr;rfl];simp only[Bzy,R.ok_bind,A5m (rfl:R.ok (s.all λn=>M6 n 0 64)=_)];rfl
def B3p (t:Tables)(g:Leg):Bool:=(((M6 g.Segment 0 127&&M6 g.Volume 0 (wrap .i64 (t.Volumes-1)))&&M6 g.Length 1 4096)&&decide ((g.Minutes.length:Int)>0))&&g.Minutes.all A2d
def B46 (g:Leg)(t:Tables):P1 g t=.ok (B3p t g):=by
 unfold P1;have e:∀b:Bool,((if b=true then(0:Int)else 50)==0)=b:=λb=>by cases b<;>rfl
 simp only[Bzy,B12,R.ok_bind,e,A5m (rfl:R.ok (M6 g.Volume 0 (wrap .i64 (t.Volumes-1)))=_),A5m (rfl:R.ok (M6 g.Length 1 4096)=_),A5m (rfl:R.ok (g.Minutes.all A2d)=_)];rfl
def apB (t:Tables)(n:Int):Bool:=M6 n 0 (wrap .i64 ((t.Modes.length:Int)-1))
def B1d (t:Tables)(w:Way):Bool:=((apB t w.From&&apB t w.To)&&M6 (w.Legs.length:Int) 1 8)&&w.Legs.all (B3p t)
def B5p (l:List Way)(t:Tables):Nr l t=.ok (l.all (B1d t)):=by unfold Nr Ki Ni;refine Bgq (F:=λw=>Ny w t) (B1d t) (λ_ _=>rfl) l λw=>?_;show Ny w t=_;unfold Ny Uu Mr R8 Kd Na;rw[Bgq (F:=λg=>Ns g t) (B3p t) (λ_ _=>rfl) w.Legs λg=>by show Ns g t=_;unfold Ns;rw[B46];rfl];simp only[Bzy,R.ok_bind,A5m (rfl:R.ok (M6 w.To 0 (wrap .i64 ((t.Modes.length:Int)-1)))=_),A5m (rfl:R.ok (M6 (w.Legs.length:Int) 1 8)=_),A5m (rfl:R.ok (w.Legs.all (B3p t))=_)];rfl
def A86:List (Int×Int×Int)->List Int
 |[]=>[]
 |(x,lo,hi)::l=>x::lo::hi::A86 l
def Bzw:∀l,(A86 l).length=3*l.length
 |[]=>rfl
 |(x,lo,hi)::l=>by simp only[A86,BV,Bzw l];omega
def B23:∀(l:List (Int×Int×Int)) (k:Nat) (x lo hi:Int),l[k]?=some (x,lo,hi)->(A86 l)[3*k]?=some x/\(A86 l)[3*k+1]?=some lo/\(A86 l)[3*k+2]?=some hi
 |[],k,x,lo,hi,h=>by simp at h
 |(y,a,b)::l,0,x,lo,hi,h=>by simp at h;obtain⟨rfl,rfl,rfl⟩:=h;exact⟨rfl,rfl,rfl⟩
 |(y,a,b)::l,k+1,x,lo,hi,h=>by have:=B23 l k x lo hi (by simpa using h);rw[show 3*(k+1)=3*k+1+1+1 by omega];simpa[A86]using this
def ok3 (t:Int×Int×Int):Bool:=!(decide (t.1<t.2.1))&&!(decide (t.1>t.2.2))
def B02 (ts:List (Int×Int×Int))(z:ts.length<=100):∀(n k:Nat),k+n=ts.length->loop (λi=>Acx (A86 ts) i) ((3*k:Nat):Int)=.ok (if(ts.drop k).all ok3 then .inl ()else .inr false)
 |0,k,h=>by rw[Ms];unfold Acx;rw[Ok (by omega) (by omega),if_neg (by rw[Bzw];omega),CV (by omega)];rfl
 |n+1,k,h=>by
  have hk:k<ts.length:=by omega
  obtain⟨g1,A,g3⟩:=B23 ts k ts[k].1 ts[k].2.1 ts[k].2.2 (AA hk);have D:=B02 ts z n (k+1) (by omega);rw[EG hk,DU];rw[Ms];unfold Acx;have G:wrap .i64 (((3*k:Nat):Int)+1)=((3*k+1:Nat):Int):=by rw[Ok (by omega) (by omega)];omega
  have O:wrap .i64 (((3*k:Nat):Int)+2)=((3*k+2:Nat):Int):=by rw[Ok (by omega) (by omega)];omega
  have S:wrap .i64 (((3*k:Nat):Int)+3)=((3*(k+1):Nat):Int):=by rw[Ok (by omega) (by omega)];omega
  rw[G,O,if_pos (by rw[Bzw];omega),Zo g1,R.ok_bind,Zo A,R.ok_bind];unfold Pe;rw[S,Zo g3];simp only[R.ok_bind,ok3];by_cases h1:ts[k].1<ts[k].2.1
  .simp only[DW h1,if_true,HD,IB,BD,if_false];rfl
  .simp only[DZ h1,if_false,Bool.not_false,FW,BD];by_cases h2:ts[k].1>ts[k].2.2
   .simp only[DW h2,if_true,HD,IB,BD,if_false];rfl
   .simp only[DZ h2,if_false,Bool.not_false,FW,BD];exact D
def B1w (ts:List (Int×Int×Int))(z:ts.length<=100):Yw (A86 ts)=.ok (ts.all ok3):=by unfold Yw;rw[show(0:Int)=((3*0:Nat):Int)from rfl,B02 ts z ts.length 0 (AE _),DV];cases ts.all ok3<;>rfl
def Bk1 (k:Kind):Bool:=([(k.Slow,1,64),(k.Fast,k.Slow,64),(k.Places,1,8),(k.Weight,1,8),(k.Longest,0,60),((k.Curfews.length:Int),0,16)].all ok3&&!((Int.tmod k.Longest 10)!=0))&&k.Curfews.all λl=>l.all A2d
def B43 (k:Kind):Ae1 k=.ok (if Bk1 k then 0 else 120):=by
 unfold Ae1 V2 Er E6;have e:∀b:Bool,((if b=true then(0:Int)else 50)!=0)=!b:=λb=>by cases b<;>rfl
 rw[show([k.Slow,1,64,k.Fast,k.Slow,64,k.Places,1,8,k.Weight,1,8,k.Longest,0,60,(k.Curfews.length:Int),0,16]:List Int)=A86 [(k.Slow,1,64),(k.Fast,k.Slow,64),(k.Places,1,8),(k.Weight,1,8),(k.Longest,0,60),((k.Curfews.length:Int),0,16)]from rfl,B1w _ (by simp)];rw[Bgq (F:=Nt) (λl=>l.all A2d) (λ_ _=>rfl) k.Curfews λl=>by unfold Nt;rw[B12,R.ok_bind,e]];simp only[R.ok_bind];unfold Bk1;generalize [(k.Slow,1,64),(k.Fast,k.Slow,64),(k.Places,1,8),(k.Weight,1,8),(k.Longest,0,60),((k.Curfews.length:Int),0,16)].all ok3=b;generalize (k.Curfews.all λl=>l.all A2d)=c;cases b<;>cases c<;>cases((Int.tmod k.Longest 10)!=0)<;>rfl
def B4e (l:List Kind)(t:Tables):L3 l t=.ok (l.all λk=>Bk1 k&&((k.Curfews.length:Int)==(t.Modes.length:Int))):=by unfold L3 Ji Ml;refine Bgq (F:=λw=>Lv w t) (λk=>Bk1 k&&((k.Curfews.length:Int)==(t.Modes.length:Int))) (λ_ _=>rfl) l λk=>?_;show Lv k t=_;unfold Lv Ul;rw[B43];cases Bk1 k<;>rfl
def Avj (t:Tables):Airspace:={Volumes:=(List.replicate (Int.toNat t.Volumes) Auw),Sectors:=t.Sectors,Configs:=t.Configs,Segments:=[],Routes:=[],Airports:=[],Classes:=[],Rules:=[]}
def A4t (t:Tables):∃e,Fv (Avj t)=.ok e/\Ky t=.ok (if((((((M6 t.Volumes 1 64&&e==0)&&t.Sectors.all As4)&&!(decide ((t.Modes.length:Int)>16)))&&t.Modes.all Aq4)&&(!(decide ((t.Ways.length:Int)>64))&&t.Ways.all (B1d t)))&&(!(decide ((t.Kinds.length:Int)>8))&&t.Kinds.all λk=>Bk1 k&&((k.Curfews.length:Int)==(t.Modes.length:Int))))=true then 0 else 140):=by
 obtain⟨e,z,_⟩:=Axf (Avj t);refine⟨e,z,?_⟩;unfold Ky;rw[Bzy,R.ok_bind];have h1:(if(!M6 t.Volumes 1 64)=true then R.ok true else(Vw t).bind λr1=>(Fv r1).bind λr2=>R.ok (r2 !=0))=.ok (!(M6 t.Volumes 1 64&&e==0)):=by
  cases A:M6 t.Volumes 1 64 with
  |false=>rfl
  |true=>
   have G:t.Volumes>=1/\t.Volumes<=64:=by unfold M6 at A;simpa using A
   have D:Vw t=.ok (Avj t):=by unfold Vw;rw[if_pos (⟨by omega,EO _,Dt (by omega)⟩:(0:Int)<=t.Volumes/\(t.Volumes:Int)<=t.Volumes/\(Int.toNat t.Volumes)*40<=Bj)];rfl
   rw[D];simp only[HD,BD,if_false,R.ok_bind,z,FW];rfl
 rw[h1];simp only[A3l,A1h,B5p,B4e,R.ok_bind];generalize (M6 t.Volumes 1 64&&e==0)=b1;generalize t.Sectors.all As4=b2;generalize decide ((t.Modes.length:Int)>16)=b3;generalize t.Modes.all Aq4=b4;generalize decide ((t.Ways.length:Int)>64)=b5;generalize t.Ways.all (B1d t)=b6;generalize decide ((t.Kinds.length:Int)>8)=b7;generalize (t.Kinds.all λk=>Bk1 k&&((k.Curfews.length:Int)==(t.Modes.length:Int)))=b8;cases b1<;>cases b2<;>cases b3<;>cases b4<;>cases b5<;>cases b6<;>cases b7<;>cases b8<;>rfl
structure Valid (t:Tables):Prop where
 way:∀w∈t.Ways,B1d t w=true
 kin:∀k∈t.Kinds,Bk1 k=true
abbrev Bre:T250:={fValid:=(#v[249,250,251,253,254]:(Vector Nat 5))}
def Bry (a:Airspace)(r:Rule):Vd r a Bre=(Acp a r).bind λb=>.ok (!b):=by
 have O:T4 [r.Hours]=.ok (if A2d r.Hours=true then 0 else 50):=by rw[B12];simp
 by_cases z:(decide (r.Class<0)||decide (r.Class>=(a.Classes.length:Int)))=true
 .have S:Acp a r=.ok false:=by unfold Acp;rw[if_pos z]
  rw[S]
  unfold Vd
  simp only[BU,BB]at z
  by_cases h1:r.Kind<0
  .rw[if_pos (by simpa using h1)];rfl
  rw[if_neg (by simpa using h1)]
  by_cases h2:r.Kind>=5
  .rw[if_pos (by simpa using h2)];rfl
  rw[if_neg (by simpa using h2)]
  by_cases G:r.Class<0
  .rw[if_pos (by simpa using G)];rfl
  rw[if_neg (by simpa using G),if_pos (by simp;omega)];rfl
 .have A:(((r.Airport !=0)||(r.Hours.From !=0))||(r.Hours.To !=0))=!((r.Airport==0)&&((r.Hours.From==0)&&(r.Hours.To==0))):=by
   simp only[bne];cases(r.Airport==0)<;>cases(r.Hours.From==0)<;>cases(r.Hours.To==0)<;>rfl
  have D:(r.Kind<0\/r.Kind>=5\/r.Kind=0)->Acp a r=.ok false:=λhk=>by unfold Acp;rw[if_neg z,if_neg (by simp only[CX];omega),if_neg (show ¬(r.Kind==2)=true by simp only[CX];omega),if_neg (show ¬(r.Kind==3)=true by simp only[CX];omega),if_neg (show ¬(r.Kind==4)=true by simp only[CX];omega)];split<;>rfl
  have v1:r.Kind=1->Acp a r=.ok ((((((decide (r.Airport>=0))&&(decide (r.Airport<(a.Airports.length:Int))))&&(r.N==0))&&(decide (r.Hours.From>=0)))&&(decide (r.Hours.From<r.Hours.To)))&&(decide (r.Hours.To<=1440))):=λhk=>by unfold Acp;rw[if_neg z,if_pos (by rw[hk];rfl)]
  have v2:r.Kind=2->Acp a r=.ok (((r.Airport==0)&&((r.Hours.From==0)&&(r.Hours.To==0)))&&(r.N==0)):=λhk=>by unfold Acp;rw[if_neg z,if_neg (by rw[hk];decide),A,if_pos (show(r.Kind==2)=true by rw[hk];rfl)];cases((r.Airport==0)&&((r.Hours.From==0)&&(r.Hours.To==0)))<;>rfl
  have U:r.Kind=3->Acp a r=.ok (((r.Airport==0)&&((r.Hours.From==0)&&(r.Hours.To==0)))&&((decide (r.N>=1))&&(decide (r.N<=8)))):=λhk=>by unfold Acp;rw[if_neg z,if_neg (by rw[hk];decide),A,if_neg (show ¬(r.Kind==2)=true by rw[hk];decide),if_pos (show(r.Kind==3)=true by rw[hk];rfl)];cases((r.Airport==0)&&((r.Hours.From==0)&&(r.Hours.To==0)))<;>rfl
  have V:r.Kind=4->Acp a r=.ok (((r.Airport==0)&&((r.Hours.From==0)&&(r.Hours.To==0)))&&(((decide (r.N>=0))&&(decide (r.N<=60)))&&((Int.tmod r.N 10)==0))):=λhk=>by unfold Acp;rw[if_neg z,if_neg (by rw[hk];decide),A,if_neg (show ¬(r.Kind==2)=true by rw[hk];decide),if_neg (show ¬(r.Kind==3)=true by rw[hk];decide),if_pos (show(r.Kind==4)=true by rw[hk];rfl)];cases((r.Airport==0)&&((r.Hours.From==0)&&(r.Hours.To==0)))<;>rfl
  unfold Vd
  simp only[BU,BB,not_or]at z
  by_cases h1:r.Kind<0
  .rw[if_pos (by simpa using h1),D (by omega),R.ok_bind];rfl
  rw[if_neg (by simpa using h1)]
  by_cases h2:r.Kind>=5
  .rw[if_pos (by simpa using h2),D (by omega),R.ok_bind];rfl
  rw[if_neg (by simpa using h2),if_neg (by simpa using z.1),if_neg (by simpa using z.2),if_pos (by omega)]
  have hk:r.Kind=0\/r.Kind=1\/r.Kind=2\/r.Kind=3\/r.Kind=4:=by omega
  unfold Y1 Zs Zd Zf Zj Q5
  rw[O]
  rcases hk with h|h|h|h|h
  .rw[D (by omega),h];rfl
  .rw[v1 h,h];have W:decide (r.Hours.From<0)=!decide (r.Hours.From>=0):=by by_cases h:r.Hours.From>=0<;>simp[h]<;>omega
   have X:decide (r.Hours.From>=r.Hours.To)=!decide (r.Hours.From<r.Hours.To):=by by_cases h:r.Hours.From<r.Hours.To<;>simp[h]<;>omega
   have Y:decide (r.Hours.To>1440)=!decide (r.Hours.To<=1440):=by by_cases h:r.Hours.To<=1440<;>simp[h]<;>omega
   unfold A2d;rw[W,X,Y];cases decide (r.Airport>=0)<;>cases decide (r.Airport<(a.Airports.length:Int))<;>cases(r.N==0)<;>cases decide (r.Hours.From>=0)<;>cases decide (r.Hours.From<r.Hours.To)<;>cases decide (r.Hours.To<=1440)<;>rfl
  .rw[v2 h,h];cases((r.Airport==0)&&((r.Hours.From==0)&&(r.Hours.To==0)))<;>cases(r.N==0)<;>rfl
  .rw[U h,h];cases((r.Airport==0)&&((r.Hours.From==0)&&(r.Hours.To==0)))<;>cases decide (r.N>=1)<;>cases decide (r.N<=8)<;>rfl
  .rw[V h,h];cases((r.Airport==0)&&((r.Hours.From==0)&&(r.Hours.To==0)))<;>cases decide (r.N>=0)<;>cases decide (r.N<=60)<;>cases((Int.tmod r.N 10)==0)<;>rfl
def Brw (a:Airspace)(r:Rule):∃b,Acp a r=.ok b:=by
 unfold Acp;repeat' split
 all_goals exact⟨_,rfl⟩
def Ado (a:Airspace)(r:Rule):Bool:=match Acp a r with|.ok b=>b|_=>false
def Ask (a:Airspace)(r:Rule):Acp a r=.ok (Ado a r):=by obtain⟨b,h⟩:=Brw a r;unfold Ado;rw[h]
def Bo4{b:Nat->α->Unit->R (Unit ⊕ ε)}(f:α->Bool)(z:ε)(A:∀j a,b j a ()=.ok (if f a=true then .inl ()else .inr z)):∀(l:List α) (k:Nat),each b k l ()=.ok (if l.all f=true then .inl ()else .inr z)
 |[],_=>rfl
 |a::l,k=>by
  rw[Abg,A,R.ok_bind,DU];cases f a
  .rfl
  .exact Bo4 f z A l (k+1)
def Aq3 (a:Airspace):My a=Tv a:=by
 unfold My Tv Ae3;rw[R.ok_bind];by_cases h:(a.Rules.length:Int)>64
 .rw[if_pos h,if_pos (by simpa using h)];rfl
 rw[if_neg h,if_neg (by simpa using h)];rw[Bo4 (b:=λ_ a1=>λ_=>An3 a a1) (Ado a) 130 (λj r=>by show An3 a r=_;unfold An3;rw[Ask,R.ok_bind];cases Ado a r<;>rfl)];unfold Jn Lq;have:=B54 (b:=λj r=>λ_=>Oy a Bre j r) (F:=λr=>Vd r a Bre) (λr=>!Ado a r) (λ_ _=>rfl) a.Rules λr=>by rw[Bry,Ask];rfl
 rw[this,R.ok_bind,R.ok_bind];have e:(a.Rules.any λr=>!Ado a r)=!a.Rules.all (Ado a):=by
  induction a.Rules with
  |nil=>rfl
  |cons x l z=>simp only[List.any_cons,DU,Bool.not_and,z]
 rw[e];cases a.Rules.all (Ado a)<;>rfl
def Brt (x y:Rule):Aux x y=Wl x y:=by
 unfold Aux Wl;by_cases A:(x.Class !=y.Class)=true
 .rw[if_pos A,if_pos A]
 rw[if_neg A,if_neg A];by_cases hk:x.Kind=y.Kind
 .rw[hk,show(y.Kind==y.Kind)=true from beq_self_eq_true _,FW,if_pos rfl];by_cases z:((y.Kind==3)||(y.Kind==4))=true
  .rw[if_pos z,z,FW]
  .rw[if_neg z,Bool.eq_false_iff.2 z,IB];have G:(y.Kind==4)=false:=by
    cases h:(y.Kind==4)with
    |false=>rfl
    |true=>rw[h,Bool.or_true]at z;exact absurd rfl z
   rw[G];cases(y.Kind==2)<;>rfl
 .have D:(x.Kind==y.Kind)=false:=by simpa using hk
  rw[D,IB,if_neg (by decide),if_neg (by decide),Bool.and_comm (y.Kind==2)]
def Al6 (l:List Rule)(k c o:Int):Int:=match l.find? λr=>(r.Kind==k)&&(r.Class==c)with|some r=>r.N|none=>o
def Bma (a:Airspace)(k c o:Int):Ads a k c o=.ok (Al6 a.Rules k c o):=by
 unfold Ads Al6;have:∀(l:List Rule) (i:Nat),each (λ_ a1=>λ_=>Asd k c a1) i l ()=.ok (match l.find? λr=>(r.Kind==k)&&(r.Class==c)with|some r=>.inr r.N|none=>.inl ()):=by
  intro l;induction l with
  |nil=>intro i;rfl
  |cons r l z=>
   intro i;rw[Abg,FP];unfold Asd;cases h:((r.Kind==k)&&(r.Class==c))
   .rw[if_neg (by decide),R.ok_bind];exact z (i+1)
   .rfl
 rw[this,R.ok_bind];cases a.Rules.find? λr=>(r.Kind==k)&&(r.Class==c)<;>rfl
def Bdl (a:Airspace)(k c o:Int):Ru a k c o=.ok (Al6 a.Rules k c o):=by
 unfold Ru Al6 Kb;have:∀(l:List Rule) (i:Nat),(∃(j:Nat) (r:Rule),l[j]?=some r/\(l.find? λr=>(r.Kind==k)&&(r.Class==c))=some r/\each (λj a=>λ_=>M9 k c j a) i l ()=.ok (.inr ((i+j:Nat):Int)))\/((l.find? λr=>(r.Kind==k)&&(r.Class==c))=none/\each (λj a=>λ_=>M9 k c j a) i l ()=.ok (.inl ())):=by
  intro l;induction l with
  |nil=>intro i;exact .inr ⟨rfl,rfl⟩
  |cons r l D=>
   intro i;have z:M9 k c i r=if((r.Kind==k)&&(r.Class==c))=true then .ok (.inr (i:Int))else .ok (.inl ()):=rfl;cases h:((r.Kind==k)&&(r.Class==c))
   .rw[List.find?_cons_of_neg (by simp[h])];rcases D (i+1)with⟨j,q,h1,h2,A⟩|⟨h1,h2⟩
    .refine .inl ⟨j+1,q,by simpa using h1,h2,?_⟩;rw[Abg,z,h,if_neg (by decide),R.ok_bind,show i+(j+1)=i+1+j by omega];exact A
    .refine .inr ⟨h1,?_⟩;rw[Abg,z,h,if_neg (by decide),R.ok_bind];exact h2
   .refine .inl ⟨0,r,rfl,by rw[List.find?_cons_of_pos (by simp[h])],?_⟩;rw[Abg,z,h,if_pos rfl];rfl
 rcases this a.Rules 0 with⟨j,r,h1,h2,A⟩|⟨h1,h2⟩
 .rw[A,h2];show(if((0+j:Nat):Int)<0 then R.ok o else(idx a.Rules ((0+j:Nat):Int)).bind λa1=>.ok a1.N)=_;rw[if_neg (by omega),AE,Zo h1];rfl
 .rw[h2,h1];rfl
def Bja (a:Airspace)(h:OpSmall a):An (Qc a) T1:=by unfold Qc;rw[A0p a h,R.ok_bind];exact An.ite (λ_=>.ok trivial) λ_=>(Avl _ _).bind λ_ _=>.ok trivial
def Bhs (a:Airspace)(h:OpSmall a):An (P6 a) T1:=by unfold P6;rw[A2m a h,R.ok_bind];exact An.ite (λ_=>.ok trivial) λ_=>(Avl _ _).bind λ_ _=>.ok trivial
def Bjb (a:Airspace):An (P3 a) T1:=by unfold P3;exact(Be1 a).bind λr _=>(Avl _ _).bind λ_ _=>.ok trivial
def Bg1 (a:Airspace)(h:LowOk a):An (N6 a) λr=>TabOk r.1:=by
 have z:∀e,An (Fb e) (Sm T1 λr=>TabOk r.1):=λe=>by unfold Fb;exact An.ite (λ_=>.ok A47) λ_=>.ok trivial
 unfold N6 Zb;rw[R.ok_bind];refine An.alt (I:=T1) (J:=λr=>TabOk r.1) ((Lu (λ_ _=>True) (λ(r:Tables×Int)=>TabOk r.1) [76,84,87,88,90,92] 0 () (λj x u S _=>?_) trivial).mono λr hr=>by
  cases r with
  |inl u=>trivial
  |inr r=>exact hr) (λ_ _=>?_) λe U=>.ok U
 .have A:=AH S;simp only[AN,BW,or_false]at A;refine An.mono (p:=Sm T1 λr=>TabOk r.1) ?_ λr hr=>by
   cases r with
   |inl u=>trivial
   |inr r=>exact hr
  unfold Z5;refine An.ite (λ_=>(Axf a).bind λe _=>z e) λV=>An.ite (λ_=>(Ber a).bind λe _=>z e) λW=>An.ite (λ_=>(Apq a).bind λe _=>z e) λX=>An.ite (λ_=>(Bjb a).bind λe _=>z e) λY=>An.ite (λ_=>(Bja a h.toOpSmall).bind λe _=>z e) λZ=>An.ite (λ_=>(Bhs a h.toOpSmall).bind λe _=>z e) λn6=>?_;rcases A with h|h|h|h|h|h
  .exact absurd h V
  .exact absurd h W
  .exact absurd h X
  .exact absurd h Y
  .exact absurd h Z
  .exact absurd h n6
 .refine(Bnu a.Sectors h.sec h.secv).bind λr1 h1=>(Boa a.Configs h.con h.cons).bind λr2 h2=>(Bnx a h.toOpSmall).bind λr3 D=>(Bnh a.Airports h.air h.mod).bind λr4 G=>(Boh a h.cla h.air).bind λr5 O=>?_;refine(A7g _).bind λr6 _=>An.ite (λ_=>.ok A47) λ_=>.ok ?_;exact{sec:=by rw[h1.1];exact h.sec,secv:=h1.2,con:=by rw[h2.1];exact h.con,cons:=h2.2,way:=by rw[D.1];have:=Xd;have:=h.rt;omega,legs:=D.2,mod:=by rw[G.1];exact h.air,mods:=G.2,kin:=by rw[O.1];exact h.cla,cur:=O.2}
def Dp:Nat->Value->Prop
 |0,v=>v.L=[]
 |n+1,v=>∀x∈v.L,Dp n x
def Dp.up{v:Value}:Dp n v->Dp (n+1) v:=by
 induction n generalizing v with
 |zero=>intro h x z;rw[show v.L=[]from h]at z;cases z
 |succ n A=>intro h x z;exact A (h x z)
def Bgu:∀(n:Nat) (v:Value),Dp n v->∀m,n<m->Ol m v v=.ok true
 |n,v,h,0,A=>absurd A (by omega)
 |n,v,h,m+1,A=>by
  show Yp (Ol m) v v=.ok true;unfold Yp;rw[if_neg (by simp)];have key:each (λj a1=>λ_=>Aaz v (Ol m) j a1) 0 v.L ()=.ok (.inl ()):=by
   refine A6w (s:=()) v.L 0 λj x z=>?_;unfold Aaz;rw[AE,Zo z,R.ok_bind];have D:Ol m x x=.ok true:=by
    match n,h with
    |0,h=>rw[show v.L=[]from h]at z;cases z
    |n+1,h=>exact Bgu n x (h x (AH z)) m (by omega)
   rw[D];rfl
  rw[key];rfl
def Awz (l:List Int)(h:l.length<=NN):An (J6 l) (Dp 1):=by unfold J6;exact(Mz (F:=λ_ a=>Fa a) (c:=56) (Dp 0) (λ_ _ _=>rfl) l (by decide) h λj a _=>.ok rfl).bind λy z=>.ok z.2
def A1t (l:List Span)(h:l.length<=NN):An (Q4 l) (Dp 2):=by unfold Q4;exact(Mz (F:=λ_ (a:Span)=>J6 [a.From,a.To]) (c:=56) (Dp 1) (λ_ _ _=>rfl) l (by decide) h λj a _=>Awz _ (by have:=Xd;simp only[BV,CW];omega)).bind λy z=>.ok z.2
def Aao (n:Int)(k:Nat):Dp k ({Kind:=1,N:=n,S:=[],L:=[]}:Value):=by
 cases k with
 |zero=>rfl
 |succ k=>exact λx z=>absurd z (by simp)
def Bkf (w:Way)(h:w.Legs.length<=NN)(D:∀g∈w.Legs,g.Minutes.length<=NN):An (Abh w) (Dp 5):=by
 unfold Abh;refine(Mz (F:=λ_ (a:Leg)=>(Q4 a.Minutes).bind λA=>Iw [({Kind:=1,N:=a.Segment,S:=[],L:=[]}:Value),({Kind:=1,N:=a.Volume,S:=[],L:=[]}:Value),({Kind:=1,N:=a.Length,S:=[],L:=[]}:Value),A]) (c:=56) (Dp 3) (λj g y=>by simp only[Ai0,Fa,Iw,R.ok_bind,R.bind_assoc]) w.Legs (by decide) h λj g G=>(A1t _ (D g G)).bind λA O=>.ok λx z=>?_).bind λl U=>.ok λx z=>?_
 .simp only[AN,BW,or_false]at z;rcases z with rfl|rfl|rfl|rfl
  .exact Aao _ _
  .exact Aao _ _
  .exact Aao _ _
  .exact O
 .simp only[AN,BW,or_false]at z;rcases z with rfl|rfl|rfl
  .exact Aao _ _
  .exact Aao _ _
  .exact U.2
def A90 (t:Tables)(h:TabOk t):An (Q9 t) (Dp 8):=by
 unfold Q9;refine(Mz (F:=λ_ (a:Sector)=>(J6 a.Volumes).bind λr=>Iw [r,({Kind:=1,N:=a.Radar,S:=[],L:=[]}:Value),({Kind:=1,N:=a.Procedural,S:=[],L:=[]}:Value)]) (c:=56) (Dp 2) (λj g y=>by simp only[Z3,Fa,Iw,R.ok_bind,R.bind_assoc]) t.Sectors (by decide) h.sec λj g A=>(Awz _ (h.secv g A)).bind λr hr=>.ok λx z=>?_).bind λl X=>?_
 .simp only[AN,BW,or_false]at z;rcases z with rfl|rfl|rfl
  .exact hr
  .exact Aao _ _
  .exact Aao _ _
 refine(Mz (F:=λ_ (a:Config)=>J6 a.Sectors) (c:=56) (Dp 1) (λj g y=>rfl) t.Configs (by decide) h.con λj g A=>Awz _ (h.cons g A)).bind λl1 G=>?_;refine(Mz (F:=λ_ (a:Way)=>Abh a) (c:=56) (Dp 5) (λj g y=>rfl) t.Ways (by decide) h.way λj g A=>Bkf _ (h.legs g A).1 (h.legs g A).2).bind λl2 O=>?_;refine(Mz (F:=λ_ (a:List Int)=>J6 a) (c:=56) (Dp 1) (λj g y=>rfl) t.Modes (by decide) h.mod λj g A=>Awz _ (h.mods g A)).bind λl3 U=>?_;refine(Mz (F:=λ_ (a:Kind)=>(A5 (λ_ Y=>λD=>Z8 Y D) 0 a.Curfews []).bind λD=>Iw [({Kind:=1,N:=a.Slow,S:=[],L:=[]}:Value),({Kind:=1,N:=a.Fast,S:=[],L:=[]}:Value),({Kind:=1,N:=a.Places,S:=[],L:=[]}:Value),({Kind:=1,N:=a.Weight,S:=[],L:=[]}:Value),({Kind:=1,N:=a.Longest,S:=[],L:=[]}:Value),({Kind:=3,N:=0,S:=[],L:=D}:Value)]) (c:=56) (Dp 4) (λj g y=>by simp only[Z1,Fa,Iw,R.ok_bind,R.bind_assoc]) t.Kinds (by decide) h.kin λj g A=>?_).bind λl4 V=>.ok λx z=>?_
 .refine(Mz (F:=λ_ (a:List Span)=>Q4 a) (c:=56) (Dp 2) (λj g y=>rfl) g.Curfews (by decide) (h.cur g A).1 λj c Z=>A1t _ ((h.cur g A).2 c Z)).bind λD W=>.ok λx z=>?_;simp only[AN,BW,or_false]at z;rcases z with rfl|rfl|rfl|rfl|rfl|rfl
  .exact Aao _ _
  .exact Aao _ _
  .exact Aao _ _
  .exact Aao _ _
  .exact Aao _ _
  .exact W.2
 .simp only[AN,BW,or_false]at z;rcases z with rfl|rfl|rfl|rfl|rfl|rfl
  .exact Aao _ _
  .exact λx z=>(X.2 x z).up.up.up.up
  .exact λx z=>(G.2 x z).up.up.up.up.up
  .exact λx z=>(O.2 x z).up
  .exact λx z=>(U.2 x z).up.up.up.up.up
  .exact λx z=>(V.2 x z).up.up
def Bcb (t:Tables)(h:TabOk t):S7 t t=.ok true:=by obtain⟨v,z,A⟩:=A90 t h;unfold S7 Ant;rw[z];simp only[R.ok_bind];rw[Bgu 8 v A Aot (by rw[Bnj];omega)];rfl
def R.ok_of{m:R α}{f:α->R β}{x:β}(h:m.bind f=.ok x):∃a,m=.ok a/\f a=.ok x:=by
 cases m with
 |ok a=>exact⟨a,rfl,h⟩
 |pan v=>cases h
 |bad=>cases h
def A3a{b:Nat->α->List β->R (List β)}{g:α->β}{c:Nat}(z:∀j a s,b j a s=if(s.length+1)*c<=Bj then .ok (s++[g a])else .bad):∀(l:List α) (k:Nat) (s r:List β),A5 b k l s=.ok r->r=s++l.map g
 |[],k,s,r,h=>by rw[Anw]at h;cases h;simp
 |a::l,k,s,r,h=>by
  rw[Ic,z]at h;obtain⟨s',h1,h2⟩:=R.ok_of h;split at h1
  .cases h1;rw[A3a z l (k+1) _ r h2];simp
  .cases h1
variable{t:Tables}
theorem Aus{m:R Int}{g:Unit→R (Tables×Int)}{k:Nat}{l:List Nat}{b:Nat→Nat→Unit→R (Unit ⊕ (Tables×Int))}(A:b k x ()=m.bind Fb)(h:(each b k (x::l) ()).bind (alt g (λr=>.ok r))=.ok (t,0)):m=.ok 0∧(each b (k+1) l ()).bind (alt g (λr=>.ok r))=.ok (t,0):=by
 rw[Abg,A]at h;cases m with
 |ok e=>
  rw[R.ok_bind]at h;unfold Fb at h;by_cases z:e=0
  ·subst z;exact⟨rfl,h⟩
  ·rw[if_pos (by simpa using z)]at h;have h:(R.ok (({Volumes:=0,Sectors:=[],Configs:=[],Ways:=[],Modes:=[],Kinds:=[]}:Tables),e):R (Tables×Int))=.ok (t,0):=h;injection h with h;injection h with _ h;exact absurd h z
 |pan v=>cases h
 |bad=>cases h
def lS (s:Sector):Sector:={Name:=[],Names:=[],Volumes:=s.Volumes,Radar:=s.Radar,Procedural:=s.Procedural}
def lC (c:Config):Config:={Name:=[],Names:=[],Sectors:=c.Sectors}
structure Lowd (a:Airspace)(t:Tables):Prop where
 check:Fv a=.ok 0
 stuck:P0 a=.ok 0
 rules:Tv a=.ok 0
 reason:P3 a=.ok 0
 passable:Qc a=.ok 0
 blocked:P6 a=.ok 0
 vol:t.Volumes=(a.Volumes.length:Int)
 sec:t.Sectors=a.Sectors.map lS
 con:t.Configs=a.Configs.map lC
 way:Ls a.Routes a=.ok t.Ways
 mod:G6 a.Airports=.ok t.Modes
 kin:Kv a.Classes a=.ok t.Kinds
 tab:Ky t=.ok 0
def Boq(h:N6 a=.ok (t,0)):Lowd a t:=by
 unfold N6 Zb at h;rw[R.ok_bind]at h;obtain⟨s1,h⟩:=Aus (m:=Fv a) rfl h;obtain⟨s2,h⟩:=Aus (m:=P0 a) rfl h;obtain⟨G,h⟩:=Aus (m:=Tv a) rfl h;obtain⟨O,h⟩:=Aus (m:=P3 a) rfl h;obtain⟨S,h⟩:=Aus (m:=Qc a) rfl h;obtain⟨U,h⟩:=Aus (m:=P6 a) rfl h;rw[Bnb,R.ok_bind]at h;obtain⟨r1,z,h⟩:=R.ok_of h;obtain⟨r2,A,h⟩:=R.ok_of h;obtain⟨r3,V,h⟩:=R.ok_of h;obtain⟨r4,W,h⟩:=R.ok_of h;obtain⟨r5,X,h⟩:=R.ok_of h;obtain⟨Y,Z,h⟩:=R.ok_of h;by_cases D:Y=0
 .subst D;rw[if_neg (by decide)]at h;injection h with h;injection h with h _;subst h;refine⟨s1,s2,G,O,S,U,rfl,?_,?_,V,W,X,Z⟩
  .unfold G2 at z;obtain⟨y,z,e⟩:=R.ok_of z;cases e;exact A3a (g:=lS) (c:=80) (λj a s=>rfl) _ _ _ _ z
  .unfold Gx at A;obtain⟨y,A,e⟩:=R.ok_of A;cases e;exact A3a (g:=lC) (c:=64) (λj a s=>rfl) _ _ _ _ A
 .rw[if_pos (by simpa using D)]at h;injection h with h;injection h with _ h;exact absurd h (by decide)
def Bl4 (l:List Span):Ak4 l=.ok (Bf8 l []):=by unfold Ak4;rw[Azr,R.ok_bind,Bhm _ (by simp),R.ok_bind];unfold Bf8;congr 3;funext i;simp[Xk]
def Bq6 (l:List Span):Ab5 l=Ak4 l:=by rw[Bl4];unfold Ab5;rw[Bo6];rfl
def Bqg(h:Tv a=.ok 0)(c p:Nat)(z:c<a.Classes.length)(hp:p<a.Airports.length):X6 a c p=Aq2 a c p:=by unfold X6 Aq2;rw[A2x h (by omega),Aq3,h,R.ok_bind,R.ok_bind,if_neg (by decide),if_neg (by simp<;>omega),if_neg (by decide),if_neg (by simp<;>omega)];simp only[Bq6];rfl
def Bqj(h:Tv a=.ok 0)(c:Nat)(z:c<a.Classes.length):Yi a c=Aqj a c:=by unfold Yi Aqj;rw[A2x h (by omega),Aq3,h,R.ok_bind,R.ok_bind,if_neg (by decide),if_neg (by decide),if_neg (by simp<;>omega),Bdl,Bma]
def Bej{r:Rule}(h:Ado a r=true):(r.Kind=2->r.N=0)/\(r.Kind=4->0<=r.N/\r.N<=60):=by
 have hv:=Ask a r;rw[h]at hv;unfold Acp at hv;split at hv
 .cases hv
 split at hv
 .rename_i h1;have:r.Kind=1:=by simpa using h1
  exact⟨λe=>by omega,λe=>by omega⟩
 split at hv
 .cases hv
 split at hv
 .rename_i h2;have h2:r.Kind=2:=by simpa using h2
  injection hv with hv;exact⟨λ_=>by simpa using hv,λe=>by omega⟩
 split at hv
 .rename_i h3;have h3:r.Kind=3:=by simpa using h3
  exact⟨λe=>by omega,λe=>by omega⟩
 split at hv
 .rename_i h2 _ _;injection hv with hv;simp only[AK,BB]at hv;exact⟨λe=>absurd (by rw[e];rfl) h2,λ_=>by omega⟩
 .cases hv
def Bov(h:Tv a=.ok 0):∀r∈a.Rules,Ado a r=true:=by
 rw[<-Aq3]at h;unfold My at h;split at h
 .cases h
 rw[Bo4 (b:=λ_ a1=>λ_=>An3 a a1) (Ado a) 130 (λj r=>by show An3 a r=_;unfold An3;rw[Ask,R.ok_bind];cases Ado a r<;>rfl),R.ok_bind]at h;cases z:a.Rules.all (Ado a)with
 |true=>exact AJ.1 z
 |false=>rw[z]at h;cases h
def Bpz(h:Tv a=.ok 0)(c:Nat)(A:c<a.Classes.length):Wu a c=Apc a c:=by
 unfold Wu Apc;rw[A2x h (by omega),Aq3,h,R.ok_bind,R.ok_bind,if_neg (by decide),if_neg (by decide),if_neg (by simp<;>omega),Bdl,Bdl,Bma,Bma];simp only[R.ok_bind];have z:=Bov h;have D:0<=Al6 a.Rules 4 c 60/\Al6 a.Rules 4 c 60<=60:=by
  unfold Al6;cases hf:a.Rules.find? λr=>(r.Kind==4)&&(r.Class==(c:Int))with
  |none=>exact⟨by decide,by decide⟩
  |some r=>have:=List.find?_some hf;simp only[AK,CX]at this;exact(Bej (z r (HG hf))).2 this.1
 have b2:(Al6 a.Rules 2 c 60=0/\Al6 a.Rules 2 c 1=0)\/(Al6 a.Rules 2 c 60=60/\Al6 a.Rules 2 c 1=1):=by
  unfold Al6;cases hf:a.Rules.find? λr=>(r.Kind==2)&&(r.Class==(c:Int))with
  |none=>exact .inr ⟨rfl,rfl⟩
  |some r=>have:=List.find?_some hf;simp only[AK,CX]at this;have:=(Bej (z r (HG hf))).1 this.1;exact .inl ⟨this,this⟩
 rcases b2 with⟨h1,h2⟩|⟨h1,h2⟩
 .rw[h1,h2,if_pos (show((0:Int)==0)=true from rfl)];congr 2;split<;>omega
 .rw[h1,h2,if_neg (show ¬((1:Int)==0)=true by decide)];congr 2;split<;>omega
def Ak2{b c:Nat->α->σ->R σ}:∀(l:List α) (k:Nat) (s:σ),(∀j a s,l[j]?=some a->b (k+j) a s=c (k+j) a s)->A5 b k l s=A5 c k l s
 |[],_,_,_=>rfl
 |a::l,k,s,h=>by rw[A72,A72,show b k a s=c k a s from h 0 a s rfl];congr 1;funext s';exact Ak2 l (k+1) s' λj x t z=>by have:=h (j+1) x t z;rwa[show k+(j+1)=k+1+j by omega]at this
def Brv(h:Tv a=.ok 0)(j:Nat)(c:Class)(A:a.Classes[j]?=some c):Qa (j:Int) c a=Awi a (j:Int):=by have z:=A6 A;unfold Qa Awi Li;rw[Zo A,R.ok_bind,Bqj h j z,Bpz h j z,R.bind_ok];rw[Ak2 (b:=λi x=>λy=>Vc a (j:Int) i x y) (c:=λi _=>λl=>Aw3 a (j:Int) i l) a.Airports 0 [] λi x s hi=>by unfold Vc Aw3 Md;rw[AE,Bqg h j i z (A6 hi),R.bind_assoc];rfl]
def Brb(A:OpSmall a)(h:Tv a=.ok 0)(F:Tables->R (Tables×Int)):((G2 a.Sectors).bind λr1=>(Gx a.Configs).bind λr2=>(Ls a.Routes a).bind λD=>(G6 a.Airports).bind λr4=>(Kv a.Classes a).bind λG=>F ({Volumes:=(a.Volumes.length:Int),Sectors:=r1,Configs:=r2,Ways:=D,Modes:=r4,Kinds:=G}:Tables))=(Zx a).bind F:=by
 unfold Zx G2 Gx Ls G6 Kv;simp only[R.bind_assoc,R.ok_bind];have O:A5 (λj a1=>λy=>No a j a1 y) 0 a.Routes []=A5 (λS a3=>λU=>Asp a S a3 U) 0 a.Routes []:=Ak2 _ _ _ λj x s z=>by unfold No Asp P8;rw[AE,Bm9 a _ A,Blm a _ A];rfl
 have V:A5 (λj a1=>λy=>Ab3 j a1 y) 0 a.Airports []=A5 (λ_ W=>λX=>Ase W X) 0 a.Airports []:=Ak2 _ _ _ λj x s z=>by unfold Ab3 Ase Qd Mh;simp only[R.bind_assoc,R.ok_bind];rfl
 have Y:A5 (λj a1=>λy=>Mf a j a1 y) 0 a.Classes []=A5 (λZ _=>λl4=>Ari a Z l4) 0 a.Classes []:=Ak2 _ _ _ λj x s z=>by unfold Mf Ari;rw[AE,Brv h j x z]
 rw[O,V,Y];rfl
def Bq9:Hs 0 (List.replicate 1440 true) none=[({From:=0,To:=1440}:Span)]:=by decide+kernel
def Bra (l:List Span):Bf8 l []=[({From:=0,To:=1440}:Span)]↔full l:=by
 constructor
 .intro h i hi;have h1:=Brd l [] hi;rw[h,Bmf hi]at h1;simpa[Xk]using h1.symm
 .intro h;unfold Bf8;have e:((List.range 1440).map λi=>Xk l i||Xk [] i)=List.replicate 1440 true:=by
   refine List.ext_getElem (by rw[AL,EI,DO]) λi h1 h2=>?_;have hi:i<1440:=by rwa[DO]at h2
   rw[List.getElem_map,List.getElem_range,List.getElem_replicate,h i hi,Bool.true_or]
  rw[e,Bq9]
def Brj (l:List Span):An (Ar7 l) λb=>b=true↔full l:=by
 unfold Ar7;rw[Bl4,R.ok_bind,<-Bra];generalize Bf8 l []=u;cases u with
 |nil=>exact⟨false,rfl,by simp⟩
 |cons s u=>
  cases u with
  |nil=>
   refine⟨(s.From==0)&&(s.To==1440),?_,?_⟩
   .rw[if_pos (by simp),Bpo];rfl
   .obtain⟨x,y⟩:=s;simp
  |cons t u=>exact⟨false,by rw[if_neg (by simp;omega)];rfl,by simp⟩
def Ahu (l:List Rule)(c p:Int):List Span:=(l.filter λr=>((r.Kind==1)&&(r.Class==c))&&(r.Airport==p)).map (·.Hours)
structure NoBad (l:List Rule):Prop where
 pair:∀(x y:Nat) p q,x<y->l[x]?=some p->l[y]?=some q->Wl p q=.ok false
 cur:∀r∈l,r.Kind=1->¬full (Ahu l r.Class r.Airport)
def Bp0 (l:List Rule)(hl:l.length<=1000):An (Ac7 l) λb=>b=true↔¬NoBad l:=by
 unfold Ac7;refine An.alt (I:=λ_=>NoBad l) (J:=λ(e:Bool)=>e=true/\¬NoBad l) ((Lu (λk (_:Unit)=>∀i r,i<k->l[i]?=some r->(∀(x:Nat) p,x<i->l[x]?=some p->Wl p r=.ok false)/\(r.Kind=1->¬full (Ahu l r.Class r.Airport))) (λ(e:Bool)=>e=true/\¬NoBad l) l 0 () (λj r u X hI=>?_) (λi r h=>absurd h (DN _))).mono λr hr=>?_) (λ_ h=>.ok ⟨λh'=>(by cases h'),λh'=>absurd h h'⟩) λe Y=>.ok ⟨λ_=>Y.2,λ_=>Y.1⟩
 .rw[AE]at hI ⊢;have ab:=A6 X;unfold Af9;refine An.alt (I:=λ(s:List Span)=>(∀(x:Nat) p,x<j->l[x]?=some p->Wl p r=.ok false)/\s=if r.Kind=1 then Ahu l r.Class r.Airport else[]) (J:=λ(e:Bool)=>e=true/\¬NoBad l) ((Lu (λk (s:List Span)=>(∀(x:Nat) p,x<k->x<j->l[x]?=some p->Wl p r=.ok false)/\s.length<=k/\s=if r.Kind=1 then Ahu (l.take k) r.Class r.Airport else[]) (λ(e:Bool)=>e=true/\¬NoBad l) l 0 [] (λm q s U V=>?_) ⟨λx p h=>absurd h (DN _),AF _,by split<;>rfl⟩).mono λz hz=>?_) (λs V=>?_) λe Y=>.ok Y
  .rw[AE]at V ⊢;have ac:=A6 U;obtain⟨h1,h2,A⟩:=V;have et:l.take (m+1)=l.take m++[q]:=by rw[DB,U];rfl
   have step:(m<j->Wl q r=.ok false)->An (Oo r s q false) (Sm (λ(s:List Span)=>(∀(x:Nat) p,x<m+1->x<j->l[x]?=some p->Wl p r=.ok false)/\s.length<=m+1/\s=if r.Kind=1 then Ahu (l.take (m+1)) r.Class r.Airport else[]) (λ(e:Bool)=>e=true/\¬NoBad l)):=λD=>by
    have Z:∀(x:Nat) p,x<m+1->x<j->l[x]?=some p->Wl p r=.ok false:=λx p hx W hp=>by
     rcases CI x m with h'|h'
     .exact h1 x p h' W hp
     .have:x=m:=by omega
      subst this
      rw[U]at hp;cases hp;exact D W
    have G:Oo r s q false=Ju s q ((r.Kind==1)&&(((q.Kind==1)&&(q.Class==r.Class))&&(q.Airport==r.Airport))):=by
     unfold Oo;rw[if_neg (by decide)];cases(r.Kind==1)
     .rfl
     .rw[if_pos rfl];cases(q.Kind==1)
      .rfl
      .rw[if_pos rfl];cases(q.Class==r.Class)
       .rfl
       .rfl
    rw[G];unfold Ju;have ef:Ahu (l.take (m+1)) r.Class r.Airport=if(((q.Kind==1)&&(q.Class==r.Class))&&(q.Airport==r.Airport))=true then Ahu (l.take m) r.Class r.Airport++[q.Hours]else Ahu (l.take m) r.Class r.Airport:=by
     unfold Ahu;rw[et,List.filter_append,FQ];split
     .rename_i h;rw[List.filter_cons_of_pos (by exact h)];rfl
     .rename_i h;rw[List.filter_cons_of_neg (by exact h)];simp
    by_cases hk:r.Kind=1
    .rw[if_pos hk]at A;have O:(r.Kind==1)=true:=by simpa using hk
     rw[O,FW];refine An.ite (λhc=>An.need (Dt (by simp only[AC];omega)) (.ok ⟨Z,by simp only[AG,AC];omega,?_⟩)) λhc=>.ok ⟨Z,by omega,?_⟩
     .rw[if_pos hk,ef,if_pos hc,A]
     .rw[if_pos hk,ef,if_neg hc,A]
    .have O:(r.Kind==1)=false:=by simpa using hk
     rw[O,IB,if_neg (by decide)]
     rw[if_neg hk]at A
     exact .ok ⟨Z,by omega,by rw[if_neg hk];exact A⟩
   unfold Om;refine An.ite (λS=>?_) λS=>step λh=>absurd (by simpa using h) S;rw[Brt];obtain⟨b,G,_⟩:=Bch q r;rw[G,R.ok_bind];cases b with
   |false=>exact step λ_=>G
   |true=>unfold Oo;rw[if_pos rfl];refine .ok ⟨rfl,λhn=>?_⟩;have:=hn.pair m j q r (by simpa using S) U X;rw[G]at this;cases this
  .cases z with
   |inr e=>exact hz
   |inl s=>obtain⟨h1,h2,A⟩:(∀(x:Nat) p,x<0+l.length->x<j->l[x]?=some p->Wl p r=.ok false)/\s.length<=0+l.length/\s=if r.Kind=1 then Ahu (l.take (0+l.length)) r.Class r.Airport else[]:=hz;rw[AE,DE]at A;exact⟨λx p hx hp=>h1 x p (by omega) hx hp,A⟩
  .refine(Brj s).bind λb G=>An.ite (λh=>.ok ⟨rfl,λhn=>?_⟩) λh=>.ok λi q hi D=>?_
   .have hf:=G.1 h;rw[V.2]at hf;split at hf
    .rename_i hk;exact hn.cur r (AH X) hk hf
    .exact Bdf hf
   .rcases CI i j with h'|h'
    .exact hI i q h' D
    .have:i=j:=by omega
     subst this
     rw[X]at D;cases D
     refine⟨V.1,λhk hf=>h (G.2 ?_)⟩
     rw[V.2,if_pos hk];exact hf
 .cases r with
  |inr e=>exact hr
  |inl u=>have hr:∀i r,i<0+l.length->l[i]?=some r->(∀(x:Nat) p,x<i->l[x]?=some p->Wl p r=.ok false)/\(r.Kind=1->¬full (Ahu l r.Class r.Airport)):=hr;refine⟨λx y p q aa hp D=>(hr y q (by have:=A6 D;omega) D).1 x p aa hp,λr U hk=>?_⟩;obtain⟨i,hi⟩:=DI.1 U;exact(hr i r (by have:=A6 hi;omega) hi).2 hk
def Ak5 (l:List Rule)(i:Int):Rule:=(l[i.toNat]?).getD {Kind:=0,Class:=0,Airport:=0,N:=0,Hours:={From:=0,To:=0},C:=[],A:=[]}
def Aj8 (l:List Rule)(b:List Int):List Rule:=b.map (Ak5 l)
def Bkz (l:List Rule)(b:List Int)(D:InR l b)(G:b.length<=1000):Ae8 l b=.ok (Aj8 l b):=by
 unfold Ae8;have:An (A5 (λ_ a=>λout=>Aix l a out) 0 b []) λs=>s=Aj8 l b:=(Cp (λk (s:List Rule)=>s=Aj8 l (b.take k)/\s.length<=k) b 0 [] (λj a s z A=>by have O:=A6 z;obtain⟨h1,h2⟩:=A;rw[AE]at h1 h2 ⊢;obtain⟨r0,r1⟩:=D a (AH z);unfold Aix;refine An.idx r0 r1 λr hr=>An.need (Dt (by simp only[AC];omega)) (.ok ⟨?_,by simp only[AG,AC];omega⟩);rw[h1,DB,z];unfold Aj8;rw[FQ];congr 1;show[r]=[Ak5 l a];unfold Ak5;rw[hr];rfl) ⟨rfl,AF _⟩).mono λs A=>by rw[A.1,AE,DE]
 obtain⟨s,h1,rfl⟩:=this;rw[h1,R.ok_bind]
def Apd (l:List Rule):Nat->List Int->Nat->Prop
 |0,b,_=>¬NoBad (Aj8 l b)
 |d+1,b,f=>∃i:Nat,f<=i/\i<l.length/\Apd l d (b++[(i:Int)]) (i+1)
def A5q (l:List Rule)(S:l.length<=64):∀(d n:Nat) (b:List Int) (f:Nat),d<n->b.length+d<=64->InR l b->(b=[]/\f=0\/∃(b0:List Int) (i:Nat),b=b0++[(i:Int)]/\f=i+1)->An (M7 n l b ((b.length+d:Nat):Int)) λr=>(r.2=true↔Apd l d b f)/\(r.2=true->r.1.length=b.length+d)
 |d,0,b,f,h,_,_,_=>absurd h (DN _)
 |0,n+1,b,f,_,U,A,hf=>by show An (Ro (M7 n) l b _) _;unfold Ro;rw[if_pos (by simp),Bkz l b A (by omega),R.ok_bind];exact(Bp0 _ (by unfold Aj8;rw[AL];omega)).bind λc V=>.ok ⟨V,λ_=>rfl⟩
 |d+1,n+1,b,f,hd,U,A,hf=>by
  show An (Ro (M7 n) l b _) _;unfold Ro;rw[if_neg (by simp;omega)];have key:An (Ua l b ((b.length+(d+1):Nat):Int) (M7 n) (f:Int)) λr=>(r.2=true↔Apd l (d+1) b f)/\(r.2=true->r.1.length=b.length+(d+1)):=by
   unfold Ua;refine An.alt (I:=λ_=>¬Apd l (d+1) b f) (J:=λ(r:List Int×Bool)=>r.2=true/\Apd l (d+1) b f/\r.1.length=b.length+(d+1)) ((Fx (λi:Int=>l.length-i.toNat) (λi=>∃m:Nat,i=(m:Int)/\f<=m/\∀q:Nat,f<=q->q<m->q<l.length->¬Apd l d (b++[(q:Int)]) (q+1)) (Sm (λ(_:Unit)=>¬Apd l (d+1) b f) (λ(r:List Int×Bool)=>r.2=true/\Apd l (d+1) b f/\r.1.length=b.length+(d+1))) (λi hi=>?_) (l.length) (f:Int) (Nat.sub_le _ _) ⟨f,rfl,AF _,λq h1 h2=>by omega⟩)) (λ_ h=>?_) λr hr=>.ok ⟨⟨λ_=>hr.2.1,λ_=>hr.1⟩,λ_=>hr.2.2⟩
   .obtain⟨m,rfl,W,O⟩:=hi;unfold An1;refine An.ite (λX=>An.need (Dt (by omega)) (An.need (Dt (by simp only[AC];omega)) ?_)) λY=>.ok λ⟨i,h1,h2,D⟩=>O i h1 (by omega) h2 D;have G:m<l.length:=by omega
    have:=A5q l S d n (b++[(m:Int)]) (m+1) (by omega) (by simp only[AG,AC];omega) (λx z=>by
     rcases BG.1 z with z|z
     .exact A x z
     .rw[AM.1 z];omega) (.inr ⟨b,m,rfl,rfl⟩)
    rw[show(b++[(m:Int)]).length+d=b.length+(d+1)by simp only[AG,AC];omega]at this;refine this.bind λr hr=>An.ite (λh=>.ok ?_) λh=>.ok ⟨⟨m+1,by rw[Ok (by omega) (by omega)];omega,by omega,λq h1 h2 D hE=>?_⟩,by rw[Ok (by omega) (by omega)];omega⟩
    .exact⟨rfl,⟨m,W,G,hr.1.1 h⟩,hr.2 h⟩
    .rcases CI q m with h'|h'
     .exact O q h1 h' D hE
     .have:q=m:=by omega
      subst this
      exact h (hr.1.2 hE)
   .exact .ok ⟨⟨λh'=>(by cases h'),λh'=>absurd h' h⟩,λh'=>(by cases h')⟩
  rcases hf with⟨rfl,rfl⟩|⟨b0,i,rfl,rfl⟩
  .rw[if_neg (by simp)];exact key
  .rw[if_pos (by simp)];have Z:wrap .i64 (((b0++[(i:Int)]).length:Int)-1)=(b0.length:Int):=by rw[Ok (by omega) (by omega)];simp
   rw[Z,Zo (a:=(i:Int)) (by simp),R.ok_bind];have hi:=A (i:Int) (by simp);have e2:wrap .i64 ((i:Int)+1)=((i+1:Nat):Int):=by rw[Ok (by omega) (by omega)];omega
   rw[e2];exact key
def Bge {l r:List Rule}(h:∀x∈l,x∈r){c p:Int}(hf:full (Ahu l c p)):full (Ahu r c p):=λi hi=>by obtain⟨s,h1,h2⟩:=Ud.1 (hf i hi);obtain⟨q,z,rfl⟩:=CC.1 h1;obtain⟨A,D⟩:=GN.1 z;exact Ud.2 ⟨_,CC.2 ⟨q,GN.2 ⟨h q A,D⟩,rfl⟩,h2⟩
def Bfn {l:List Rule}{b:List Int}(G:InR l b)(W:b.Pairwise (·<·))(h:NoBad l):NoBad (Aj8 l b):=by
 have V:∀x∈Aj8 l b,x∈l:=λx A=>by obtain⟨i,hi,rfl⟩:=CC.1 A;obtain⟨h0,h1⟩:=G i hi;unfold Ak5;rw[AA (by omega)];exact BK _
 refine⟨λx y p q O hp z=>?_,λr hr hk hf=>h.cur r (V r hr) hk (Bge V hf)⟩;unfold Aj8 at hp z;rw[CJ]at hp z;cases A:b[x]? with
 |none=>rw[A]at hp;cases hp
 |some i=>
  cases D:b[y]? with
  |none=>rw[D]at z;cases z
  |some j=>
   rw[A]at hp;rw[D]at z;have hp:Ak5 l i=p:=by simpa using hp
   have z:Ak5 l j=q:=by simpa using z
   obtain⟨i0,Z⟩:=G i (AH A);obtain⟨j0,j1⟩:=G j (AH D);obtain⟨S,ex⟩:=BZ.1 A;obtain⟨U,X⟩:=BZ.1 D;have Y:i<j:=by have:=HI.1 W x y S U O;rw[ex,X]at this;exact this
   refine h.pair i.toNat j.toNat p q (by omega) ?_ ?_
   .rw[<-hp];unfold Ak5;rw[AA (by omega)];rfl
   .rw[<-z];unfold Ak5;rw[AA (by omega)];rfl
def Bee {l:List Rule}:∀(d:Nat) (b:List Int) (f:Nat),InR l b->b.Pairwise (·<·)->(∀x∈b,x<(f:Int))->Apd l d b f->¬NoBad l
 |0,b,f,A,D,_,h=>λG=>h (Bfn A D G)
 |d+1,b,f,A,D,hf,⟨i,h1,h2,O⟩=>by
  refine Bee d (b++[(i:Int)]) (i+1) (λx z=>?_) (List.pairwise_append.2 ⟨D,by simp,λx z y S=>?_⟩) (λx z=>?_) O
  .rcases BG.1 z with z|z
   .exact A x z
   .rw[AM.1 z];omega
  .rw[AM.1 S];have:=hf x z;omega
  .rcases BG.1 z with z|z
   .have:=hf x z;omega
   .rw[AM.1 z];omega
def Bj3 (l:List Rule):Aj8 l ((List.range l.length).map λi=>((i:Nat):Int))=l:=by unfold Aj8;refine List.ext_getElem (by simp) λi h1 h2=>?_;simp only[List.getElem_map,List.getElem_range];unfold Ak5;rw[BI,AA h2];rfl
def Bdo {l:List Rule}(h:¬NoBad l):∀(d f:Nat),f+d=l.length->Apd l d ((List.range f).map λi=>((i:Nat):Int)) f
 |0,f,e=>by show ¬NoBad _;rw[show f=l.length by omega,Bj3];exact h
 |d+1,f,e=>⟨f,AF _,by omega,by have:=Bdo h d (f+1) (by omega);rw[GR,FQ]at this;exact this⟩
def Bbz (a:Airspace)(h:My a=.ok 0)(O:a.Rules.length<=64):An (Aaf a) λr=>r.1=[]↔NoBad a.Rules:=by
 unfold Aaf;rw[h,R.ok_bind,if_neg (by decide)];have z:∀n:Nat,n<=a.Rules.length->An (An6 a.Rules [] (n:Int)) λr=>(r.2=true↔Apd a.Rules n [] 0)/\(r.2=true->r.1.length=n):=λn A=>by unfold An6;have:=A5q a.Rules O n Aot [] 0 (by unfold Aot;omega) (by simp only[CW];omega) (λx z=>absurd z BW) (.inl ⟨rfl,rfl⟩);simpa using this
 refine An.alt (I:=λ_=>NoBad a.Rules) (J:=λ(r:List Int×Int)=>r.1≠[]/\¬NoBad a.Rules) (Fx (λi:Int=>a.Rules.length+1-i.toNat) (λi=>∃m:Nat,i=(m:Int)/\1<=m/\∀q:Nat,1<=q->q<m->q<=a.Rules.length->¬Apd a.Rules q [] 0) (Sm (λ(_:Unit)=>NoBad a.Rules) (λ(r:List Int×Int)=>r.1≠[]/\¬NoBad a.Rules)) (λi hi=>?_) (a.Rules.length+1) 1 (Nat.sub_le _ _) ⟨1,rfl,AF _,λq h1 h2=>by omega⟩) (λ_ h=>.ok ⟨λ_=>h,λ_=>rfl⟩) λr hr=>.ok ⟨λh=>absurd h hr.1,λh=>absurd h hr.2⟩;obtain⟨m,rfl,W,G⟩:=hi;unfold Alf;refine An.ite (λS=>?_) λU=>.ok (EZ λA=>?_)
 .refine(z m (by omega)).bind λr hr=>An.ite (λh=>.ok ⟨λe=>?_,Bee m [] 0 (λx z=>absurd z BW) List.Pairwise.nil (λx z=>absurd z BW) (hr.1.1 h)⟩) λh=>.ok ⟨⟨m+1,by rw[Ok (by omega) (by omega)];omega,by omega,λq h1 h2 V hE=>?_⟩,by rw[Ok (by omega) (by omega)];omega⟩
  .have:=hr.2 h;rw[e]at this;simp only[CW]at this;omega
  .rcases CI q m with h'|h'
   .exact G q h1 h' V hE
   .have:q=m:=by omega
    subst this
    exact h (hr.1.2 hE)
 .have D:1<=a.Rules.length:=by
   cases hr:a.Rules with
   |nil=>exact absurd (by rw[hr];exact⟨λx y p q _ hp=>by simp at hp,λr hr=>absurd hr BW⟩) A
   |cons x l=>simp
  exact G a.Rules.length D (by omega) (AF _) (Bdo A a.Rules.length 0 (by omega))
def Bi4(h:Tv a=.ok 0):NoBad a.Rules↔A4p a.Rules/\∀c p:Nat,c<a.Classes.length->p<a.Airports.length->¬full (Aw4 a c p):=by
 constructor
 .intro G;refine⟨G.pair,λc p A hp hf=>?_⟩;have D:Aw4 a c p≠[]:=λe=>Bdf (e▸hf);obtain⟨s,S⟩:=HH _ D;obtain⟨r,hr,_⟩:=CC.1 S;obtain⟨h1,h2⟩:=GN.1 hr;simp only[AK,CX]at h2;refine G.cur r h1 h2.1.1 ?_;rw[h2.1.2,h2.2];exact hf
 .rintro⟨h1,h2⟩;refine⟨h1,λr hr hk hf=>?_⟩;have U:=Bov h r hr;have O:(0<=r.Class/\r.Class<(a.Classes.length:Int))/\0<=r.Airport/\r.Airport<(a.Airports.length:Int):=by
   have z:=Ask a r;rw[U]at z;unfold Acp at z;split at z
   .cases z
   .rename_i A;rw[if_pos (by simpa using hk)]at z;injection z with z;simp only[AK,BB,BU,not_or]at z A;omega
  obtain⟨c,A⟩:=BY O.1.1;obtain⟨p,hp⟩:=BY O.2.1;rw[A,hp]at hf;exact h2 c p (by omega) (by omega) hf
def Bid(h:Tv a=.ok 0)(z:a.Rules.length<=64):∃r s,Xz a=.ok r/\Aaf a=.ok s/\(r.1=[]↔s.1=[]):=by obtain⟨r,hr,h1,h2⟩:=Bpa a;obtain⟨s,A,D⟩:=Bbz a ((Aq3 a).trans h) z;refine⟨r,s,hr,A,?_⟩;rw[h2 (h1 h),D,Bi4 h]
def Bdh {R:Int->Int->Prop}:∀(A B:List Int),A.Nodup->(∀x∈A,∃y∈B,R x y)->(∀x∈A,∀x'∈A,∀y,R x y->R x' y->x=x')->A.length<=B.length
 |[],B,_,_,_=>DA _
 |x::A,B,O,h,hi=>by obtain⟨h1,h2⟩:=DY.1 O;obtain⟨y,G,S⟩:=h x (BE ..);have:=Bdh A (B.erase y) h2 (λz hz=>by obtain⟨w,hw,D⟩:=h z (BC _ hz);refine⟨w,(List.mem_erase_of_ne λe=>?_).2 hw,D⟩;subst e;exact h1 (hi x (BE ..) z (BC _ hz) w S D▸hz)) λa U b V=>hi a (BC _ U) b (BC _ V);rw[List.length_erase_of_mem G]at this;have hp:=List.length_pos_of_mem G;simp only[BV];omega
def Bd0 {R:Int->Int->Prop}:∀(A B:List Int),A.Nodup->(∀x∈A,∃y∈B,∃z∈B,y≠z/\R x y/\R x z)->(∀x∈A,∀x'∈A,∀y,R x y->R x' y->x=x')->2*A.length<=B.length
 |[],B,_,_,_=>DA _
 |x::A,B,hn,h,hi=>by
  obtain⟨h1,h2⟩:=DY.1 hn;obtain⟨y,hy,z,hz,U,V,W⟩:=h x (BE ..);have G:z∈B.erase y:=(List.mem_erase_of_ne λe=>U e.symm).2 hz;have kp:∀q∈A,∀w∈B,R q w->w∈(B.erase y).erase z:=λq D w hw hR=>by
   refine(List.mem_erase_of_ne λe=>?_).2 ((List.mem_erase_of_ne λe=>?_).2 hw)
   .subst e;exact h1 (hi x (BE ..) q (BC _ D) w W hR▸D)
   .subst e;exact h1 (hi x (BE ..) q (BC _ D) w V hR▸D)
  have:=Bd0 A ((B.erase y).erase z) h2 (λq D=>by obtain⟨a,X,b,Y,Z,O,S⟩:=h q (BC _ D);exact⟨a,kp q D a X O,b,kp q D b Y S,Z,O,S⟩) λa X b Y=>hi a (BC _ X) b (BC _ Y);rw[List.length_erase_of_mem G,List.length_erase_of_mem hy]at this;have hp:=List.length_pos_of_mem G;rw[List.length_erase_of_mem hy]at hp;simp only[BV];omega
structure Part (f:Int->List Int)(U:Int->Prop)(C:List Int):Prop where
 nd:(C.flatMap f).Nodup
 mem:∀v,v∈C.flatMap f↔U v
 ne:∀k∈C,f k≠[]
variable{k:Int}
section
variable{f:Int→List Int}{U:Int→Prop}{C D:List Int}
def Bcz:∀(C:List Int),(C.flatMap f).Nodup->∀k∈C,∀j∈C,∀v,v∈f k->v∈f j->k=j
 |[],_,k,hk,_,_,_,_,_=>absurd hk BW
 |x::C,D,k,hk,j,O,v,h1,h2=>by
  rw[EX]at D;obtain⟨U,S,G⟩:=DF.1 D;rcases AN.1 hk with e|z<;>rcases AN.1 O with e'|A
  .rw[e,e']
  .exact absurd rfl (G v (e▸h1) v (HS.2 ⟨j,A,h2⟩))
  .exact absurd rfl (G v (e'▸h2) v (HS.2 ⟨k,z,h1⟩))
  .exact Bcz C S k z j A v h1 h2
def A0x:∀(C:List Int),(C.flatMap f).Nodup->(∀k∈C,f k≠[])->C.Nodup
 |[],_,_=>GZ
 |x::C,z,A=>by rw[EX]at z;obtain⟨U,G,O⟩:=DF.1 z;refine DY.2 ⟨λS=>?_,A0x C G λk hk=>A k (BC _ hk)⟩;obtain⟨v,D⟩:=HH _ (A x (BE ..));exact O v D v (HS.2 ⟨x,S,D⟩) rfl
def Part.uniq(h:Part f U C){j:Int}(hk:k∈C)(z:j∈C)(h1:v∈f k)(h2:v∈f j):k=j:=Bcz C h.nd k hk j z v h1 h2
def Part.at_(h:Part f U C)(z:U v):∃k∈C,v∈f k:=HS.1 ((h.mem v).2 z)
def Part.of(h:Part f U C)(hk:k∈C)(z:v∈f k):U v:=(h.mem v).1 (HS.2 ⟨k,hk,z⟩)
def Eqv (f:Int->List Int)(k j:Int):Prop:=∀v,v∈f k↔v∈f j
def Bf5 (f:Int->List Int)(k j:Int):Prop:=∀v∈f k,v∈f j
def Adh (f:Int->List Int)(C D:List Int):Prop:=∀k∈C,∃j∈D,Bf5 f k j
def I3 (e:Int->Int->Bool)(D:List Int)(k:Int):Bool:=D.any λj=>e k j
def Pv (e:Int->Int->Bool)(C D:List Int):Nat:=(C.filter λk=>!I3 e D k).length
structure Sees (f:Int->List Int)(e:Int->Int->Bool)(C D:List Int):Prop where
 s:∀k∈C,∀j∈D,(e k j=true↔Eqv f k j)
variable{e:Int→Int→Bool}
def Acb(h:Sees f e C D)(hk:k∈C):I3 e D k=true↔∃j∈D,Eqv f k j:=by unfold I3;rw[FU];exact⟨λ⟨j,h1,h2⟩=>⟨j,h1,(h.s k hk j h1).1 h2⟩,λ⟨j,h1,h2⟩=>⟨j,h1,(h.s k hk j h1).2 h2⟩⟩
def A5k (C:List Int)(p:Int->Bool):C.length=(C.filter p).length+(C.filter λk=>!p k).length:=by
 induction C with
 |nil=>rfl
 |cons x C z=>cases h:p x<;>simp[h]<;>omega
def Bd4 (A:Part f U C)(X:Part f U D)(h1:Sees f e C D)(h2:Sees f e D C):(C.filter (I3 e D)).length<=(D.filter (I3 e C)).length:=by
 refine Bdh (R:=Eqv f) _ _ ((A0x C A.nd A.ne).filter _) (λk hk=>?_) λk hk k' z j S V=>?_
 .obtain⟨hk,W⟩:=GN.1 hk;obtain⟨j,G,hE⟩:=(Acb h1 hk).1 W;exact⟨j,GN.2 ⟨G,(Acb h2 G).2 ⟨k,hk,λv=>(hE v).symm⟩⟩,hE⟩
 .have hk:=(GN.1 hk).1;have z:=(GN.1 z).1;obtain⟨v,O⟩:=HH _ (A.ne k hk);exact A.uniq hk z O ((V v).2 ((S v).1 O))
def Bm6 (z:Part f U C)(A:Part f U D)(h1:Sees f e C D)(h2:Sees f e D C):C.length+Pv e D C=D.length+Pv e C D:=by have a:=Bd4 z A h1 h2;have b:=Bd4 A z h2 h1;have c:=A5k C (I3 e D);have d:=A5k D (I3 e C);unfold Pv;omega
def Beq (hC:Part f U C)(S:Part f U D)(h1:Sees f e C D)(h2:Sees f e D C)(hf:Adh f C D):2*Pv e D C<=Pv e C D:=by
 refine Bd0 (R:=λj k=>Bf5 f k j/\k∈C) _ _ ((A0x D S.nd S.ne).filter _) (λj A=>?_) λj A j' z k e1 e2=>?_
 .obtain⟨A,W⟩:=GN.1 A;have W:¬∃k∈C,Eqv f j k:=λh=>by rw[(Acb h2 A).2 h]at W;cases W
  have sub:∀v∈f j,∃k∈C,v∈f k/\Bf5 f k j:=λv G=>by obtain⟨k,hk,V⟩:=hC.at_ (S.of A G);obtain⟨j',z,O⟩:=hf k hk;have:j'=j:=S.uniq z A (O v V) G;subst this;exact⟨k,hk,V,O⟩
  have X:∀k∈C,Bf5 f k j->k∈C.filter λk=>!I3 e D k:=λk hk O=>by
   refine GN.2 ⟨hk,?_⟩;cases hc:I3 e D k with
   |false=>rfl
   |true=>obtain⟨j',z,hE⟩:=(Acb h1 hk).1 hc;obtain⟨v,G⟩:=HH _ (hC.ne k hk);have:j'=j:=S.uniq z A ((hE v).1 G) (O v G);subst this;exact absurd ⟨k,hk,λv=>(hE v).symm⟩ W
  obtain⟨v,G⟩:=HH _ (S.ne j A);obtain⟨k,hk,V,O⟩:=sub v G;have:∃w∈f j,w∉f k:=EZ λab=>W ⟨k,hk,λw=>⟨λhw=>EZ λac=>ab ⟨w,hw,ac⟩,O w⟩⟩;obtain⟨w,hw,ad⟩:=this;obtain⟨k',Y,Z,aa⟩:=sub w hw;exact⟨k,X k hk O,k',X k' Y aa,λe=>ad (e▸Z),⟨O,hk⟩,aa,Y⟩
 .have A:=(GN.1 A).1;have z:=(GN.1 z).1;obtain⟨v,G⟩:=HH _ (hC.ne k e1.2);exact S.uniq A z (e1.1 v G) (e2.1 v G)
def Beh (O:Part f U C)(X:Part f U D)(h1:Sees f e C D)(h2:Sees f e D C)(hf:Adh f C D)(V:Pv e D C=0):Pv e C D=0:=by
 have all:∀j∈D,I3 e C j=true:=λj z=>by
  cases A:I3 e C j with
  |true=>rfl
  |false=>have:j∈D.filter λk=>!I3 e C k:=GN.2 ⟨z,by rw[A];rfl⟩;have:=List.length_pos_of_mem this;unfold Pv at V;omega
 unfold Pv;rw[CQ,List.filter_eq_nil_iff];intro k hk A;obtain⟨j,z,W⟩:=hf k hk;obtain⟨k',G,hE⟩:=(Acb h2 z).1 (all j z);obtain⟨v,S⟩:=HH _ (O.ne k hk);have:k=k':=O.uniq hk G S ((hE v).1 (W v S));subst this;rw[(Acb h1 hk).2 ⟨j,z,λv=>(hE v).symm⟩]at A;cases A
def Bkc (h1:Sees f e C D)(A:Pv e C D=0):Adh f C D:=λk hk=>by
 have z:I3 e D k=true:=by
  cases z:I3 e D k with
  |true=>rfl
  |false=>have:k∈C.filter λk=>!I3 e D k:=GN.2 ⟨hk,by rw[z];rfl⟩;have:=List.length_pos_of_mem this;unfold Pv at A;omega
 obtain⟨j,G,hE⟩:=(Acb h1 hk).1 z;exact⟨j,G,λv O=>(hE v).1 O⟩
def Bd5 (Y:Part f U C)(hD:Part f U D)(h1:Sees f e C D)(h2:Sees f e D C)(Z:Pv e D C=1):Adh f C D:=λk hk=>by
 cases O:I3 e D k with
 |true=>obtain⟨j,z,hE⟩:=(Acb h1 hk).1 O;exact⟨j,z,λv G=>(hE v).1 G⟩
 |false=>
  unfold Pv at Z;obtain⟨S,h0⟩:=List.length_eq_one_iff.1 Z;have V:S∈D:=(GN.1 (h0▸AM.2 rfl:S∈D.filter λk=>!I3 e C k)).1;refine⟨S,V,λv G=>?_⟩;obtain⟨j,z,A⟩:=hD.at_ (Y.of hk G);have hn:I3 e C j=false:=by
   cases W:I3 e C j with
   |false=>rfl
   |true=>obtain⟨k',X,hE⟩:=(Acb h2 z).1 W;have:k=k':=Y.uniq hk X G ((hE v).1 A);subst this;rw[(Acb h1 hk).2 ⟨j,z,λv=>(hE v).symm⟩]at O;cases O
  have:j∈D.filter λk=>!I3 e C k:=GN.2 ⟨z,by rw[hn];rfl⟩;rw[h0]at this;rw[<-AM.1 this];exact A
def Blx (z:Part f U C)(A:Part f U D)(h1:Sees f e C D)(h2:Sees f e D C):
  ((Pv e C D=0/\Pv e D C=0)\/(Pv e C D=1/\Pv e D C=2)\/(Pv e C D=2/\Pv e D C=1))↔(((C.length=D.length\/C.length=D.length+1)/\Adh f C D)\/(D.length=C.length+1/\Adh f D C)):=by
 have G:=Bm6 z A h1 h2
 constructor
 .rintro(⟨a,b⟩|⟨a,b⟩|⟨a,b⟩)
  .exact .inl ⟨by omega,Bkc h1 a⟩
  .exact .inr ⟨by omega,Bd5 A z h2 h1 a⟩
  .exact .inl ⟨by omega,Bd5 z A h1 h2 b⟩
 .rintro(⟨a,b⟩|⟨a,b⟩)
  .have t:=Beq z A h1 h2 b;have p:=Beh z A h1 h2 b;omega
  .have t:=Beq A z h2 h1 b;have p:=Beh A z h2 h1 b;omega
end
def wu (n:Nat)(h:n<18446744073709551616):wrap .u64 (n:Int)=(n:Int):=by simp[wrap,IntKind.bits,IntKind.signed];omega
def bvo (n:Nat)(h:n<18446744073709551616):(BitVec.ofInt 64 (n:Int)).toNat=n:=by rw[BitVec.toNat_ofInt];omega
def B37 (x y:Nat)(z:x<18446744073709551616)(A:y<18446744073709551616):Dk .u64 (x:Int) (y:Int)=((x&&& y:Nat):Int):=by
 unfold Dk;have e:((BitVec.ofInt IntKind.u64.bits (x:Int)&&& BitVec.ofInt IntKind.u64.bits (y:Int)).toNat)=x&&& y:=by show((BitVec.ofInt 64 (x:Int)&&& BitVec.ofInt 64 (y:Int)).toNat)=x&&& y;rw[BitVec.toNat_and,bvo x z,bvo y A]
 rw[e];exact wu _ (Nat.lt_of_le_of_lt Nat.and_le_left z)
def B4h (x y:Nat)(z:x<18446744073709551616)(A:y<18446744073709551616):Rn .u64 (x:Int) (y:Int)=((x|||y:Nat):Int)/\x|||y<18446744073709551616:=by
 unfold Rn;have e:((BitVec.ofInt IntKind.u64.bits (x:Int)|||BitVec.ofInt IntKind.u64.bits (y:Int)).toNat)=x|||y:=by show((BitVec.ofInt 64 (x:Int)|||BitVec.ofInt 64 (y:Int)).toNat)=x|||y;rw[BitVec.toNat_or,bvo x z,bvo y A]
 have D:x|||y<18446744073709551616:=Nat.or_lt_two_pow (n:=64) z A;rw[e];exact⟨wu _ D,D⟩
def Cax (v:Nat)(h:v<64):X0 .u64 1 (v:Int)=((2^v:Nat):Int)/\2^v<18446744073709551616:=by have z:2^v<18446744073709551616:=Nat.pow_lt_pow_right (a:=2) (by decide) h;refine⟨?_,z⟩;unfold X0;rw[show min ((v:Int).toNat) IntKind.u64.bits=v from by show min _ 64=v;omega];rw[show(1:Int)*2^v=((2^v:Nat):Int)from by simp];exact wu _ z
def Bits (n:Nat)(x:Int)(vs:List Int):Prop:=∃m:Nat,x=(m:Int)/\m<18446744073709551616/\(∀i,m.testBit i=true↔(i:Int)∈vs)/\vs.Nodup/\∀v∈vs,0<=v/\v<(n:Int)
def Bits.nil (n:Nat):Bits n 0 []:=⟨0,rfl,by decide,λi=>by simp,GZ,λv z=>absurd z BW⟩
def B8h (m v:Nat):(m&&& 2^v)≠0↔m.testBit v=true:=by
 constructor
 .intro h;cases z:m.testBit v with
  |true=>rfl
  |false=>
   refine absurd (FV λi=>?_) h;rw[GS,GY,HW];by_cases hi:v=i
   .subst hi;simp[z]
   .simp[hi]
 .intro h h0;have:=congrArg (λx=>x.testBit v) h0;simp[GS,GY,h]at this
def Bits.put{x:Int}{vs:List Int}(hn:n<=64)(h:Bits n x vs)(h0:0<=v)(h1:v<(n:Int))(A:Dk .u64 x (X0 .u64 1 v)=0):Bits n (Rn .u64 x (X0 .u64 1 v)) (vs++[v]):=by
 obtain⟨m,rfl,S,U,D,hr⟩:=h;obtain⟨w,rfl⟩:=BY h0;obtain⟨X,V⟩:=Cax w (by omega);rw[X]at A ⊢;rw[B37 m _ S V]at A;obtain⟨Y,Z⟩:=B4h m _ S V;have G:m.testBit w=false:=by
  cases O:m.testBit w with
  |false=>rfl
  |true=>exact absurd (by exact_mod_cast A) ((B8h m w).2 O)
 refine⟨m|||2^w,Y,Z,λi=>?_,?_,λu z=>?_⟩
 .rw[Nat.testBit_or,GY,BG,AM,BU,U i,BB];constructor
  .rintro(h|rfl)
   .exact .inl h
   .exact .inr rfl
  .rintro(h|h)
   .exact .inl h
   .exact .inr (by omega)
 .rw[DF];refine⟨D,by simp,λa W c O=>?_⟩;rw[AM.1 O];rintro rfl;rw[<-U w,G]at W;cases W
 .rcases BG.1 z with z|z
  .exact hr u z
  .rw[AM.1 z];exact⟨h0,h1⟩
variable{ws:List Int}
def Bits.join{x:Int}{vs:List Int}(h:Bits n x vs)(g:Bits n y ws)(A:Dk .u64 x y=0):Bits n (Rn .u64 x y) (vs++ws):=by
 obtain⟨m,rfl,S,U,D,hr⟩:=h;obtain⟨p,rfl,hp,V,G,X⟩:=g;rw[B37 m p S hp]at A;have A:m&&& p=0:=by exact_mod_cast A
 obtain⟨Y,Z⟩:=B4h m p S hp;refine⟨m|||p,Y,Z,λi=>?_,?_,λu z=>?_⟩
 .rw[Nat.testBit_or,BG,BU,U i,V i]
 .rw[DF];refine⟨D,G,λa W c O=>?_⟩;rintro rfl;obtain⟨w,rfl⟩:=BY (hr a W).1;have:=congrArg (λx=>x.testBit w) A;simp[GS,(U w).2 W,(V w).2 O]at this
 .rcases BG.1 z with z|z
  .exact hr u z
  .exact X u z
def Aso (a:Airspace)(k:Int):List Int:=((a.Sectors[k.toNat]?).map (·.Volumes)).getD []
def B6y{vs:List Int}(h1:1<=n)(D:n<=64)(h:Bits n (Aa7 .u64 18446744073709551615 (wrap .i64 (64-(n:Int)))) vs):∀v:Int,0<=v->v<(n:Int)->v∈vs:=by
 obtain⟨m,e,G,z,_,_⟩:=h;intro v h0 O;obtain⟨w,rfl⟩:=BY h0;rw[<-z w];have hw:wrap .i64 (64-(n:Int))=((64-n:Nat):Int):=by rw[Ok (by omega) (by omega)];omega
 rw[hw]at e;unfold Aa7 at e;rw[show min ((64-n:Nat):Int).toNat IntKind.u64.bits=64-n from by show min _ 64=_;omega]at e;rw[BN _ (by exact_mod_cast DA _)]at e;have A:m=18446744073709551615/2^(64-n):=by
  have:((m:Nat):Int)=((18446744073709551615/2^(64-n):Nat):Int):=by rw[<-e];simp
  exact_mod_cast this
 rw[A,<-HK,Nat.testBit_shiftRight,show(18446744073709551615:Nat)=2^64-1 from rfl,HC];simp;omega
structure Divs (a:Airspace):Prop where
 v1:1<=a.Volumes.length
 v2:a.Volumes.length<=64
 con:∀c∈a.Configs,(∀k∈c.Sectors,0<=k/\k<(a.Sectors.length:Int))/\(c.Sectors.flatMap (Aso a)).Nodup/\∀v:Int,(0<=v/\v<(a.Volumes.length:Int))↔v∈c.Sectors.flatMap (Aso a)
 secs:a.Sectors.length<=64
 cons:a.Configs.length<=32
structure SecOk (n:Nat)(s:Sector):Prop where
 ne:s.Volumes≠[]
 nd:s.Volumes.Nodup
 rg:∀v∈s.Volumes,0<=v/\v<(n:Int)
structure ConOk (a:Airspace)(c:Config):Prop where
 rg:∀k∈c.Sectors,0<=k/\k<(a.Sectors.length:Int)
 nd:(c.Sectors.flatMap (Aso a)).Nodup
 all:∀v:Int,0<=v->v<(a.Volumes.length:Int)->v∈c.Sectors.flatMap (Aso a)
structure CGood (a:Airspace):Prop where
 v1:1<=a.Volumes.length
 v2:a.Volumes.length<=64
 s2:a.Sectors.length<=64
 c1:1<=a.Configs.length
 c2:a.Configs.length<=32
 sec:∀s∈a.Sectors,SecOk a.Volumes.length s
 con:∀c∈a.Configs,ConOk a c
def Bits.has{x:Int}{vs:List Int}(U:n<=64)(h:Bits n x vs)(h0:0<=v)(h1:v<(n:Int))(z:Dk .u64 x (X0 .u64 1 v)≠0):v∈vs:=by obtain⟨m,rfl,A,D,G,hr⟩:=h;obtain⟨w,rfl⟩:=BY h0;obtain⟨O,S⟩:=Cax w (by omega);rw[O,B37 m _ A S]at z;refine(D w).1 ((B8h m w).1 λh=>z ?_);rw[h];rfl
def Bits.meet{x:Int}{vs:List Int}(h:Bits n x vs)(g:Bits n y ws)(z:Dk .u64 x y≠0):¬(vs++ws).Nodup:=by
 obtain⟨m,rfl,A,D,G,hr⟩:=h;obtain⟨p,rfl,hp,O,S,V⟩:=g;rw[B37 m p A hp]at z;intro U;refine z ?_;have:m&&& p=0:=FV λi=>by
  rw[GS,HW];cases h1:m.testBit i with
  |false=>rfl
  |true=>
   cases h2:p.testBit i with
   |false=>rfl
   |true=>exact absurd rfl ((DF.1 U).2.2 _ ((D i).1 h1) _ ((O i).1 h2))
 rw[this];rfl
def Bits.zero{x:Int}{vs:List Int}(h:Bits n x vs):x=0↔vs=[]:=by
 obtain⟨m,rfl,D,z,A,hr⟩:=h;constructor
 .intro e;have e:m=0:=by exact_mod_cast e
  subst e;cases vs with
  |nil=>rfl
  |cons v vs=>obtain⟨w,rfl⟩:=BY (hr v BE).1;have:=(z w).2 BE;simp at this
 .rintro rfl;have:m=0:=FV λi=>by
   rw[HW];cases h:m.testBit i with
   |false=>rfl
   |true=>exact absurd ((z i).1 h) BW
  rw[this];rfl
def Bits.full{x:Int}{vs:List Int}(h1:1<=n)(D:n<=64)(h:Bits n x vs):x=Aa7 .u64 18446744073709551615 (wrap .i64 (64-(n:Int)))↔∀v:Int,0<=v->v<(n:Int)->v∈vs:=by
 constructor
 .intro e;exact B6y h1 D (e▸h)
 .intro z;obtain⟨m,rfl,U,A,G,hr⟩:=h;have hw:wrap .i64 (64-(n:Int))=((64-n:Nat):Int):=by rw[Ok (by omega) (by omega)];omega
  rw[hw];unfold Aa7;rw[show min ((64-n:Nat):Int).toNat IntKind.u64.bits=64-n from by show min _ 64=_;omega];rw[BN _ (by exact_mod_cast DA _)];have O:m=18446744073709551615/2^(64-n):=by
   rw[<-HK];refine FV λi=>?_;rw[Nat.testBit_shiftRight,show(18446744073709551615:Nat)=2^64-1 from rfl,HC];by_cases hi:i<n
   .rw[(A i).2 (z i (by omega) (by omega))];simp;omega
   .have:m.testBit i=false:=by
     cases S:m.testBit i with
     |false=>rfl
     |true=>have:=hr _ ((A i).1 S);omega
    rw[this];simp;omega
  rw[O];simp
def A5b (a:Airspace)(h:a.Sectors.length<=64)(hv:a.Volumes.length<=64):An (Yv a) λr=>
  (r.2=true->(∀s∈a.Sectors,SecOk a.Volumes.length s)/\r.1.length=a.Sectors.length/\∀(j:Nat) (s:Sector),a.Sectors[j]?=some s->∃x,r.1[j]?=some x/\Bits a.Volumes.length x s.Volumes)/\(r.2=false->¬∀s∈a.Sectors,SecOk a.Volumes.length s):=by
 unfold Yv
 refine An.alt (I:=λ(l:List Int)=>(∀s∈a.Sectors,SecOk a.Volumes.length s)/\l.length=a.Sectors.length/\∀(j:Nat) (s:Sector),a.Sectors[j]?=some s->∃x,l[j]?=some x/\Bits a.Volumes.length x s.Volumes) (J:=λ(e:List Int×Bool)=>e.2=false/\¬∀s∈a.Sectors,SecOk a.Volumes.length s)
  ((Lu (λk (l:List Int)=>l.length=k/\∀(j:Nat) (s:Sector),j<k->a.Sectors[j]?=some s->SecOk a.Volumes.length s/\∃x,l[j]?=some x/\Bits a.Volumes.length x s.Volumes) (λ(e:List Int×Bool)=>e.2=false/\¬∀s∈a.Sectors,SecOk a.Volumes.length s) a.Sectors 0 [] (λj s l G A=>?_) ⟨rfl,λj s U=>absurd U (DN _)⟩).mono λr hr=>?_) (λl A=>.ok ⟨λ_=>A,λh=>(by cases h)⟩) λe V=>.ok ⟨λh=>(by rw[V.1]at h;cases h),λ_=>V.2⟩
 .rw[AE]at A ⊢;have U:=A6 G;have W:=AH G;unfold Sw;refine An.alt (I:=λx=>Bits a.Volumes.length x s.Volumes) (J:=λ(e:List Int×Bool)=>e.2=false/\¬SecOk a.Volumes.length s) ((Lu (λn (x:Int)=>Bits a.Volumes.length x (s.Volumes.take n)) (λ(e:List Int×Bool)=>e.2=false/\¬SecOk a.Volumes.length s) s.Volumes 0 0 (λi v x hi O=>?_) (Bits.nil _)).mono λr hr=>by
    cases r with
    |inl x=>have hr:Bits a.Volumes.length x (s.Volumes.take (0+s.Volumes.length)):=hr;rwa[AE,DE]at hr
    |inr e=>exact hr) (λx O=>?_) λe V=>.ok ⟨V.1,λz=>V.2 (z s W)⟩
  .rw[AE]at O ⊢;have X:=AH hi;have et:s.Volumes.take (i+1)=s.Volumes.take i++[v]:=by rw[DB,hi];rfl
   unfold Acy;by_cases hr:0<=v/\v<(a.Volumes.length:Int)
   .rw[if_neg (by simp;omega),if_pos hr.1,R.ok_bind];refine An.ite (λY=>.ok ⟨rfl,λS=>?_⟩) λY=>An.need hr.1 (.ok ?_)
    .have hm:=O.has hv hr.1 hr.2 (by simpa using Y);have D:=S.nd;rw[<-DH (i+1) s.Volumes,et]at D;exact absurd rfl ((DF.1 (DF.1 D).1).2.2 _ hm _ (AM.2 rfl))
    .rw[et];exact O.put hv hr.1 hr.2 (by simpa using Y)
   .rw[if_pos (by simp;omega),R.ok_bind];exact An.ite (λ_=>.ok ⟨rfl,λS=>hr (S.rg v X)⟩) λh=>absurd rfl h
  .refine An.ite (λh0=>.ok ⟨rfl,λz=>(z s W).ne (O.zero.1 (by simpa using h0))⟩) λh0=>An.need (Atw ?_) (.ok ⟨?_,λi q hi Z=>?_⟩)
   .simp only[AC];have:=A.1;omega
   .rw[AG,AC,A.1]
   .rcases CI i j with h'|h'
    .obtain⟨g1,y,g2,g3⟩:=A.2 i q h' Z;exact⟨g1,y,by rw[CT (by rw[A.1];exact h')];exact g2,g3⟩
    .have:i=j:=by omega
     subst this
     rw[G]at Z;cases Z
     obtain⟨m,hm,_,_,D,aa⟩:=id O
     exact⟨⟨λe=>h0 (by rw[O.zero.2 e];rfl),D,aa⟩,x,by rw[CO (by rw[A.1];exact AF _),A.1];simp,O⟩
 .cases r with
  |inl l=>obtain⟨h1,h2⟩:l.length=0+a.Sectors.length/\_:=hr;rw[AE]at h1;refine⟨λs G=>?_,h1,λj s G=>(h2 j s (by have:=A6 G;omega) G).2⟩;obtain⟨j,U⟩:=DI.1 G;exact(h2 j s (by have:=A6 U;omega) U).1
  |inr e=>exact hr
def A1k (a:Airspace):An (Fv a) λe=>(e=0/\CGood a)\/(e=100/\¬CGood a):=by
 unfold Fv;refine An.bind (p:=λr=>(r.2=true/\CGood a)\/(r.2=false/\¬CGood a)) ?_ λr hr=>?_
 .unfold Mq;refine An.ite (λG=>.ok (.inr ⟨rfl,λg=>?_⟩)) λG=>?_
  .have:=g.v1;have:=g.v2;have:=g.s2;have:=g.c1;have:=g.c2;simp only[BU,BB]at G;omega
  simp only[BU,BB,not_or]at G;obtain⟨⟨⟨⟨h1,h2⟩,h3⟩,h4⟩,h5⟩:=G;refine(A5b a (by omega) (by omega)).bind λr hr=>An.ite (λh=>?_) λh=>.ok (.inr ⟨rfl,λg=>hr.2 (by simpa using h) g.sec⟩);obtain⟨q0,q1,q2⟩:=hr.1 h;have hw:wrap .i64 (64-(a.Volumes.length:Int))=64-(a.Volumes.length:Int):=Ok (by omega) (by omega);refine An.need (by rw[hw];omega) ?_;refine An.alt (I:=λ_=>∀c∈a.Configs,ConOk a c) (J:=λ(e:List (List (Int×Bool))×Bool)=>e.2=false/\¬∀c∈a.Configs,ConOk a c) ((Lu (λk (l:List (List (Int×Bool)))=>l.length=k/\∀(j:Nat) (c:Config),j<k->a.Configs[j]?=some c->ConOk a c) (λ(e:List (List (Int×Bool))×Bool)=>e.2=false/\¬∀c∈a.Configs,ConOk a c) a.Configs 0 [] (λj c l G U=>?_) ⟨rfl,λj c W=>absurd W (DN _)⟩).mono λx A=>?_) (λl U=>.ok (.inl ⟨rfl,by omega,by omega,by omega,by omega,by omega,q0,U⟩)) λe X=>.ok (.inr ⟨X.1,λg=>X.2 g.con⟩)
  .rw[AE]at U ⊢;have W:=A6 G;have Y:=AH G;unfold L8;refine An.alt (I:=λ(x:Int×List (Int×Bool))=>(∀k∈c.Sectors,0<=k/\k<(a.Sectors.length:Int))/\Bits a.Volumes.length x.1 (c.Sectors.flatMap (Aso a))) (J:=λ(e:List (List (Int×Bool))×Bool)=>e.2=false/\¬ConOk a c)
    ((Lu (λn (x:Int×List (Int×Bool))=>(∀k∈c.Sectors.take n,0<=k/\k<(a.Sectors.length:Int))/\Bits a.Volumes.length x.1 ((c.Sectors.take n).flatMap (Aso a))) (λ(e:List (List (Int×Bool))×Bool)=>e.2=false/\¬ConOk a c) c.Sectors 0 (0,[]) (λi k x hi A=>?_) ⟨λk hk=>by simp at hk,Bits.nil _⟩).mono λx A=>by
     cases x with
     |inl x=>obtain⟨g1,g2⟩:(∀k∈c.Sectors.take (0+c.Sectors.length),0<=k/\k<(a.Sectors.length:Int))/\Bits a.Volumes.length x.1 ((c.Sectors.take (0+c.Sectors.length)).flatMap (Aso a)):=A;rw[AE,DE]at g1 g2;exact⟨g1,g2⟩
     |inr e=>exact A) (λx A=>?_) λe X=>.ok ⟨X.1,λD=>X.2 (D c Y)⟩
   .obtain⟨Z,m⟩:=x;rw[AE]at A ⊢;simp only at A;have ac:=AH hi;have et:c.Sectors.take (i+1)=c.Sectors.take i++[k]:=by rw[DB,hi];rfl
    simp only[Ct];unfold V4;by_cases hk:0<=k/\k<(a.Sectors.length:Int)
    .obtain⟨w,rfl⟩:=BY hk.1;have aa:w<a.Sectors.length:=by omega
     obtain⟨z,hz,ab⟩:=q2 w a.Sectors[w] (AA aa);have ad:Aso a ((w:Nat):Int)=a.Sectors[w].Volumes:=by unfold Aso;rw[BI,AA aa];rfl
     rw[if_neg (by simp;omega),Zo hz];simp only[R.ok_bind];have ef:(c.Sectors.take (i+1)).flatMap (Aso a)=(c.Sectors.take i).flatMap (Aso a)++a.Sectors[w].Volumes:=by rw[et,FF];simp[ad]
     refine An.ite (λhb=>.ok ⟨rfl,λS=>?_⟩) λhb=>.ok ⟨λu V=>?_,?_⟩
     .have O:=S.nd;rw[<-DH (i+1) c.Sectors,FF,ef]at O;exact A.2.meet ab (by simpa using hb) (DF.1 O).1
     .rw[et]at V;rcases BG.1 V with V|V
      .exact A.1 u V
      .rw[AM.1 V];exact hk
     .rw[ef];exact A.2.join ab (by simpa using hb)
    .rw[if_pos (by simp;omega),R.ok_bind];exact An.ite (λ_=>.ok ⟨rfl,λS=>hk (S.rg k ac)⟩) λh=>absurd rfl h
   .obtain⟨Z,m⟩:=x;simp only at A;simp only[Ct];have hB:Bits a.Volumes.length Z (c.Sectors.flatMap (Aso a)):=A.2;refine An.ite (λhm=>.ok ⟨rfl,λD=>?_⟩) λhm=>An.need (Atw ?_) (.ok ⟨?_,λi d hi hd=>?_⟩)
    .have:=(hB.full (by omega) (by omega)).2 (D c Y).all;rw[this]at hm;simp at hm
    .simp only[AC];have:=U.1;omega
    .rw[AG,AC,U.1]
    .rcases CI i j with h'|h'
     .exact U.2 i d h' hd
     .have:i=j:=by omega
      subst this
      rw[G]at hd;cases hd
      obtain⟨_,_,_,_,O,_⟩:=id hB
      exact⟨A.1,O,(hB.full (by omega) (by omega)).1 (by simpa using hm)⟩
  .cases x with
   |inl l=>obtain⟨g1,g2⟩:l.length=0+a.Configs.length/\_:=A;intro c G;obtain⟨j,W⟩:=DI.1 G;exact g2 j c (by have:=A6 W;omega) W
   |inr e=>exact A
 .rcases hr with⟨h,g⟩|⟨h,g⟩
  .exact An.need h (.ok (.inl ⟨rfl,g⟩))
  .rw[if_neg (by rw[h];decide)];exact .ok (.inr ⟨rfl,g⟩)
def B1z (v:Int):∀(l:List Int) (k:Nat),∃j:Nat,each (λj a=>λ_=>Hu v j a) k l ()=.ok (if l.contains v then .inr (j:Int)else .inl ())
 |[],k=>⟨0,rfl⟩
 |a::l,k=>by
  rw[Abg];by_cases h:v=a
  .subst h;exact⟨k,by simp[Hu]⟩
  .have h1:(v==a)=false:=by simpa using h
   obtain⟨j,z⟩:=B1z v l (k+1)
   refine⟨j,?_⟩
   rw[show Hu v k a=.ok (.inl ())by unfold Hu;rw[h1];rfl,R.ok_bind,List.contains_cons,h1]
   exact z
def B28 (l:List Int)(v:Int):Jt l v=.ok (l.contains v):=by
 unfold Jt Kr;obtain⟨j,z⟩:=B1z v l 0;rw[z];cases h:l.contains v
 .simp only[BD,if_false,R.ok_bind];rfl
 .simp only[if_true,R.ok_bind];simp
def B8l(hk:0<=k/\k<(a.Sectors.length:Int)):Ahl a v k=if v∈Aso a k then .ok (.inr (k,true))else .ok (.inl ()):=by
 obtain⟨w,rfl⟩:=BY hk.1;have hw:w<a.Sectors.length:=by omega
 unfold Ahl Aso;rw[if_pos (by simp;omega),Zo (AA hw),R.ok_bind,B28,R.ok_bind,R.ok_bind,BI,AA hw];simp only[AQ,BH,DP]
def Ane (a:Airspace)(v s:Int):Bool:=(decide (s>=0)&&decide (s<(a.Sectors.length:Int)))&&(Aso a s).contains v
def Bf6 (a:Airspace)(z v:Int):Int×Bool:=if decide (z<0)||decide (z>=(a.Configs.length:Int))then(0,false)else match((a.Configs[z.toNat]?.map (·.Sectors)).getD []).find? (Ane a v)with|some s=>(s,true)|none=>(0,false)
def A5v (a:Airspace)(v s:Int):Ahl a v s=if Ane a v s then .ok (.inr (s,true))else .ok (.inl ()):=by
 by_cases h:0<=s/\s<(a.Sectors.length:Int)
 .rw[B8l h];unfold Ane;rw[DW (show s>=0 from h.1),DW h.2];simp only[FW,DP]
 .have h':(decide (s>=0)&&decide (s<(a.Sectors.length:Int)))=false:=by
   simp only[Bool.and_eq_false_iff,DJ];omega
  unfold Ahl Ane
  rw[h',IB,if_neg (by decide),R.ok_bind]
def A0y (a:Airspace)(v:Int):∀(l:List Int) (k:Nat),each (λ_ a2=>λ_=>Ahl a v a2) k l ()=.ok (match l.find? (Ane a v)with|some s=>.inr (s,true)|none=>.inl ())
 |[],_=>rfl
 |s::l,k=>by
  rw[Abg,A5v,FP];cases Ane a v s
  .rw[if_neg (by decide),R.ok_bind];exact A0y a v l (k+1)
  .rw[if_pos rfl,R.ok_bind]
def A1n (a:Airspace)(z v:Int):Aek a z v=.ok (Bf6 a z v):=by
 unfold Aek Bf6;by_cases h:(decide (z<0)||decide (z>=(a.Configs.length:Int)))=true
 .rw[if_pos h,if_pos h]
 .rw[if_neg h,if_neg h];simp only[BU,BB]at h;obtain⟨w,rfl⟩:=BY (show 0<=z by omega);have hw:w<a.Configs.length:=by omega
  rw[Zo (AA hw),R.ok_bind,A0y,R.ok_bind,BI,AA hw];simp only[AQ,BH];cases List.find? (Ane a v) a.Configs[w].Sectors<;>rfl
def Ah1{b:Nat->α->Unit->R (Unit ⊕ ε)}(f:α->Bool)(z:ε)(A:∀j a,b j a ()=.ok (if f a=true then .inl ()else .inr z)):∀(l:List α) (k:Nat),each b k l ()=.ok (if l.all f=true then .inl ()else .inr z)
 |[],_=>rfl
 |a::l,k=>by
  rw[Abg,A,R.ok_bind,DU];cases f a
  .rfl
  .exact Ah1 f z A l (k+1)
def Apf (n a b:Int):Oe n a b=.ok (M6 n a b):=rfl
def A91 (s:Sector):Aci s=.ok (if As4 s=true then .inl ()else .inr 140):=by
 unfold Aci As4;rw[Apf,R.ok_bind];cases M6 s.Radar 0 64
 .rfl
 .rw[if_neg (by decide),Apf,R.ok_bind];cases M6 s.Procedural 0 s.Radar<;>rfl
def A65 (l:List Int):Ae4 l=.ok (Aq4 l):=by
 unfold Ae4 Aq4;rw[Ah1 (b:=λ_ a=>λ_=>X1 a) (λn=>M6 n 0 64) false (λj a=>by show X1 a=_;unfold X1;rw[Apf,R.ok_bind];cases M6 a 0 64<;>rfl),R.ok_bind];cases l.all λn=>M6 n 0 64
 .rw[Bool.and_false];rfl
 .rw[Bool.and_true];rfl
def Ayl (l:List Span):Ad8 l=.ok (if l.all A2d=true then 0 else 50):=by unfold Ad8;rw[Ah1 (b:=λ_ a=>λ_=>Aay a) A2d 50 (λj a=>by show Aay a=_;unfold Aay Uk A2d;cases decide (a.From<0)<;>cases decide (a.From>=a.To)<;>cases decide (a.To>1440)<;>rfl),R.ok_bind];cases l.all A2d<;>rfl
def Bd7(l:List α):((l.length:Int)==0)=!decide ((l.length:Int)>0):=by
 cases l with
 |nil=>rfl
 |cons a l=>rw[DW (by simp only[BV];omega)];simp;omega
def Ban (t:Tables)(g:Leg):Aa4 t g=.ok (if B3p t g=true then .inl ()else .inr false):=by unfold Aa4 B3p;simp only[Apf,Ayl,R.ok_bind,Bd7];cases M6 g.Segment 0 127<;>cases M6 g.Volume 0 (wrap .i64 (t.Volumes-1))<;>cases M6 g.Length 1 4096<;>cases decide ((g.Minutes.length:Int)>0)<;>cases g.Minutes.all A2d<;>rfl
def Bfk (t:Tables)(w:Way):Ah4 t w=.ok (B1d t w):=by unfold Ah4 B1d;rw[Ah1 (b:=λ_ a=>λ_=>Aa4 t a) (B3p t) false (λj a=>Ban t a)];simp only[Apf,R.ok_bind];unfold apB;cases M6 w.From 0 (wrap .i64 ((t.Modes.length:Int)-1))<;>cases M6 w.To 0 (wrap .i64 ((t.Modes.length:Int)-1))<;>cases M6 (w.Legs.length:Int) 1 8<;>cases w.Legs.all (B3p t)<;>rfl
def A7a (k:Kind):Aii k=.ok (if Bk1 k=true then 0 else 120):=by
 unfold Aii Bk1;rw[Ah1 (b:=λ_ a=>λ_=>Ab6 a) (λl:List Span=>l.all A2d) 120 (λj a=>by show Ab6 a=_;unfold Ab6;rw[Ayl,R.ok_bind];cases a.all A2d<;>rfl)];have e:((((((((((((decide (k.Slow<1))||(decide (k.Slow>64)))||(decide (k.Fast<k.Slow)))||(decide (k.Fast>64)))||(decide (k.Places<1)))||(decide (k.Places>8)))||(decide (k.Weight<1)))||(decide (k.Weight>8)))||(decide (k.Longest<0)))||(decide (k.Longest>60)))||((Int.tmod k.Longest 10)!=0))||(decide ((k.Curfews.length:Int)>16)))=!([(k.Slow,1,64),(k.Fast,k.Slow,64),(k.Places,1,8),(k.Weight,1,8),(k.Longest,0,60),((k.Curfews.length:Int),0,16)].all ok3&&!((Int.tmod k.Longest 10)!=0)):=by simp only[DU,List.all_nil,ok3,DZ (show ¬(k.Curfews.length:Int)<0 by omega)];cases decide (k.Slow<1)<;>cases decide (k.Slow>64)<;>cases decide (k.Fast<k.Slow)<;>cases decide (k.Fast>64)<;>simp[Bool.or_assoc,Bool.or_comm,Bool.or_left_comm]
 rw[e];generalize ([(k.Slow,1,64),(k.Fast,k.Slow,64),(k.Places,1,8),(k.Weight,1,8),(k.Longest,0,60),((k.Curfews.length:Int),0,16)].all ok3&&!((Int.tmod k.Longest 10)!=0))=b;cases b<;>cases(k.Curfews.all λl=>l.all A2d)<;>rfl
def A33 (t:Tables)(k:Kind):Ac2 t k=.ok (if(Bk1 k&&((k.Curfews.length:Int)==(t.Modes.length:Int)))=true then .inl ()else .inr 140):=by unfold Ac2;rw[A7a,R.ok_bind];unfold Aab;have e:((k.Curfews.length:Int)!=(t.Modes.length:Int))=!((k.Curfews.length:Int)==(t.Modes.length:Int)):=rfl;rw[e];cases Bk1 k<;>cases((k.Curfews.length:Int)==(t.Modes.length:Int))<;>rfl
def Bdm (t:Tables){e:Int}(D:N4 (Avj t)=.ok e):Ue t=.ok (if((((((M6 t.Volumes 1 64&&e==0)&&t.Sectors.all As4)&&!(decide ((t.Modes.length:Int)>16)))&&t.Modes.all Aq4)&&(!(decide ((t.Ways.length:Int)>64))&&t.Ways.all (B1d t)))&&(!(decide ((t.Kinds.length:Int)>8))&&t.Kinds.all λk=>Bk1 k&&((k.Curfews.length:Int)==(t.Modes.length:Int))))=true then 0 else 140):=by
 unfold Ue;have h1:((R0 t).bind λr=>(if(!r.2)then R.ok true else(N4 r.1).bind λr1=>R.ok (r1 !=0)))=.ok (!(M6 t.Volumes 1 64&&e==0)):=by
  unfold R0;rw[Apf,R.ok_bind];cases A:M6 t.Volumes 1 64 with
  |false=>rfl
  |true=>
   have G:t.Volumes>=1/\t.Volumes<=64:=by unfold M6 at A;simpa using A
   rw[if_pos rfl,if_pos (⟨by omega,EO _,Dt (by omega)⟩:(0:Int)<=t.Volumes/\(t.Volumes:Int)<=t.Volumes/\(Int.toNat t.Volumes)*40<=Bj),R.ok_bind];rw[show(({Volumes:=(List.replicate (Int.toNat t.Volumes) Auw),Sectors:=t.Sectors,Configs:=t.Configs,Segments:=[],Routes:=[],Airports:=[],Classes:=[],Rules:=[]}:Airspace),true)=(Avj t,true)from rfl];rw[if_neg (by simp)];show(N4 (Avj t)).bind _=_;rw[D,R.ok_bind,FW];rfl
 have h2:∀F:Bool->R Int,((R0 t).bind λr=>(if(!r.2)then R.ok true else(N4 r.1).bind λr1=>R.ok (r1 !=0)).bind F)=F (!(M6 t.Volumes 1 64&&e==0)):=λF=>by
  cases z:R0 t with
  |ok r=>rw[z,R.ok_bind]at h1;rw[R.ok_bind,h1,R.ok_bind]
  |pan v=>rw[z]at h1;cases h1
  |bad=>rw[z]at h1;cases h1
 rw[h2];rw[Ah1 (b:=λ_ a=>λ_=>Aci a) As4 140 (λj a=>A91 a)];rw[Ah1 (b:=λ_ a=>λ_=>Ac5 a) Aq4 140 (λj a=>by show Ac5 a=_;unfold Ac5;rw[A65,R.ok_bind];cases Aq4 a<;>rfl)];rw[Ah1 (b:=λ_ a=>λ_=>Abc t a) (B1d t) 140 (λj a=>by show Abc t a=_;unfold Abc;rw[Bfk,R.ok_bind];cases B1d t a<;>rfl)];rw[Ah1 (b:=λ_ a=>λ_=>Ac2 t a) (λk:Kind=>Bk1 k&&((k.Curfews.length:Int)==(t.Modes.length:Int))) 140 (λj a=>A33 t a)];generalize (M6 t.Volumes 1 64&&e==0)=b1;generalize t.Sectors.all As4=b2;generalize decide ((t.Modes.length:Int)>16)=b3;generalize t.Modes.all Aq4=b4;generalize decide ((t.Ways.length:Int)>64)=b5;generalize t.Ways.all (B1d t)=b6;generalize decide ((t.Kinds.length:Int)>8)=b7;generalize (t.Kinds.all λk=>Bk1 k&&((k.Curfews.length:Int)==(t.Modes.length:Int)))=b8;cases b1<;>cases b2<;>cases b3<;>cases b4<;>cases b5<;>cases b6<;>cases b7<;>cases b8<;>rfl
def Avb (l:List Int)(n:Int):Aeo l n=.ok (l.contains n):=by
 unfold Aeo;rw[Ah1 (b:=λ_ a=>λ_=>Afr n a) (λa=>!(a==n)) true (λj a=>by show Afr n a=_;unfold Afr;cases(a==n)<;>rfl),R.ok_bind];have:(l.all λa=>!(a==n))=!l.contains n:=by
  induction l with
  |nil=>rfl
  |cons a l z=>rw[DU,z,List.contains_cons,Bool.not_or,Bool.beq_comm]
 rw[this];cases l.contains n<;>rfl
def Ass (l:List Int)(n:Nat):Prop:=l.Nodup/\∀v∈l,0<=v/\v<(n:Int)
def Atr (l:List Int)(n:Nat):An (U9 l (n:Int)) λb=>b=true↔Ass l n:=by
 unfold U9;refine An.alt (I:=λ_=>Ass l n) (J:=λ(e:Bool)=>e=false/\¬Ass l n) ((Lu (λk (_:Unit)=>Ass (l.take k) n) (λ(e:Bool)=>e=false/\¬Ass l n) l 0 () (λj v u G O=>?_) ⟨by simp,λv W=>by simp at W⟩).mono λr hr=>?_) (λ_ h=>.ok ⟨λ_=>h,λ_=>rfl⟩) λe U=>.ok ⟨λh=>absurd (U.1.symm.trans h) (by decide),λh=>absurd h U.2⟩
 .rw[AE]at O ⊢;have A:=AH G;have X:=A6 G;have et:l.take (j+1)=l.take j++[v]:=by rw[DB,G];rfl
  unfold Aja Pm;refine An.ite (λh=>.ok ⟨rfl,λg=>?_⟩) λh=>An.ite (λh'=>.ok ⟨rfl,λg=>?_⟩) λh'=>An.need (by omega) ?_
  .have:=g.2 v A;simp only[BB]at h;omega
  .have:=g.2 v A;simp only[BB]at h';omega
  .rw[Avb,R.ok_bind,BI];simp only[BB]at h h';refine An.ite (λS=>.ok ⟨rfl,λg=>?_⟩) λS=>.ok ⟨?_,λu z=>?_⟩
   .have D:=g.1;rw[<-DH (j+1) l,et]at D;exact absurd rfl ((DF.1 (DF.1 D).1).2.2 _ (DP.1 S) _ (AM.2 rfl))
   .rw[et];refine DF.2 ⟨O.1,by simp,λx V y Y=>?_⟩;rintro rfl;rw[AM.1 Y]at V;exact S (DP.2 V)
   .rw[et]at z;rcases BG.1 z with z|z
    .exact O.2 u z
    .rw[AM.1 z];omega
 .cases r with
  |inl u=>have hr:Ass (l.take (0+l.length)) n:=hr;rwa[AE,DE]at hr
  |inr e=>exact hr
def Aws(h0:0<=k)(h1:k<(a.Sectors.length:Int)):∃s,idx a.Sectors k=.ok s/\s∈a.Sectors/\Aso a k=s.Volumes:=by
 obtain⟨w,rfl⟩:=BY h0;have hw:w<a.Sectors.length:=by omega
 exact⟨_,Zo (AA hw),BK hw,by unfold Aso;rw[BI,AA hw];rfl⟩
variable{c:Config}
theorem Bdk(hs:∀s∈a.Sectors,SecOk a.Volumes.length s)(h:ConOk a c):Ass c.Sectors a.Sectors.length:=by
 refine⟨?_,h.rg⟩;have:∀l:List Int,(∀k∈l,0≤k∧k<(a.Sectors.length:Int))→(l.flatMap (Aso a)).Nodup→l.Nodup:=by
  intro l;induction l with
  |nil=>intro _ _;exact GZ
  |cons k l ih=>intro hr hn;rw[EX]at hn;obtain⟨h1,h2,h3⟩:=DF.1 hn;refine DY.2 ⟨λhk=>?_,ih (λx hx=>hr x (BC _ hx)) h2⟩;obtain⟨s,_,hsm,hv⟩:=Aws (hr k (BE ..)).1 (hr k (BE ..)).2;obtain⟨v,hv'⟩:=HH _ (hs s hsm).ne;rw[←hv]at hv';exact h3 v hv' v (HS.2 ⟨k,hk,hv'⟩) rfl
 exact this _ h.rg h.nd
def A9q(O:∀s∈a.Sectors,SecOk a.Volumes.length s)(hc:c.Sectors.length<=1000):An (Adj a c) λb=>b=true↔ConOk a c:=by
 unfold Adj;refine(Atr c.Sectors a.Sectors.length).bind λr hr=>An.ite (λh=>?_) λh=>.ok ⟨λh'=>(by cases h'),λh'=>absurd (hr.2 (Bdk O h')) h⟩;obtain⟨Y,z⟩:=hr.1 h;have one:ConOk a c->∀v:Int,0<=v->v<(a.Volumes.length:Int)->(c.Sectors.flatMap (Aso a)).count v=1:=λg v h0 h1=>by have e1:=List.nodup_iff_count.1 g.nd v;have e2:=List.count_pos_iff.2 (g.all v h0 h1);omega
 have cnt:∀(j:Nat),An (A5 (λ_ a2=>λn=>Adb a j a2 n) 0 c.Sectors 0) λn=>n=((c.Sectors.flatMap (Aso a)).count (j:Int):Int):=λj=>by
  refine(Cp (λi (n:Int)=>n=(((c.Sectors.take i).flatMap (Aso a)).count (j:Int):Int)/\n<=(i:Int)) c.Sectors 0 0 (λi k n hi A=>?_) ⟨by simp,by simp⟩).mono λn A=>by have:=A.1;rwa[AE,DE]at this
  rw[AE]at A ⊢;have Z:=A6 hi;obtain⟨s,h1,h2,h3⟩:=Aws (z k (AH hi)).1 (z k (AH hi)).2;have et:c.Sectors.take (i+1)=c.Sectors.take i++[k]:=by rw[DB,hi];rfl
  have ec:((c.Sectors.take (i+1)).flatMap (Aso a)).count (j:Int)=((c.Sectors.take i).flatMap (Aso a)).count (j:Int)+if(j:Int)∈s.Volumes then 1 else 0:=by rw[et,FF,List.count_append];simp[h3,(O s h2).nd.count]
  unfold Adb;rw[h1,R.ok_bind,Avb,R.ok_bind,ec];obtain⟨aa,ab⟩:=A;refine An.ite (λD=>.ok ?_) λD=>.ok ?_
  .rw[if_pos (DP.1 D),Ok (by omega) (by omega)];omega
  .rw[if_neg λh=>D (DP.2 h)];omega
 refine An.alt (I:=λ_=>ConOk a c) (J:=λ(e:Bool)=>e=false/\¬ConOk a c) ((Lu (λk (_:Unit)=>∀v:Int,0<=v->v<(k:Int)->(c.Sectors.flatMap (Aso a)).count v=1) (λ(e:Bool)=>e=false/\¬ConOk a c) a.Volumes 0 () (λj v u hj W=>?_) (λv h0 h1=>by omega)).mono λr hr=>?_) (λ_ h=>.ok ⟨λ_=>h,λ_=>rfl⟩) λe X=>.ok ⟨λh=>absurd (X.1.symm.trans h) (by decide),λh=>absurd h X.2⟩
 .rw[AE]at W ⊢;have ac:=A6 hj;unfold Ai2;refine(cnt j).bind λn A=>An.ite (λh=>.ok ⟨rfl,λg=>?_⟩) λh=>.ok λw h0 h1=>?_
  .rw[A,one g (j:Int) (by omega) (by omega)]at h;exact absurd h (by decide)
  .rcases Int.lt_or_le w (j:Int)with hw|hw
   .exact W w h0 hw
   .have e:w=(j:Int):=by omega
    rw[A]at h
    rw[e]
    have h:((c.Sectors.flatMap (Aso a)).count (j:Int):Int)=1:=by simpa using h
    exact_mod_cast h
 .cases r with
  |inr e=>exact hr
  |inl u=>
   have hr:∀v:Int,0<=v->v<((0+a.Volumes.length:Nat):Int)->(c.Sectors.flatMap (Aso a)).count v=1:=hr;rw[AE]at hr;refine⟨z,List.nodup_iff_count.2 λv=>?_,λv h0 h1=>List.count_pos_iff.1 (by rw[hr v h0 h1];decide)⟩;by_cases S:0<=v/\v<(a.Volumes.length:Int)
   .rw[hr v S.1 S.2];exact AF _
   .have:(c.Sectors.flatMap (Aso a)).count v=0:=List.count_eq_zero.2 λD=>by
     obtain⟨k,hk,G⟩:=HS.1 D
     obtain⟨s,_,U,V⟩:=Aws (z k hk).1 (z k hk).2
     rw[V]at G
     exact S ((O s U).rg v G)
    rw[this];exact DA _
def Bc4 (a:Airspace)(W:∀c∈a.Configs,c.Sectors.length<=1000):An (N4 a) λe=>(e=0/\CGood a)\/(e=100/\¬CGood a):=by
 unfold N4;refine An.ite (λh=>.ok (.inr ⟨rfl,λg=>?_⟩)) λh=>?_
 .have:=g.v1;have:=g.v2;have:=g.s2;have:=g.c1;have:=g.c2;simp only[BU,BB]at h;omega
 simp only[BU,BB,not_or]at h;obtain⟨⟨⟨⟨h1,h2⟩,Z⟩,h4⟩,h5⟩:=h;refine An.alt (I:=λ_=>∀s∈a.Sectors,SecOk a.Volumes.length s) (J:=λ(e:Int)=>e=100/\¬CGood a) ((Lu (λk (_:Unit)=>∀s∈a.Sectors.take k,SecOk a.Volumes.length s) (λ(e:Int)=>e=100/\¬CGood a) a.Sectors 0 () (λj s u G O=>?_) (λs D=>by simp at D)).mono λr hr=>?_) (λ_ D=>?_) λe V=>.ok (.inr V)
 .rw[AE]at O ⊢;have A:=AH G;have et:a.Sectors.take (j+1)=a.Sectors.take j++[s]:=by rw[DB,G];rfl
  unfold Ama Abf;refine An.ite (λh=>.ok ⟨rfl,λg=>(g.sec s A).ne ?_⟩) λh=>(Atr s.Volumes a.Volumes.length).bind λr hr=>An.ite (λh'=>.ok ⟨rfl,λg=>?_⟩) λh'=>.ok λq z=>?_
  .cases X:s.Volumes with
   |nil=>rfl
   |cons x l=>rw[X]at h;simp at h;omega
  .have:r=true:=hr.2 ⟨(g.sec s A).nd,(g.sec s A).rg⟩;rw[this]at h';exact absurd h' (by decide)
  .rw[et]at z;rcases BG.1 z with z|z
   .exact O q z
   .rw[AM.1 z];obtain⟨g1,Y⟩:=hr.1 (by simpa using h');exact⟨λe=>h (by rw[e];rfl),g1,Y⟩
 .cases r with
  |inr e=>exact hr
  |inl u=>have hr:∀s∈a.Sectors.take (0+a.Sectors.length),SecOk a.Volumes.length s:=hr;rwa[AE,DE]at hr
 .refine An.alt (I:=λ_=>∀c∈a.Configs,ConOk a c) (J:=λ(e:Int)=>e=100/\¬CGood a) ((Lu (λk (_:Unit)=>∀c∈a.Configs.take k,ConOk a c) (λ(e:Int)=>e=100/\¬CGood a) a.Configs 0 () (λj c u G O=>?_) (λs D=>by simp at D)).mono λr hr=>?_) (λ_ S=>.ok (.inl ⟨rfl,by omega,by omega,by omega,by omega,by omega,D,S⟩)) λe V=>.ok (.inr V)
  .rw[AE]at O ⊢;have U:=AH G;have et:a.Configs.take (j+1)=a.Configs.take j++[c]:=by rw[DB,G];rfl
   unfold Al9;refine(A9q D (W c U)).bind λr hr=>An.ite (λh=>.ok λq z=>?_) λh=>.ok ⟨rfl,λg=>h (hr.2 (g.con c U))⟩;rw[et]at z;rcases BG.1 z with z|z
   .exact O q z
   .rw[AM.1 z];exact hr.1 h
  .cases r with
   |inr e=>exact hr
   |inl u=>have hr:∀c∈a.Configs.take (0+a.Configs.length),ConOk a c:=hr;rwa[AE,DE]at hr
def Bgp (a:Airspace)(z:∀c∈a.Configs,c.Sectors.length<=1000):N4 a=Fv a:=by
 obtain⟨e,A,h⟩:=Bc4 a z;obtain⟨f,hf,g⟩:=A1k a;rw[A,hf];rcases h with⟨rfl,h⟩|⟨rfl,h⟩<;>rcases g with⟨rfl,g⟩|⟨rfl,g⟩
 .rfl
 .exact absurd h g
 .exact absurd g h
 .rfl
def A9t (t:Tables)(z:∀c∈t.Configs,c.Sectors.length<=1000):Ue t=Ky t:=by obtain⟨e,h1,h2⟩:=A4t t;rw[h2,Bdm t ((Bgp (Avj t) z).trans h1)]
def Ayk (a:Airspace)(v:Int):∀(l:List Int) (k:Nat),each (λ_ a2=>λ_=>Xc a v a2) k l ()=each (λ_ a2=>λ_=>Ahl a v a2) k l ()
 |[],_=>rfl
 |s::l,k=>by
  rw[Abg,Abg,A5v];have:Xc a v s=if Ane a v s then .ok (.inr (s,true))else .ok (.inl ()):=by
   unfold Xc Q2 Ane;by_cases h0:s>=0
   .rw[if_pos (by simpa using h0),DW h0];by_cases h1:s<(a.Sectors.length:Int)
    .rw[if_pos (by simpa using h1),DW h1];obtain⟨q,g1,_,z⟩:=Aws h0 h1;rw[g1,R.ok_bind,Avb,R.ok_bind,z];rfl
    .rw[if_neg (by simpa using h1),DZ h1];rfl
   .rw[if_neg (by simpa using h0),DZ h0];rfl
  rw[this];cases Ane a v s
  .rw[if_neg (by decide),R.ok_bind];exact Ayk a v l (k+1)
  .rw[if_pos rfl,R.ok_bind,R.ok_bind]
def A3u (a:Airspace)(z v:Int):Afd a z v=Aek a z v:=by unfold Afd Aek;simp only[Ayk]
def Bits.same{x:Int}{vs:List Int}(h:Bits n x vs)(g:Bits n x ws)(v:Int):v∈vs↔v∈ws:=by
 obtain⟨m,rfl,_,D,_,hr⟩:=h;obtain⟨p,hp,_,G,_,O⟩:=g;have A:m=p:=by exact_mod_cast hp
 subst A;constructor
 .intro z;obtain⟨w,rfl⟩:=BY (hr v z).1;exact(G w).1 ((D w).2 z)
 .intro z;obtain⟨w,rfl⟩:=BY (O v z).1;exact(D w).1 ((G w).2 z)
def Bits.inj{x:Int}{vs:List Int}(h:Bits n x vs)(g:Bits n y ws)(z:∀v,v∈vs↔v∈ws):x=y:=by
 obtain⟨m,rfl,_,A,_,hr⟩:=h;obtain⟨p,rfl,_,D,_,G⟩:=g;have:m=p:=FV λi=>by have:=(A i).trans ((z _).trans (D i).symm);cases h1:m.testBit i<;>cases h2:p.testBit i<;>simp_all
 rw[this]
def Bld {m:List (Int×Bool)}{z:Int}(h:∀p∈m,p.1≠z):G4 m z true=m++[(z,true)]:=by
 induction m with
 |nil=>rfl
 |cons p m A=>rw[G4,if_neg (by simpa using h p (BE ..)),A λq D=>h q (BC _ D)];rfl
def Mx (Z:Int->Int)(S:List Int):List (Int×Bool):=S.map λk=>(Z k,true)
structure Maps (a:Airspace)(Z:Int->Int)(l:Dv):Prop where
 eq:l=a.Configs.map λc=>Mx Z c.Sectors
 bit:∀k:Int,0<=k->k<(a.Sectors.length:Int)->Bits a.Volumes.length (Z k) (Aso a k)
theorem Bht(g:CGood a)(h0:0≤k)(h1:k<(a.Sectors.length:Int)):Aso a k≠[]:=by obtain⟨s,_,z,A⟩:=Aws h0 h1;rw [A]; exact(g.sec s z).ne
def Bh7(g:CGood a):∃Z l,Mq a=.ok (l,true)/\Maps a Z l:=by
 have Y:=g.v2;obtain⟨r,hr,aa,ab⟩:=A5b a g.s2 g.v2;have h2:r.2=true:=by
  cases h:r.2 with
  |true=>rfl
  |false=>exact absurd g.sec (ab h)
 obtain⟨_,q1,q2⟩:=aa h2;have G:∀k:Int,0<=k->k<(a.Sectors.length:Int)->Bits a.Volumes.length ((r.1[k.toNat]?).getD 0) (Aso a k):=λk h0 h1=>by
  obtain⟨w,rfl⟩:=BY h0;have hw:w<a.Sectors.length:=by omega
  obtain⟨x,z,O⟩:=q2 w a.Sectors[w] (AA hw);rw[BI,z];have:Aso a (w:Int)=a.Sectors[w].Volumes:=by unfold Aso;rw[BI,AA hw];rfl
  rw[this];exact O
 refine⟨λk=>(r.1[k.toNat]?).getD 0,a.Configs.map λc=>Mx (λk=>(r.1[k.toNat]?).getD 0) c.Sectors,?_,rfl,G⟩;generalize hZ:(λk:Int=>(r.1[k.toNat]?).getD 0)=Z;have G:∀k:Int,0<=k->k<(a.Sectors.length:Int)->Bits a.Volumes.length (Z k) (Aso a k):=by rw[<-hZ];exact G
 have key:An (Mq a) λx=>x=(a.Configs.map λc=>Mx Z c.Sectors,true):=by
  unfold Mq;have c1:=g.v1;have c3:=g.s2;have c4:=g.c1;have c5:=g.c2;rw[if_neg (by simp only[BU,BB,not_or];omega),hr,R.ok_bind,if_pos h2];have hw:wrap .i64 (64-(a.Volumes.length:Int))=64-(a.Volumes.length:Int):=Ok (by omega) (by omega);refine An.need (by rw[hw];omega) ?_;refine An.alt (I:=λ(l:Dv)=>l=a.Configs.map λc=>Mx Z c.Sectors) (J:=λ_=>False) ((Lu (λk (l:Dv)=>l=(a.Configs.take k).map λc=>Mx Z c.Sectors) (λ_=>False) a.Configs 0 [] (λj c l hc S=>?_) rfl).mono λx z=>?_) (λl S=>.ok (by rw[S])) λe he=>he.elim
  .rw[AE]at S ⊢;have ac:=AH hc;have ag:=A6 hc;have A:=g.con c ac;unfold L8;refine An.alt (I:=λ(x:Int×List (Int×Bool))=>Bits a.Volumes.length x.1 (c.Sectors.flatMap (Aso a))/\x.2=Mx Z c.Sectors) (J:=λ_=>False) ((Lu (λn (x:Int×List (Int×Bool))=>Bits a.Volumes.length x.1 ((c.Sectors.take n).flatMap (Aso a))/\x.2=Mx Z (c.Sectors.take n)) (λ_=>False) c.Sectors 0 (0,[]) (λi k x hi z=>?_) ⟨Bits.nil _,rfl⟩).mono λx z=>?_) (λx z=>?_) λe he=>he.elim
   .obtain⟨ad,m⟩:=x;rw[AE]at z ⊢;obtain⟨x1,x2⟩:=z;simp only at x1 x2;have ae:=AH hi;have et:c.Sectors.take (i+1)=c.Sectors.take i++[k]:=by rw[DB,hi];rfl
    have ef:(c.Sectors.take (i+1)).flatMap (Aso a)=(c.Sectors.take i).flatMap (Aso a)++Aso a k:=by rw[et,FF];simp
    obtain⟨U,k1⟩:=A.rg k ae;have V:((c.Sectors.take i).flatMap (Aso a)++Aso a k).Nodup:=by have:=A.nd;rw[<-DH (i+1) c.Sectors,FF,ef]at this;exact(DF.1 this).1
    simp only[Ct];unfold V4;have af:idx r.1 k=.ok (Z k):=by
     obtain⟨w,rfl⟩:=BY U;have hw:w<r.1.length:=by omega
     rw[Zo (AA hw),<-hZ];simp only[BI,AA hw,BH]
    rw[if_neg (by simp only[BU,BB,not_or];omega),af,R.ok_bind,R.ok_bind];refine An.ite (λO=>?_) λO=>?_
    .exact absurd V (x1.meet (G k U k1) (by simpa using O))
    .rw[R.ok_bind];refine .ok ⟨?_,?_⟩
     .rw[ef];exact x1.join (G k U k1) (by simpa using O)
     .simp only;rw[x2,Bld λp hp e=>?_,et]
      .unfold Mx;rw[FQ];rfl
      .obtain⟨k',W,rfl⟩:=CC.1 hp;obtain⟨v,Y⟩:=HH _ (Bht g U k1);have D:=A.rg k' (DC W);have e:Z k'=Z k:=e;have:=(Bits.same (G k U k1) (e▸G k' D.1 D.2) v).1 Y;exact(DF.1 V).2.2 v (HS.2 ⟨k',W,this⟩) v Y rfl
   .cases x with
    |inr e=>exact z
    |inl x=>obtain⟨g1,X⟩:Bits a.Volumes.length x.1 ((c.Sectors.take (0+c.Sectors.length)).flatMap (Aso a))/\x.2=Mx Z (c.Sectors.take (0+c.Sectors.length)):=z;rw[AE,DE]at g1 X;exact⟨g1,X⟩
   .obtain⟨ad,m⟩:=x;obtain⟨g1,X⟩:=z;simp only at g1 X;simp only[Ct];rw[if_neg (by simpa using(g1.full (by omega) (by omega)).2 A.all)];refine An.need (Dt (by simp only[AC];rw[S,AL,BS];omega)) (.ok ?_);rw[S,X,DB,hc,FQ];rfl
  .cases x with
   |inr e=>exact z
   |inl l=>have z:l=(a.Configs.take (0+a.Configs.length)).map λc=>Mx Z c.Sectors:=z;rwa[AE,DE]at z
 obtain⟨x,z,rfl⟩:=key;exact z
def eqZ (Z:Int->Int)(k j:Int):Bool:=Z j==Z k
def Bob (Z:Int->Int)(T:List Int)(k:Int):Option.getD (Dq (Mx Z T) (Z k)) false=I3 (eqZ Z) T k:=by
 unfold I3 Dq Mx;induction T with
 |nil=>rfl
 |cons j T z=>
  rw[BM,FP,List.any_cons];unfold eqZ at z ⊢;cases h:(Z j==Z k)
  .simp only[h,Bool.false_or];exact z
  .simp[h]
def Bd1 (Z:Int->Int)(S T:List Int)(G:S.length<=1000):Pl (Mx Z S) (Mx Z T)=.ok (Pv (eqZ Z) S T:Int):=by
 unfold Pl;have:∀(S:List Int) (n:Nat),n+S.length<=1000->Lf (λa=>λn=>Gs (Mx Z T) a n) (Mx Z S) (n:Int)=.ok ((n+Pv (eqZ Z) S T:Nat):Int):=by
  intro S;induction S with
  |nil=>intro n _;rfl
  |cons k S z=>
   intro n A;simp only[BV]at A;show(Gs (Mx Z T) (Z k,true) (n:Int)).bind (λn=>Lf (λa=>λn=>Gs (Mx Z T) a n) (Mx Z S) n)=_;have D:Gs (Mx Z T) (Z k,true) (n:Int)=if I3 (eqZ Z) T k=true then .ok (n:Int)else .ok (wrap .i64 ((n:Int)+1)):=by unfold Gs;rw[Bob]
   rw[D];unfold Pv;cases h:I3 (eqZ Z) T k
   .rw[if_neg (by decide),Ok (by omega) (by omega),R.ok_bind,show(n:Int)+1=((n+1:Nat):Int)by omega,z (n+1) (by omega),List.filter_cons_of_pos (by simp[h])];unfold Pv;congr 1;simp only[BV];omega
   .rw[if_pos rfl,R.ok_bind,z n (by omega),List.filter_cons_of_neg (by simp[h])];rfl
 have:=this S 0 (by omega);rw[AE]at this;rw[show(0:Int)=((0:Nat):Int)from rfl,this];rfl
def In (a:Airspace)(v:Int):Prop:=0<=v/\v<(a.Volumes.length:Int)
def Amo(g:CGood a)(D:c∈a.Configs):Part (Aso a) (In a) c.Sectors:=by have h:=g.con c D;refine⟨h.nd,λv=>⟨λz=>?_,λz=>h.all v z.1 z.2⟩,λk hk=>Bht g (h.rg k hk).1 (h.rg k hk).2⟩;obtain⟨k,hk,z⟩:=HS.1 z;obtain⟨s,_,G,A⟩:=Aws (h.rg k hk).1 (h.rg k hk).2;rw[A]at z;exact(g.sec s G).rg v z
variable{Z:Int→Int}
def Bah(g:CGood a)(z:Maps a Z l){d:Config}(A:c∈a.Configs)(D:d∈a.Configs):Sees (Aso a) (eqZ Z) c.Sectors d.Sectors:=by refine⟨λk hk j G=>?_⟩;have h1:=(g.con c A).rg k hk;have h2:=(g.con d D).rg j G;have b1:=z.bit k h1.1 h1.2;have b2:=z.bit j h2.1 h2.2;unfold eqZ;rw[CX];exact⟨λe v=>Bits.same b1 (e▸b2) v,λh=>(b1.inj b2 h).symm⟩
theorem Bib(g:CGood a)(D:Maps a Z l){d:Config}(z:c ∈ a.Configs)(A:d ∈ a.Configs)(h1:c.Sectors.length≤1000)(h2:d.Sectors.length≤1000):An (X9 (Mx Z c.Sectors) (Mx Z d.Sectors)) λb=>b=true↔(((c.Sectors.length=d.Sectors.length∨c.Sectors.length=d.Sectors.length+1)∧Adh (Aso a) c.Sectors d.Sectors)∨(d.Sectors.length=c.Sectors.length+1∧Adh (Aso a) d.Sectors c.Sectors)):=by unfold X9;rw [Bd1 _ _ _ h1,Bd1 _ _ _ h2,R.ok_bind,R.ok_bind,← Blx (Amo g z) (Amo g A) (Bah g D z A) (Bah g D A z)];refine .ok ?_;simp only [BU,AK,CX];omega
def Bho(g:CGood a)(A:a.Configs[x]?=some c)(O:In a v):∃s,Afd a (x:Int) v=.ok (s,true)/\s∈c.Sectors/\v∈Aso a s:=by
 rw[A3u,A1n];unfold Bf6;have S:=A6 A;have z:=AH A;rw[if_neg (by simp only[BU,BB,not_or];omega),BI,A];simp only[AQ,BH];obtain⟨k,hk,D⟩:=(Amo g z).at_ O;have G:Ane a v k=true:=by have h:=(g.con c z).rg k hk;unfold Ane;simp only[AK,BB,DP];exact⟨⟨h.1,h.2⟩,D⟩
 cases hf:c.Sectors.find? (Ane a v)with
 |none=>exact absurd G (by simpa using List.find?_eq_none.1 hf k hk)
 |some s=>have h1:=List.find?_some hf;unfold Ane at h1;simp only[AK,DP]at h1;exact⟨s,rfl,HG hf,h1.2⟩
def Ug (a:Airspace)(C:List Int)(v w:Int):Prop:=∃k∈C,v∈Aso a k/\w∈Aso a k
def Bea(g:CGood a)(z:a.Configs[x]?=some c){w:Int}(O:In a v)(hw:In a w):An (Th a (x:Int) v w) λb=>b=true↔Ug a c.Sectors v w:=by
 obtain⟨s,h1,h2,A⟩:=Bho g z O;obtain⟨t,S,U,D⟩:=Bho g z hw;unfold Th;rw[h1,S,R.ok_bind,R.ok_bind];refine .ok ?_;rw[CX];constructor
 .intro e;have e:s=t:=e;exact⟨s,h2,A,e▸D⟩
 .rintro⟨k,hk,a1,a2⟩;have G:=Amo g (AH z);exact(G.uniq h2 hk A a1).trans (G.uniq U hk D a2).symm
def A6i(g:CGood a){y:Nat}{d:Config}(hc:a.Configs[x]?=some c)(hd:a.Configs[y]?=some d):An (Aco a (x:Int) (y:Int)) λb=>b=true↔Adh (Aso a) c.Sectors d.Sectors:=by
 have S:=g.v2;have V:=Amo g (AH hc);have W:=Amo g (AH hd);have no:∀{v w:Int},Ug a c.Sectors v w->¬Ug a d.Sectors v w->¬Adh (Aso a) c.Sectors d.Sectors:=λ⟨k,hk,h1,h2⟩ S hf=>by obtain⟨j,z,hs⟩:=hf k hk;exact S ⟨j,z,hs _ h1,hs _ h2⟩
 unfold Aco;refine An.alt (I:=λ_=>Adh (Aso a) c.Sectors d.Sectors) (J:=λ(e:Bool)=>e=false/\¬Adh (Aso a) c.Sectors d.Sectors) ((Lu (λn (_:Unit)=>∀v w:Nat,w<v->v<n->Ug a c.Sectors (v:Int) (w:Int)->Ug a d.Sectors (v:Int) (w:Int)) (λ(e:Bool)=>e=false/\¬Adh (Aso a) c.Sectors d.Sectors) a.Volumes 0 () (λj q u z hI=>?_) (λv w _ h=>absurd h (DN _))).mono λr hr=>?_) (λ_ h=>.ok ⟨λ_=>h,λ_=>rfl⟩) λe U=>.ok ⟨λh=>absurd (U.1.symm.trans h) (by decide),λh=>absurd h U.2⟩
 .rw[AE]at hI ⊢;have aa:=A6 z;unfold Am5;refine An.alt (I:=λ_=>∀w:Nat,w<j->Ug a c.Sectors (j:Int) (w:Int)->Ug a d.Sectors (j:Int) (w:Int)) (J:=λ(e:Bool)=>e=false/\¬Adh (Aso a) c.Sectors d.Sectors) (Fx (λw:Int=>j-w.toNat) (λw=>∃m:Nat,w=(m:Int)/\∀w:Nat,w<m->w<j->Ug a c.Sectors (j:Int) (w:Int)->Ug a d.Sectors (j:Int) (w:Int)) (Sm (λ(_:Unit)=>∀w:Nat,w<j->Ug a c.Sectors (j:Int) (w:Int)->Ug a d.Sectors (j:Int) (w:Int)) (λ(e:Bool)=>e=false/\¬Adh (Aso a) c.Sectors d.Sectors)) (λw hw=>?_) j 0 (Nat.sub_le _ _) ⟨0,rfl,λw h=>absurd h (DN _)⟩) (λ_ h=>?_) λe U=>.ok U
  .obtain⟨m,rfl,hm⟩:=hw;unfold Anq;refine An.ite (λab=>?_) λac=>.ok λw h=>hm w (by omega) h;have X:In a (j:Int):=⟨by omega,by omega⟩;have Y:In a (m:Int):=⟨by omega,by omega⟩;refine(Bea g hc X Y).bind λr hr=>?_;have Z:(Ug a c.Sectors (j:Int) (m:Int)->Ug a d.Sectors (j:Int) (m:Int))->Sm (λw'=>(∃m:Nat,w'=(m:Int)/\∀w:Nat,w<m->w<j->Ug a c.Sectors (j:Int) (w:Int)->Ug a d.Sectors (j:Int) (w:Int))/\j-w'.toNat<j-(m:Int).toNat) (Sm (λ(_:Unit)=>∀w:Nat,w<j->Ug a c.Sectors (j:Int) (w:Int)->Ug a d.Sectors (j:Int) (w:Int)) (λ(e:Bool)=>e=false/\¬Adh (Aso a) c.Sectors d.Sectors)) (.inl (wrap .i64 ((m:Int)+1))):=λht=>by
    have e:wrap .i64 ((m:Int)+1)=((m+1:Nat):Int):=by rw[Ok (by omega) (by omega)];omega
    rw[e];refine⟨⟨m+1,rfl,λw h1 h2 G=>?_⟩,by omega⟩;rcases CI w m with h'|h'
    .exact hm w h' h2 G
    .have:w=m:=by omega
     subst this;exact ht G
   refine An.bind (p:=λb=>b=true↔(Ug a c.Sectors (j:Int) (m:Int)/\¬Ug a d.Sectors (j:Int) (m:Int))) ?_ λb hb=>An.ite (λh=>.ok ⟨rfl,no (hb.1 h).1 (hb.1 h).2⟩) λh=>.ok (Z λG=>EZ λS=>h (hb.2 ⟨G,S⟩));refine An.ite (λh=>(Bea g hd X Y).bind λr1 O=>.ok ?_) λh=>.ok ⟨λh'=>(by cases h'),λh'=>absurd (hr.2 h'.1) h⟩;constructor
   .intro h1;exact⟨hr.1 h,λG=>by rw[O.2 G]at h1;cases h1⟩
   .rintro⟨_,h2⟩;cases r1 with
    |false=>rfl
    |true=>exact absurd (O.1 rfl) h2
  .unfold Ae7;refine .ok λv w h1 h2=>?_;rcases CI v j with h'|h'
   .exact hI v w h1 h'
   .have:v=j:=by omega
    subst this;exact h w h1
 .cases r with
  |inr e=>exact hr
  |inl u=>
   have hr:∀v w:Nat,w<v->v<0+a.Volumes.length->Ug a c.Sectors (v:Int) (w:Int)->Ug a d.Sectors (v:Int) (w:Int):=hr;intro k hk;obtain⟨v,hv⟩:=HH _ (V.ne k hk);have iv:=V.of hk hv;obtain⟨j,z,A⟩:=W.at_ iv;refine⟨j,z,λw hw=>?_⟩;have iw:=V.of hk hw;obtain⟨n,rfl⟩:=BY iv.1;obtain⟨m,rfl⟩:=BY iw.1;have X:=iv.2;have Y:=iw.2;rcases Nat.lt_trichotomy m n with h|h|h
   .obtain⟨j',D,e1,e2⟩:=hr n m h (by omega) ⟨k,hk,hv,hw⟩;rw[W.uniq z D A e1];exact e2
   .subst h;exact A
   .obtain⟨j',D,e1,e2⟩:=hr m n h (by omega) ⟨k,hk,hw,hv⟩;rw[W.uniq z D A e2];exact e1
def Bif(g:CGood a)(h0:N4 a=.ok 0)(hM:Maps a Z l)(hS:∀c∈a.Configs,c.Sectors.length<=1000){y:Nat}(hx:x<a.Configs.length)(hy:y<a.Configs.length):An (Akq a (x:Int) (y:Int)) λb=>b=true↔E l x y:=by
 unfold Akq;rw[h0,R.ok_bind];by_cases hxy:x=y
 .subst hxy;rw[if_pos (by simp)];exact .ok ⟨λh=>(by cases h),λh=>absurd rfl h.1⟩
 have hc:a.Configs[x]?=some a.Configs[x]:=AA hx;have hd:a.Configs[y]?=some a.Configs[y]:=AA hy;have hcm:=BK hx;have hdm:=BK hy;generalize a.Configs[x]=c at hc hcm;generalize a.Configs[y]=d at hd hdm;have s1:=hS c hcm;have s2:=hS d hdm;rw[if_neg (by simp only[BU,BB,not_or,bne_iff_ne,CX];omega),Zo hc,R.ok_bind,Zo hd,R.ok_bind];have hE:E l x y↔(((c.Sectors.length=d.Sectors.length\/c.Sectors.length=d.Sectors.length+1)/\Adh (Aso a) c.Sectors d.Sectors)\/(d.Sectors.length=c.Sectors.length+1/\Adh (Aso a) d.Sectors c.Sectors)):=by
  obtain⟨b,hb,hi⟩:=Bib g hM hcm hdm s1 s2;rw[<-hi];have lx:l[x]?=some (Mx Z c.Sectors):=by rw[hM.eq,CJ,hc];rfl
  have ly:l[y]?=some (Mx Z d.Sectors):=by rw[hM.eq,CJ,hd];rfl
  constructor
  .rintro⟨_,p,q,h1,h2,h3⟩;rw[lx]at h1;rw[ly]at h2;cases h1;cases h2;rw[hb]at h3;injection h3
  .intro h;exact⟨hxy,_,_,lx,ly,by rw[hb,h]⟩
 rw[Ok (by omega) (by omega)];have j1:∀b:Bool,(b=true->(c.Sectors.length=d.Sectors.length\/c.Sectors.length=d.Sectors.length+1))->(b=false->¬(c.Sectors.length=d.Sectors.length\/c.Sectors.length=d.Sectors.length+1))->An (Ut a (x:Int) (y:Int) c d b) λb=>b=true↔E l x y:=λb t f=>by
  unfold Ut;rw[Ok (by omega) (by omega)];cases b with
  |true=>
   rw[if_pos rfl];refine(A6i g hc hd).bind λr hr=>.ok ?_;rw[hr,hE];exact⟨λh=>.inl ⟨t rfl,h⟩,λh=>by
    rcases h with h|h
    .exact h.2
    .have:=t rfl;omega⟩
  |false=>
   rw[if_neg (by decide)];have nf:=f rfl;refine An.ite (λh=>?_) λh=>.ok ⟨λh'=>(by cases h'),λh'=>?_⟩
   .have h:d.Sectors.length=c.Sectors.length+1:=by simp only[CX]at h;omega
    refine(A6i g hd hc).bind λr hr=>.ok ?_
    rw[hr,hE]
    exact⟨λh'=>.inr ⟨h,h'⟩,λh'=>by
     rcases h' with h'|h'
     .exact absurd h'.1 nf
     .exact h'.2⟩
   .rw[hE]at h';rcases h' with h'|h'
    .exact absurd h'.1 nf
    .exact absurd (by simp only[CX];omega) h
 refine An.ite (λh=>j1 _ (λh'=>?_) λh'=>?_) λh=>j1 _ (λh'=>?_) λh'=>?_
 .simp only[CX]at h';omega
 .rw[h]at h';cases h'
 .simp only[CX]at h';omega
 .simp only[CX,beq_eq_false_iff_ne]at h h';omega
def Rch.trans{a b c:Nat}(h:Rch l a b)(g:Rch l b c):Rch l a c:=by
 induction g with
 |nil=>exact h
 |cons _ e z=>exact z.cons e
def Rch.symm{a b:Nat}(h:Rch l a b):Rch l b a:=by
 induction h with
 |nil=>exact .nil
 |cons _ e z=>exact(Rch.nil.cons e.symm).trans z
def Gf (d:List Int)(i:Nat):Prop:=∃v,d[i]?=some v/\v≠33
structure Sr (n:Nat)(l:Dv)(x:Nat)(d q:List Int):Prop where
 len:d.length=n
 val:∀(i:Nat) v,d[i]?=some v->v=33\/(0<=v/\v<(q.length:Int))
 que:∀v∈q,∃i:Nat,v=(i:Int)/\i<n/\Gf d i
 mem:∀i,Gf d i->(i:Int)∈q
 cnt:q.length+d.countP (·==33)=n
 rch:∀i,Gf d i->Rch l x i
def Gf.of_set(h:Gf (d.set j v) i):Gf d i\/i=j:=by
 by_cases e:j=i
 .exact .inr e.symm
 .obtain⟨w,h1,h2⟩:=h;rw[EY e]at h1;exact .inl ⟨w,h1,h2⟩
def Gf.set(z:v≠33)(h:Gf d i):Gf (d.set j v) i:=by
 obtain⟨w,h1,h2⟩:=h;by_cases e:j=i
 .subst e;exact⟨v,by rw[BO (A6 h1)],z⟩
 .exact⟨w,by rw[EY e];exact h1,h2⟩
structure Rnd (l:Dv)(u:Nat)(d q:List Int)(k:Nat)(d' q':List Int):Prop where
 up:∀i,Gf d i->Gf d' i
 ext:∃z,q'=q++z
 all:∀j,j<k->E l j u->Gf d' j
def Bi0(g:CGood a)(h0:N4 a=.ok 0)(hM:Maps a Z l)(hS:∀c∈a.Configs,c.Sectors.length<=1000){p u:Nat}{q:List Int}(hs:Sr a.Configs.length l x d q)(hp:q[p]?=some (u:Int))(hu:u<a.Configs.length):
  An (A5 (λj1 _=>Ct λd2 O=>Mk a (p:Int) j1 d2 O) 0 a.Configs (d,q)) λt=>Sr a.Configs.length l x t.1 t.2/\Rnd l u d q a.Configs.length t.1 t.2:=by
 have hn:=g.c2
 refine(Cp (λk (t:List Int×List Int)=>Sr a.Configs.length l x t.1 t.2/\Rnd l u d q k t.1 t.2) a.Configs 0 (d,q) (λj c t hj ht=>?_) ⟨hs,λi h=>h,⟨[],by simp⟩,λj h=>absurd h (DN _)⟩).mono λt ht=>by rwa[AE]at ht
 rw[AE]at ht ⊢
 have Y:=A6 hj
 obtain⟨d1,q1⟩:=t
 obtain⟨G,U⟩:=ht
 simp only at G U
 obtain⟨z,hz⟩:=U.ext
 have aa:=G.len
 have V:q1[p]?=some (u:Int):=by rw[hz,CT (A6 hp)];exact hp
 simp only[Ct]
 unfold Mk
 have W:d1[j]?=some d1[j]:=AA (by omega)
 rw[Zo W,R.ok_bind]
 have S:(E l j u->Gf d1 j)->An (Mp (p:Int) d1 j false q1) λt=>Sr a.Configs.length l x t.1 t.2/\Rnd l u d q (j+1) t.1 t.2:=λhe=>.ok ⟨G,U.up,U.ext,λi hi hE=>by
  rcases CI i j with h'|h'
  .exact U.all i h' hE
  .have:i=j:=by omega
   subst this;exact he hE⟩
 refine An.ite (λA=>?_) λA=>S λ_=>⟨_,W,by simpa using A⟩
 rw[Zo V,R.ok_bind]
 obtain⟨b,hb,ab⟩:=Bif g h0 hM hS Y hu
 rw[hb,R.ok_bind]
 cases b with
 |false=>exact S λhE=>absurd (ab.2 hE) (by decide)
 |true=>
  have hE:E l j u:=ab.1 rfl;unfold Mp;rw[if_pos rfl,Zo V,R.ok_bind];have X:d1[u]?=some d1[u]:=AA (by omega);rw[Zo X,R.ok_bind,Zo W,R.ok_bind];have A:d1[j]=33:=by simpa using A
  have ac:Gf d1 u:=by
   obtain⟨i,e1,_,e2⟩:=G.que (u:Int) (AH V);have:u=i:=by omega
   subst this;exact e2
  have ah:1<=d1.countP (·==33):=List.countP_pos_iff.2 ⟨33,A▸BK _,rfl⟩;have ai:=G.cnt;have hv:=G.val u _ X;have ae:d1[u]≠33:=by obtain⟨w,e1,e2⟩:=ac;rw[X]at e1;cases e1;exact e2
  have hv:0<=d1[u]/\d1[u]<(q1.length:Int):=hv.resolve_left ae;have hw:wrap .i64 (d1[u]+1)=d1[u]+1:=Ok (by omega) (by omega);refine An.need (Dt (by simp only[AC];omega)) (.ok ?_);rw[hw,BI];have D:d1[u]+1≠33:=by omega
  refine⟨⟨by simp only;rw[FZ];exact aa,λi v hi=>?_,λv af=>?_,λi hi=>?_,?_,λi hi=>?_⟩,λi hi=>(U.up i hi).set D,⟨z++[(j:Int)],by simp only;rw[hz,BX]⟩,λi hi ag=>?_⟩
  .simp only[AG,AC]at hi ⊢;by_cases e:j=i
   .subst e;rw[BO (by omega)]at hi;cases hi;right;omega
   .rw[EY e]at hi;rcases G.val i v hi with h|h
    .exact .inl h
    .right;omega
  .rcases BG.1 af with h|h
   .obtain⟨i,e1,e2,e3⟩:=G.que v h;exact⟨i,e1,e2,e3.set D⟩
   .rw[AM.1 h];exact⟨j,rfl,Y,_,by rw[BO (by omega)],D⟩
  .rcases hi.of_set with h|h
   .exact List.mem_append_left _ (G.mem i h)
   .subst h;exact List.mem_append_right _ (AM.2 rfl)
  .simp only[AG,AC];have ad:j<d1.length:=by omega
   rw[List.countP_set ad,A];have:((d1[u]+1:Int)==33)=false:=by simpa using D
   simp only[beq_self_eq_true,if_true,this,BD,if_false];omega
  .rcases hi.of_set with h|h
   .exact G.rch i h
   .subst h;exact(G.rch u ac).cons hE.symm
  .rcases CI i j with h'|h'
   .exact(U.all i h' ag).set D
   .have:i=j:=by omega
    subst this
    exact⟨_,by simp only;rw[BO (by omega)],D⟩
structure FndR (l:Dv)(n x:Nat)(d:List Int):Prop where
 len:d.length=n
 at_:Gf d x
 clo:∀i j,Gf d i->E l i j->Gf d j
 rch:∀i,Gf d i->Rch l x i
def FndR.fwd{a b:Nat}(h:FndR l n x d)(r:Rch l a b)(z:Gf d a):Gf d b:=by
 induction r with
 |nil=>exact z
 |cons _ e A=>exact h.clo _ _ A e
def E.lt{y:Nat}(h:E l x y):x<l.length/\y<l.length:=by obtain⟨_,p,q,h1,h2,_⟩:=h;exact⟨A6 h1,A6 h2⟩
def Bir(g:CGood a)(h0:N4 a=.ok 0)(hM:Maps a Z l)(hS:∀c∈a.Configs,c.Sectors.length<=1000)(x:Nat)(D:x<a.Configs.length):An (Py a (x:Int)) (FndR l a.Configs.length x):=by
 have hn:=g.c2;have hl:l.length=a.Configs.length:=by rw[hM.eq,AL]
 unfold Py;refine An.bind (p:=λd=>d=List.replicate a.Configs.length (33:Int)) ((Cp (λk (d:List Int)=>d=List.replicate k 33) a.Configs 0 [] (λj c s hj G=>by have ac:=A6 hj;rw[AE]at G ⊢;unfold Ad9;refine An.need (Dt (by simp only[AC];rw[G,DO];omega)) (.ok ?_);rw[G,<-List.replicate_succ']) rfl).mono λd O=>by rwa[AE]at O) λd O=>?_;subst O;rw[Zo (a:=33) (by simp[D]),R.ok_bind];have ab:(List.replicate a.Configs.length (33:Int))[x]?=some 33:=by simp[D]
 have only:∀i,Gf ((List.replicate a.Configs.length (33:Int)).set x 0) i->i=x:=λi hi=>by
  rcases hi.of_set with⟨v,h1,h2⟩|h
  .have:=AH h1;simp only[List.mem_replicate]at this;exact absurd this.2 h2
  .exact h
 have S:Gf ((List.replicate a.Configs.length (33:Int)).set x 0) x:=⟨0,by rw[BO (by simpa using D)],by decide⟩;have start:Sr a.Configs.length l x ((List.replicate a.Configs.length (33:Int)).set x 0) [(x:Int)]:=by
  refine⟨by simp,λi v hi=>?_,λv hv=>?_,λi hi=>?_,?_,λi hi=>?_⟩
  .by_cases e:x=i
   .subst e;rw[BO (by simpa using D)]at hi;cases hi;right;simp
   .rw[EY e]at hi;have:=AH hi;simp only[List.mem_replicate]at this;exact .inl this.2
  .rw[AM.1 hv];exact⟨x,rfl,D,S⟩
  .rw[only i hi];exact AM.2 rfl
  .have hi:x<(List.replicate a.Configs.length (33:Int)).length:=by simpa using D
   rw[List.countP_set hi]
   simp[List.countP_replicate];omega
  .rw[only i hi];exact .nil
 rw[BI];refine An.bind (p:=FndR l a.Configs.length x) (Fx (λs:Int×List Int×List Int=>a.Configs.length+1-s.1.toNat) (λs=>∃p:Nat,s.1=(p:Int)/\p<=s.2.2.length/\Sr a.Configs.length l x s.2.1 s.2.2/\Gf s.2.1 x/\∀i u:Nat,i<p->s.2.2[i]?=some (u:Int)->∀j,E l j u->Gf s.2.1 j) (FndR l a.Configs.length x) (λs G=>?_) (a.Configs.length+1) _ (Nat.sub_le _ _) ⟨0,rfl,DA _,start,S,λi u h=>absurd h (DN _)⟩) λd O=>.ok O;obtain⟨pi,d,q⟩:=s;obtain⟨p,h1,h2,A,X,Y⟩:=G;simp only at h1 h2 A X Y;subst h1;simp only[un3];unfold Pn;have ad:q.length<=a.Configs.length:=by have:=A.cnt;omega
 refine An.ite (λae=>?_) λaf=>.ok ⟨A.len,X,λi j hi hE=>?_,A.rch⟩
 .have U:p<q.length:=by omega
  obtain⟨u,e1,e2,e3⟩:=A.que q[p] (BK U)
  have V:q[p]?=some (u:Int):=by rw[AA U,e1]
  refine(Bi0 g h0 hM hS A V e2).bind λt ht=>?_
  obtain⟨d',q'⟩:=t
  obtain⟨t1,W⟩:=ht
  simp only at t1 W
  simp only[Ct]
  have e:wrap .i64 ((p:Int)+1)=((p+1:Nat):Int):=by rw[Ok (by omega) (by omega)];omega
  rw[e]
  obtain⟨z,hz⟩:=W.ext
  refine .ok ⟨⟨p+1,rfl,by simp only;rw[hz,AG];omega,t1,W.up _ X,λi w hi hw j hE=>?_⟩,by simp only[BI];omega⟩
  simp only at hw ⊢
  have aa:i<q.length:=by omega
  rw[hz,CT aa]at hw
  rcases CI i p with h'|h'
  .exact W.up _ (Y i w h' hw j hE)
  .have:i=p:=by omega
   subst this
   rw[V]at hw
   have hw:(u:Int)=(w:Int):=by simpa using hw
   have:u=w:=by omega
   subst this
   exact W.all j (by have:=hE.lt.1;omega) hE
 .have hm:=A.mem i hi;obtain⟨k,hk⟩:=DI.1 hm;exact Y k i (by have:=A6 hk;omega) hk j hE.symm
def Axb (l:Dv):Prop:=∀i j,i<l.length->j<l.length->Rch l i j
def Bfr(g:CGood a)(h0:N4 a=.ok 0)(U:Maps a Z l)(hS:∀c∈a.Configs,c.Sectors.length<=1000):An (Acg a) λr=>r.2.2.1=true↔¬Axb l:=by
 have hl:l.length=a.Configs.length:=by rw[U.eq,AL]
 unfold Acg;rw[h0,R.ok_bind,if_neg (by decide)];refine An.alt (I:=λ_=>Axb l) (J:=λ(r:Int×Int×Bool×Int)=>r.2.2.1=true/\¬Axb l) ((Lu (λk (_:Unit)=>∀i j,i<k->j<l.length->Rch l i j) (λ(r:Int×Int×Bool×Int)=>r.2.2.1=true/\¬Axb l) a.Configs 0 () (λi c u hi V=>?_) (λi j h=>absurd h (DN _))).mono λr hr=>?_) (λ_ h=>.ok ⟨λh'=>(by cases h'),λh'=>absurd h h'⟩) λr hr=>.ok ⟨λ_=>hr.2,λ_=>hr.1⟩
 .rw[AE]at V ⊢;have O:=A6 hi;unfold Anh;refine(Bir g h0 U hS i O).bind λd G=>?_;refine An.alt (I:=λ_=>∀j,j<l.length->Rch l i j) (J:=λ(r:Int×Int×Bool×Int)=>r.2.2.1=true/\¬Axb l) ((Lu (λk (_:Unit)=>∀j,j<k->Rch l i j) (λ(r:Int×Int×Bool×Int)=>r.2.2.1=true/\¬Axb l) a.Configs 0 () (λj q u W X=>?_) (λj h=>absurd h (DN _))).mono λr hr=>?_) (λ_ h=>.ok λi' j h1 h2=>?_) λr hr=>.ok hr
  .rw[AE]at X ⊢;have S:=A6 W;unfold Amh;have D:j<d.length:=by rw[G.len];exact S
   have z:d[j]?=some d[j]:=AA D;rw[Zo z,R.ok_bind];refine An.ite (λA=>.ok ⟨rfl,λhA=>?_⟩) λA=>.ok λj' aa=>?_
   .obtain⟨v,Y,e2⟩:=G.fwd (hA i j (by omega) (by omega)) G.at_;rw[z]at Y;cases Y;exact e2 (by simpa using A)
   .rcases CI j' j with h'|h'
    .exact X j' h'
    .have:j'=j:=by omega
     subst this
     exact G.rch j' ⟨_,z,by simpa using A⟩
  .cases r with
   |inr e=>exact hr
   |inl u=>have hr:∀j,j<0+a.Configs.length->Rch l i j:=hr;exact λj W=>hr j (by omega)
  .rcases CI i' i with h'|h'
   .exact V i' j h' h2
   .have:i'=i:=by omega
    subst this;exact h j h2
 .cases r with
  |inr e=>exact hr
  |inl u=>have hr:∀i j,i<0+a.Configs.length->j<l.length->Rch l i j:=hr;exact λi j h1 h2=>hr i j (by omega) h2
def Bf7(g:CGood a)(D:Mq a=.ok (l,true))(G:Maps a Z l):An (Wo a) λr=>r.2.2.1=true↔¬Axb l:=by
 have U:l.length=a.Configs.length:=by rw[G.eq,AL]
 have h1:=g.c1;have h2:=g.c2;unfold Wo;rw[D,R.ok_bind,if_pos rfl];refine(Bgm l 0 (by omega) (by omega)).bind λd z=>?_;refine(Bhf d).bind λv A=>?_;have all:(∀i,i<l.length->Ge d i)↔Axb l:=by
  constructor
  .intro h i j hi O;exact(z.rch i (h i hi)).symm.trans (z.rch j (h j O))
  .intro h i hi;exact z.fwd (h 0 i (by omega) hi) z.at_
 rw[<-all,<-z.ge_all];refine An.ite (λh=>.ok ⟨λ_ S=>by have:=A.2 S;omega,λ_=>rfl⟩) λh=>.ok ⟨λh'=>(by cases h'),λh'=>absurd (A.1 (by omega)) h'⟩
def Bla(h:Fv a=.ok 0)(z:∀c∈a.Configs,c.Sectors.length<=1000):∃r s,Wo a=.ok r/\Acg a=.ok s/\r.2.2.1=s.2.2.1:=by
 obtain⟨e,A,G⟩:=A1k a;rw[h]at A;cases A;have g:CGood a:=by
  rcases G with⟨_,g⟩|⟨h,_⟩
  .exact g
  .cases h
 obtain⟨Z,l,O,D⟩:=Bh7 g;obtain⟨r,hr,h1⟩:=Bf7 g O D;obtain⟨s,S,h2⟩:=Bfr g ((Bgp a z).trans h) D z;exact⟨r,s,hr,S,by rw[HZ,h1,h2]⟩
abbrev p90:PV:=⟨39,.int .i64 90⟩
def Bnc (b:Bool)(e:Int):Iv b e=if b then .ok ()else .pan ⟨39,.int .i64 e⟩:=rfl
def Bp5 (M:List (Al×Int))(ns:List Al):Prop:=∀x,Dq M x=(pos ns x).map λi=>(i:Int)
def An9 (ns:List Al)(x:Al):Bool:=(pos ns x).isSome
def of_eq {M:List (Al×Int)}{ns:List Al}(h:Bp5 M ns)(x:Al):Dc M x=if An9 ns x then .ok (As7 ns x)else .pan p90:=by unfold Dc An9 As7;rw[h x,Bnc];cases pos ns x<;>simp
def A4s (vs:List Al)(s:Sector):Sector:={s with Volumes:=s.Names.map (As7 vs)}
def A53 (ss:List Al)(s:Config):Config:={s with Sectors:=s.Names.map (As7 ss)}
def Bfe (vs:List Al)(s:Segment):Segment:={s with Volume:=As7 vs s.In}
def Bbu (gs Abj:List Al)(r:Route):Route:={r with From:=As7 Abj r.A,To:=As7 Abj r.B,Segments:=r.Names.map (As7 gs)}
def Boo (Abj cs:List Al)(r:Rule):Rule:={r with Class:=As7 cs r.C,Airport:=if r.Kind==1 then As7 Abj r.A else 0}
def Bj2 (vs:List Al)(s:Sector):Bool:=s.Names.all (An9 vs)
def Blc (ss:List Al)(s:Config):Bool:=s.Names.all (An9 ss)
def Bi5 (vs:List Al)(s:Segment):Bool:=An9 vs s.In
def Bod (gs Abj:List Al)(r:Route):Bool:=An9 Abj r.A&&An9 Abj r.B&&r.Names.all (An9 gs)
def Bo3 (Abj cs:List Al)(r:Rule):Bool:=An9 cs r.C&&(!(r.Kind==1)||An9 Abj r.A)
structure Small (N:Nat)(a:Airspace):Prop where
 v:a.Volumes.length<=N
 s:a.Sectors.length<=N
 c:a.Configs.length<=N
 g:a.Segments.length<=N
 r:a.Routes.length<=N
 p:a.Airports.length<=N
 k:a.Classes.length<=N
 u:a.Rules.length<=N
 sn:∀x∈a.Sectors,x.Names.length<=N
 cn:∀x∈a.Configs,x.Names.length<=N
 rn:∀x∈a.Routes,x.Names.length<=N
 pm:∀x∈a.Airports,x.Modes.length<=N
def vs (a:Airspace):List Al:=a.Volumes.map (·.Name)
def ss (a:Airspace):List Al:=a.Sectors.map (·.Name)
def cs (a:Airspace):List Al:=a.Configs.map (·.Name)
def gs (a:Airspace):List Al:=a.Segments.map (·.Name)
def rs (a:Airspace):List Al:=a.Routes.map (·.Name)
def Abj (a:Airspace):List Al:=a.Airports.map (·.Name)
def ks (a:Airspace):List Al:=a.Classes.map (·.Name)
def Bg5:Airspace:={Volumes:=[],Sectors:=[],Configs:=[],Segments:=[],Routes:=[],Airports:=[],Classes:=[],Rules:=[]}
def Bkl (a:Airspace):Prop:=(vs a).Nodup/\(ss a).Nodup/\(cs a).Nodup/\(gs a).Nodup/\(rs a).Nodup/\(Abj a).Nodup/\(ks a).Nodup/\∀p∈a.Airports,(p.Modes.map (·.Name)).Nodup
instance (a:Airspace):Decidable (Bkl a):=by unfold Bkl;infer_instance
def Blw (a:Airspace):Bool:=a.Sectors.all (Bj2 (vs a))&&a.Configs.all (Blc (ss a))&&a.Segments.all (Bi5 (vs a))&&a.Routes.all (Bod (gs a) (Abj a))&&a.Rules.all (Bo3 (Abj a) (ks a))
def Aa1 (a:Airspace):Airspace:={a with Sectors:=a.Sectors.map (A4s (vs a)),Configs:=a.Configs.map (A53 (ss a)),Segments:=a.Segments.map (Bfe (vs a)),Routes:=a.Routes.map (Bbu (gs a) (Abj a)),Rules:=a.Rules.map (Boo (Abj a) (ks a))}
def resolve (a:Airspace):Airspace×Int:=if Bkl a then(if Blw a then(Aa1 a,0)else(Bg5,90))else(Bg5,91)
def Ad1{b:Nat->α->Unit->R (Unit ⊕ Bool)}{p:α->Bool}(l:List α)(z:∀j,∀a,b j a ()=if p a=true then .ok (.inr false)else .ok (.inl ())){g:Unit->R Bool}{P:Prop}(A:(∀a∈l,p a=false)->An (g ()) λr=>r=true->P):
  An ((each b 0 l ()).bind (alt g (λr=>.ok r))) λr=>r=true->P:=by
 rw[A98 (p:=p) false l 0 (λj a _=>z j a)]
 cases h:l.any p with
 |true=>exact .ok λh=>by cases h
 |false=>
  refine A λa D=>?_;cases hp:p a with
  |false=>rfl
  |true=>rw[FU.2 ⟨a,D,hp⟩]at h;cases h
def Awn (l:List Al):An (N1 l) T1:=by unfold N1;refine An.alt (I:=T1) (J:=T1) ((Lu (λ_ _=>True) T1 l 0 () (λj a u _ _=>?_) trivial).mono λr _=>by cases r<;>trivial) (λ_ _=>.ok trivial) λ_ _=>.ok trivial;unfold Afx;exact An.ite (λ_=>.ok trivial) λ_=>.ok trivial
def Bli (a:Airspace):An (Aom a) T1:=by unfold Aom;refine An.ite (λ_=>.ok trivial) λ_=>?_;have e:∀{α σ:Type} {b:Nat->α->σ->R (σ ⊕ Bool)} (l:List α) (s:σ) (f:σ->R Bool),(∀j x t,An (b j x t) T1)->(∀t,An (f t) T1)->An ((each b 0 l s).bind (alt f (λr=>.ok r))) T1:=λl s f z hf=>An.alt (I:=T1) (J:=T1) ((Lu (λ_ _=>True) T1 l 0 s (λj x t _ _=>(z _ x t).mono λr _=>by cases r<;>trivial) trivial).mono λr _=>by cases r<;>trivial) (λt _=>hf t) λ_ _=>.ok trivial;refine An.bind (p:=T1) ((Cp (λ_ _=>True) a.Volumes 0 0 (λj x t _ _=>.ok trivial) trivial).mono λ_ _=>trivial) λx _=>e _ _ _ (λj x t=>(Awn _).bind λr _=>An.ite (λ_=>.ok trivial) λ_=>.ok trivial) λO=>e _ _ _ (λj x t=>(Awn _).bind λr _=>An.ite (λ_=>.ok trivial) λ_=>.ok trivial) λA=>?_;refine An.bind (p:=T1) ((Cp (λ_ _=>True) a.Segments 0 A (λj x t _ _=>.ok trivial) trivial).mono λ_ _=>trivial) λS _=>e _ _ _ (λj x t=>(Awn _).bind λr _=>An.ite (λ_=>.ok trivial) λ_=>.ok trivial) λD=>?_;exact An.bind (p:=T1) ((Cp (λ_ _=>True) a.Airports 0 D (λj x t _ _=>.ok trivial) trivial).mono λ_ _=>trivial) λG _=>.ok trivial
def Bhy (a:Airspace):An (Af5 a) T1:=by unfold Af5;refine(Ad1 (P:=True) (p:=λ(s:Sector)=>decide ((s.Volumes.length:Int)>10)) a.Sectors (λj s=>by simp only[Aiv,BB]) λ_=>(Ad1 (P:=True) (p:=λ(s:Config)=>decide ((s.Sectors.length:Int)>10)) a.Configs (λj s=>by simp only[Aka,BB]) λ_=>.ok λ_=>trivial)).mono λ_ _=>trivial
structure Bd (a:Airspace):Prop where
 v:a.Volumes.length<=1000
 s:a.Sectors.length<=1000
 c:a.Configs.length<=1000
 g:a.Segments.length<=1000
 r:a.Routes.length<=1000
 p:a.Airports.length<=1000
 k:a.Classes.length<=1000
 u:a.Rules.length<=1000
 sn:∀x∈a.Sectors,x.Names.length<=1000
 cn:∀x∈a.Configs,x.Names.length<=1000
 rn:∀x∈a.Routes,x.Names.length<=1000
 pm:∀x∈a.Airports,x.Modes.length<=1000
 sv:∀x∈a.Sectors,x.Volumes.length<=1000
 cv:∀x∈a.Configs,x.Sectors.length<=1000
 rg:∀x∈a.Routes,x.Segments.length<=1000
def Bim (a:Airspace):An (Aop a) λb=>b=true->Bd a:=by
 unfold Aop;refine An.ite (λ_=>.ok λh=>by cases h) λh=>?_;simp only[BU,BB,not_or]at h;obtain⟨⟨⟨⟨⟨⟨⟨h1,h2⟩,S⟩,U⟩,V⟩,W⟩,X⟩,Y⟩:=h;refine Ad1 (p:=λ(s:Volume)=>decide ((s.Closed.length:Int)>8)) a.Volumes (λj s=>by simp only[Aql,BB]) λ_=>?_;refine Ad1 (p:=λ(s:Sector)=>(decide ((s.Volumes.length:Int)>16))||(decide ((s.Names.length:Int)>16))) a.Sectors (λj s=>rfl) λA=>?_;refine Ad1 (p:=λ(s:Config)=>(decide ((s.Sectors.length:Int)>16))||(decide ((s.Names.length:Int)>16))) a.Configs (λj s=>rfl) λD=>?_;refine Ad1 (p:=λ(s:Segment)=>decide ((s.Open.length:Int)>8)) a.Segments (λj s=>by simp only[Aqd,BB]) λ_=>?_;refine Ad1 (p:=λ(s:Route)=>(decide ((s.Segments.length:Int)>10))||(decide ((s.Names.length:Int)>10))) a.Routes (λj s=>rfl) λG=>?_;refine Ad1 (p:=λ(s:Airport)=>decide ((s.Modes.length:Int)>6)) a.Airports (λj s=>by simp only[Aqt,BB]) λO=>.ok λ_=>?_;refine⟨by omega,by omega,by omega,by omega,by omega,by omega,by omega,by omega,λx z=>?_,λx z=>?_,λx z=>?_,λx z=>?_,λx z=>?_,λx z=>?_,λx z=>?_⟩
 .have:=A x z;simp only[Bool.or_eq_false_iff,DJ]at this;omega
 .have:=D x z;simp only[Bool.or_eq_false_iff,DJ]at this;omega
 .have:=G x z;simp only[Bool.or_eq_false_iff,DJ]at this;omega
 .have:=O x z;simp only[DJ]at this;omega
 .have:=A x z;simp only[Bool.or_eq_false_iff,DJ]at this;omega
 .have:=D x z;simp only[Bool.or_eq_false_iff,DJ]at this;omega
 .have:=G x z;simp only[Bool.or_eq_false_iff,DJ]at this;omega
def Bcu (a:Airspace)(r:Rule):An (Acp a r) T1:=by unfold Acp;exact An.ite (λ_=>.ok trivial) λ_=>An.ite (λ_=>.ok trivial) λ_=>An.ite (λ_=>.ok trivial) λ_=>An.ite (λ_=>.ok trivial) λ_=>An.ite (λ_=>.ok trivial) λ_=>An.ite (λ_=>.ok trivial) λ_=>.ok trivial
def Bi3 (a:Airspace):An (Aor a) T1:=by unfold Aor;refine Pu (Aiq λ_=>An.bind (p:=T1) ?_ λr _=>.ok trivial);unfold My;refine An.ite (λ_=>.ok trivial) λ_=>An.alt (I:=T1) (J:=T1) ((Lu (λ_ _=>True) T1 a.Rules 0 () (λj x u _ _=>?_) trivial).mono λr _=>by cases r<;>trivial) (λ_ _=>.ok trivial) λ_ _=>.ok trivial;unfold An3;exact(Bcu _ _).bind λr _=>An.ite (λ_=>.ok trivial) λ_=>.ok trivial
def Bhk (a:Airspace):An (Agr a) λb=>b=true->Bd a:=by unfold Agr;refine(Bli a).bind λr _=>An.bind (p:=T1) (Y7 (Pu (Bhy a))) λb _=>An.bind (p:=λb=>b=true->Bd a) (An.ite (λ_=>(Bim a).bind λr h=>.ok h) λ_=>.ok λh=>by cases h) λb1 z=>?_;refine An.bind (p:=λb2=>b2=true->Bd a) (An.ite (λh1=>(Bi3 a).bind λ_ _=>.ok λ_=>z h1) λ_=>.ok λh=>by cases h) λb2 A=>.ok λh=>A ?_;simp only[AK]at h;exact h.1.1.1
def Bd.low0(h:Bd a):LowOk a where
 seg:=by have:=h.g;omega
 vol:=by have:=h.v;omega
 rt:=by have:=h.r;omega
 rs:=λx z=>by have:=h.rg x z;omega
 sec:=by have:=Xd;have:=h.s;omega
 secv:=λx z=>by have:=Xd;have:=h.sv x z;omega
 con:=by have:=Xd;have:=h.c;omega
 cons:=λx z=>by have:=Xd;have:=h.cv x z;omega
 air:=by have:=Xd;have:=h.p;omega
 mod:=λx z=>by have:=Xd;have:=h.pm x z;omega
 cla:=by have:=Xd;have:=h.k;omega
def Bd.low(h:Bd a):LowOk (Aa1 a) where
 seg:=by have:=h.g;simp only[Aa1,AL];omega
 vol:=by have:=h.v;simp only[Aa1];omega
 rt:=by have:=h.r;simp only[Aa1,AL];omega
 rs:=λx z=>by obtain⟨y,A,rfl⟩:=CC.1 z;have:=h.rn y A;simp only[Bbu,AL];omega
 sec:=by have:=Xd;have:=h.s;simp only[Aa1,AL];omega
 secv:=λx z=>by obtain⟨y,A,rfl⟩:=CC.1 z;have:=Xd;have:=h.sn y A;simp only[A4s,AL];omega
 con:=by have:=Xd;have:=h.c;simp only[Aa1,AL];omega
 cons:=λx z=>by obtain⟨y,A,rfl⟩:=CC.1 z;have:=Xd;have:=h.cn y A;simp only[A53,AL];omega
 air:=by have:=Xd;have:=h.p;simp only[Aa1];omega
 mod:=λx z=>by have:=Xd;have:=h.pm x z;omega
 cla:=by have:=Xd;have:=h.k;simp only[Aa1];omega
def Ajw{b:Nat->α->Unit->R (Unit ⊕ (Tables×Int))}{k:Nat}{x:α}{l:List α}{m:R Int}(T:Unit->R (Tables×Int))(z:b k x ()=m.bind Fb):(each b k (x::l) ()).bind (alt T (λr=>.ok r))=m.bind λe=>if(e !=0)=true then .ok (Uj,e)else(each b (k+1) l ()).bind (alt T (λr=>.ok r)):=by
 rw[Abg,z];cases m with
 |pan v=>rfl
 |bad=>rfl
 |ok e=>rw[R.ok_bind,R.ok_bind];unfold Fb;cases(e !=0)<;>rfl
noncomputable def Bj8 (a:Airspace):R (Tables×Int):=(G2 a.Sectors).bind λr1=>
 (Gx a.Configs).bind λr2=>
 (Ls a.Routes a).bind λz=>
 (G6 a.Airports).bind λr4=>
 (Kv a.Classes a).bind λA=>
 (Ky ({Volumes:=(a.Volumes.length:Int),Sectors:=r1,Configs:=r2,Ways:=z,Modes:=r4,Kinds:=A}:Tables)).bind λD=>
 if(D !=0)then
(.ok (Uj,140))
else
(.ok (({Volumes:=(a.Volumes.length:Int),Sectors:=r1,Configs:=r2,Ways:=z,Modes:=r4,Kinds:=A}:Tables),0))
def A6x (a:Airspace):N6 a=(Fv a).bind λe=>if(e !=0)=true then .ok (Uj,e)else(P0 a).bind λe=>if(e !=0)=true then .ok (Uj,e)else(Tv a).bind λe=>if(e !=0)=true then .ok (Uj,e)else(P3 a).bind λe=>if(e !=0)=true then .ok (Uj,e)else(Qc a).bind λe=>if(e !=0)=true then .ok (Uj,e)else(P6 a).bind λe=>if(e !=0)=true then .ok (Uj,e)else Bj8 a:=by unfold N6 Zb;rw[R.ok_bind];rw[Ajw (b:=λ_ a1=>λ_=>Z5 a a1) (m:=Fv a) _ rfl];rw[Ajw (b:=λ_ a1=>λ_=>Z5 a a1) (m:=P0 a) _ (by show Z5 a _=_;unfold Z5;rw[if_neg (by decide),if_pos rfl])];rw[Ajw (b:=λ_ a1=>λ_=>Z5 a a1) (m:=Tv a) _ (by show Z5 a _=_;unfold Z5;rw[if_neg (by decide),if_neg (by decide),if_pos rfl])];rw[Ajw (b:=λ_ a1=>λ_=>Z5 a a1) (m:=P3 a) _ (by show Z5 a _=_;unfold Z5;rw[if_neg (by decide),if_neg (by decide),if_neg (by decide),if_pos rfl])];rw[Ajw (b:=λ_ a1=>λ_=>Z5 a a1) (m:=Qc a) _ (by show Z5 a _=_;unfold Z5;rw[if_neg (by decide),if_neg (by decide),if_neg (by decide),if_neg (by decide),if_pos rfl])];rw[Ajw (b:=λ_ a1=>λ_=>Z5 a a1) (m:=P6 a) _ (by show Z5 a _=_;unfold Z5;rw[if_neg (by decide),if_neg (by decide),if_neg (by decide),if_neg (by decide),if_neg (by decide),if_pos rfl])];rfl
def Blp (a:Airspace):(Pw (A1e a)).1.length<=a.Volumes.length:=by
 unfold A1e;cases Uy a a.Segments 0 with
 |none=>exact DA _
 |some vs=>show(Ae6 a.Volumes.length vs).length<=_;unfold Ae6;rw[AL];exact CR (List.length_filter_le _ _) (by rw[EI];exact AF _)
def Bom(z:a.Configs.length<=1000)(h:Zx a=.ok t):t.Configs=a.Configs.map lC:=by unfold Zx at h;obtain⟨A,_,h⟩:=R.ok_of h;obtain⟨D,h2,h⟩:=R.ok_of h;obtain⟨G,_,h⟩:=R.ok_of h;obtain⟨O,_,h⟩:=R.ok_of h;obtain⟨S,_,h⟩:=R.ok_of h;injection h with h;rw[<-h];have:=A6b (b:=λ_ a2=>λl1=>Aj9 a2 l1) (g:=lC) (c:=64) (λ_ _ _=>rfl) a.Configs 0 [] (by rw[CW];exact Dt (by omega));rw[this]at h2;injection h2 with h2;rw[<-h2];rfl
def Bl1(S:OpSmall a)(hc:a.Configs.length<=1000)(hS:∀c∈a.Configs,c.Sectors.length<=1000):N6 a=Ahm a:=by
 rw[A6x];unfold Ahm Aik;rw[Bgp a hS];obtain⟨V,h1,_⟩:=Axf a;rw[h1,R.ok_bind,R.ok_bind];by_cases W:¬V=0
 .have z:(V !=0)=true:=by simpa using W
  rw[if_pos z,if_pos z,R.ok_bind,if_pos z];rfl
 replace W:=Classical.not_not.1 W;subst W;rw[if_neg (by decide),if_neg (by decide)];obtain⟨r,s,h2,h3,h4⟩:=Bla h1 hS;rw[h3,R.ok_bind];unfold P0;rw[h2,R.ok_bind,h4];cases s.2.2.1 with
 |true=>rfl
 |false=>
  rw[show(Pr (!false) 101).bind (λr1=>.ok r1)=.ok 0 from rfl,R.ok_bind,if_neg (by decide),if_neg (by decide),Aq3];obtain⟨e3,h5,hl⟩:=Apq a;rw[h5,R.ok_bind,R.ok_bind];by_cases X:¬e3=0
  .have A:(e3 !=0)=true:=by simpa using X
   rw[if_pos A,if_pos A,R.ok_bind,if_pos A];rfl
  replace X:=Classical.not_not.1 X;subst X;rw[if_neg (by decide),if_neg (by decide)];obtain⟨r4,s4,h6,h7,h8⟩:=Bid h5 (hl rfl);unfold P3;rw[h6,R.ok_bind,h7,R.ok_bind];by_cases O:¬s4.1=[]
  .have q5:r4.1≠[]:=λe=>O (h8.1 e);have V:((r4.1.length:Int)==0)=false:=by
    cases hr:r4.1 with
    |nil=>exact absurd hr q5
    |cons x l=>simp<;>omega
   have e2:((s4.1.length:Int)>0):=by
    cases hr:s4.1 with
    |nil=>exact absurd hr O
    |cons x l=>simp<;>omega
   rw[V,if_pos e2];rfl
  replace O:=Classical.not_not.1 O;have q5:=h8.2 O;rw[O,q5];rw[show(Pr ((([]:List Int).length:Int)==0) 130).bind (λr1=>.ok r1)=.ok 0 from rfl,R.ok_bind,if_neg (by decide),if_neg (by decide)];unfold Qc P6;rw[A0p a S,A96 a S,A2m a S,Bce a S];simp only[R.ok_bind];have pl:=Blp a;generalize Pw (A1e a)=p at pl;generalize Pw (blk a)=k;by_cases Y:¬p.2=0
  .have D:(p.2!=0)=true:=by simpa using Y
   simp only[D,if_true,R.ok_bind];rfl
  replace Y:=Classical.not_not.1 Y;have D:(p.2!=0)=false:=by rw[Y];rfl
  simp only[D,BD,if_false];by_cases q7:(p.1.length:Int)<(a.Volumes.length:Int)
  .rw[if_pos q7,show((p.1.length:Int)==(a.Volumes.length:Int))=false by simp<;>omega];rfl
  rw[if_neg q7,show((p.1.length:Int)==(a.Volumes.length:Int))=true by simp<;>omega];rw[show(Pr true 110).bind (λr1=>.ok r1)=.ok 0 from rfl,R.ok_bind,if_neg (by decide)];by_cases Z:¬k.2=0
  .have G:(k.2!=0)=true:=by simpa using Z
   simp only[G,if_true,R.ok_bind];rfl
  replace Z:=Classical.not_not.1 Z;have G:(k.2!=0)=false:=by rw[Z];rfl
  simp only[G,BD,if_false];by_cases q9:(k.1.length:Int)>0
  .rw[if_pos q9,show((k.1.length:Int)==0)=false by rw[beq_eq_false_iff_ne];omega];rfl
  rw[if_neg q9,show((k.1.length:Int)==0)=true by rw[CX];omega];rw[show(Pr true 110).bind (λr1=>.ok r1)=.ok 0 from rfl,R.ok_bind,if_neg (by decide),R.ok_bind,if_neg (by decide)];unfold Bj8;rw[Brb S h5 λt=>(Ky t).bind λr6=>if(r6 !=0)=true then .ok (Uj,140)else .ok (t,0)];cases ht:Zx a with
  |pan v=>rfl
  |bad=>rfl
  |ok t=>
   rw[R.ok_bind,R.ok_bind,A9t t λc U=>?_]
   .rfl
   .rw[Bom hc ht]at U;obtain⟨d,hd,rfl⟩:=CC.1 U;exact hS d hd
def Azv (s:List Sector)(c:List Config)(t:Tables)(h1:t.Sectors=s.map lS)(h2:t.Configs=c.map lC):Ub t=.ok true:=by unfold Ub;rw[A0i t.Sectors 0 λj x z=>by have z:=AH z;rw[h1]at z;obtain⟨y,_,rfl⟩:=CC.1 z;rfl];rw[R.ok_bind];show(each _ 0 t.Configs ()).bind _=_;rw[A0i t.Configs 0 λj x z=>by have z:=AH z;rw[h2]at z;obtain⟨y,_,rfl⟩:=CC.1 z;rfl];rfl
def Ap7{m:R Int}{K:R (Tables×Int)}{x:Int}(h:(m.bind λe=>if(e !=0)=true then .ok (Uj,e)else K)=.ok (t,x)):t=Uj\/K=.ok (t,x):=by
 obtain⟨e,_,h⟩:=R.ok_of h;split at h
 .injection h with h;exact .inl (Prod.mk.inj h).1.symm
 .exact .inr h
def lower_law (O:Acu=.ok true)(a:Airspace):Km a=.ok true:=by
 unfold Km;rw[O,R.ok_bind,if_pos rfl];obtain⟨b,S,D⟩:=Bhk a;rw[S,R.ok_bind];cases b with
 |false=>rfl
 |true=>
  have D:=D rfl;rw[if_pos rfl,<-Bl1 D.low0.toOpSmall D.c D.cv];obtain⟨⟨t,e⟩,ht,U⟩:=Bg1 a D.low0;rw[ht];simp only[R.ok_bind];rw[Bcb t U,R.ok_bind];have V:Ub t=.ok true:=by
   by_cases G:e=0
   .subst G;have h:=Boq ht;exact Azv _ _ t h.sec h.con
   .have A:=ht;rw[A6x]at A;have z:t=Uj:=by
     rcases Ap7 A with h|A
     .exact h
     rcases Ap7 A with h|A
     .exact h
     rcases Ap7 A with h|A
     .exact h
     rcases Ap7 A with h|A
     .exact h
     rcases Ap7 A with h|A
     .exact h
     rcases Ap7 A with h|A
     .exact h
     unfold Bj8 at A;obtain⟨W,_,A⟩:=R.ok_of A;obtain⟨X,_,A⟩:=R.ok_of A;obtain⟨Y,_,A⟩:=R.ok_of A;obtain⟨Z,_,A⟩:=R.ok_of A;obtain⟨x5,_,A⟩:=R.ok_of A;obtain⟨x6,_,A⟩:=R.ok_of A;split at A
     .injection A with A;exact(Prod.mk.inj A).1.symm
     .injection A with A;exact absurd (Prod.mk.inj A).2.symm G
    subst z;exact Azv [] [] Uj rfl rfl
  rw[V];simp
def law14_sane_ok:Acu=.ok true:=by kernel_rfl
end Go.Am
