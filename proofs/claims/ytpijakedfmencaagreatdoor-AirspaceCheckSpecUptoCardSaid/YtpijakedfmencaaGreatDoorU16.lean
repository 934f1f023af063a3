import Derived.Test.YtpijakedfmencaaGreatDoorU6
set_option linter.all false
set_option maxRecDepth 100000
namespace Go.Am
open Go
abbrev BN:=@Int.fdiv_eq_ediv_of_nonneg
abbrev DL:=@List.mem_nil_iff
abbrev DW:=@decide_eq_true
abbrev DZ:=@decide_eq_false
abbrev EO:=@Int.le_refl
abbrev EP:=@Nat.one_mul
variable{α:Type}
def As(m:R α)(p:α->Prop):Prop:=∃a,m=.ok a/\p a
variable{p:α→Prop}
def As.ok{a:α}(h:p a):As (.ok a) p:=⟨a,rfl,h⟩
variable{β:Type}{m:R α}{f:α→R β}
def As.bind{q:β->Prop}(h:As m p)(hf:∀a,p a->As (f a) q):As (m.bind f) q:=by obtain⟨a,rfl,z⟩:=h;exact hf a z
def As.mono{q:α->Prop}(h:As m p)(z:∀a,p a->q a):As m q:=let ⟨a,h1,h2⟩:=h;⟨a,h1,z a h2⟩
def As.np(h:As m p):As m.np p:=by obtain⟨a,rfl,z⟩:=h;exact⟨a,rfl,z⟩
variable{c:Prop}{a:R α}
def As.ite[Decidable c]{b:R α}(h1:c->As a p)(h2:¬c->As b p):As (if c then a else b) p:=by
 split
 .exact h1 ‹_›
 .exact h2 ‹_›
def As.need[Decidable c]{b:R α}(z:c)(h1:As a p):As (if c then a else b) p:=by rw[if_pos z];exact h1
def As.idx{l:List α}{i:Int}{p:β->Prop}(h0:0<=i)(h1:i<(l.length:Int))(hf:∀a,l[i.toNat]?=some a->As (f a) p):As ((idx l i).bind f) p:=by
 obtain⟨n,rfl⟩:=BY h0;have z:n<l.length:=by omega
 rw[Zo (AA z)];exact hf _ (AA z)
variable{σ:Type}{ε:Type}
def Sm(I:σ->Prop)(J:ε->Prop):σ ⊕ ε->Prop
 |.inl s=>I s
 |.inr e=>J e
def As.alt{m:R (σ ⊕ ε)}{f:σ->R β}{g:ε->R β}{I:σ->Prop}{J:ε->Prop}{p:β->Prop}(h:As m (Sm I J))(hf:∀s,I s->As (f s) p)(D:∀e,J e->As (g e) p):As (m.bind (alt f g)) p:=
 h.bind λa z=>by
  cases a with
  |inl s=>exact hf s z
  |inr e=>exact D e z
def My{b:Nat->α->σ->R σ}(I:Nat->σ->Prop):∀(l:List α) (k:Nat) (s:σ),(∀j a s,l[j]?=some a->I (k+j) s->As (b (k+j) a s) (I (k+j+1)))->I k s->As (eachS b k l s) (I (k+l.length))
 |[],k,s,_,z=>.ok z
 |a::l,k,s,G,z=>by rw[Ic];refine(G 0 a s rfl z).bind λs' D=>?_;have:=My I l (k+1) s' (λj x t O ht=>by have:=G (j+1) x t (by simpa using O) (by rw[show k+(j+1)=k+1+j by omega];exact ht);rwa[show k+(j+1)=k+1+j by omega]at this) D;rw[BV,show k+(l.length+1)=k+1+l.length by omega];exact this
def Lu{b:Nat->α->σ->R (σ ⊕ ε)}(I:Nat->σ->Prop)(J:ε->Prop):∀(l:List α) (k:Nat) (s:σ),(∀j a s,l[j]?=some a->I (k+j) s->As (b (k+j) a s) (Sm (I (k+j+1)) J))->I k s->As (each b k l s) (Sm (I (k+l.length)) J)
 |[],k,s,_,z=>.ok z
 |a::l,k,s,D,z=>by
  simp only[each];refine(D 0 a s rfl z).bind λr hr=>?_;cases r with
  |inr e=>exact .ok hr
  |inl s'=>have:=Lu I J l (k+1) s' (λj x t G ht=>by have:=D (j+1) x t (by simpa using G) (by rw[show k+(j+1)=k+1+j by omega];exact ht);rwa[show k+(j+1)=k+1+j by omega]at this) hr;rw[BV,show k+(l.length+1)=k+1+l.length by omega];exact this
def Aue{b:α->σ->R σ}(I:σ->Prop)(G:∀a s,I s->As (b a s) I):∀(l:List α) (s:σ),I s->As (Lf b l s) I
 |[],s,z=>.ok z
 |a::l,s,z=>(G a s z).bind λs' D=>Aue I G l s' D
def Aa1{b:σ->R (σ ⊕ ε)}(μ:σ->Nat)(I:σ->Prop)(J:ε->Prop)(D:∀s,I s->As (b s) (Sm (λs'=>I s'/\μ s'<μ s) J)):∀(n:Nat) (s:σ),μ s<=n->I s->As (loop b s) J:=by
 intro n;induction n with
 |zero=>
  intro s G z;rw[Ms];refine(D s z).bind λr hr=>?_;cases r with
  |inl s'=>exact absurd hr.2 (by omega)
  |inr e=>exact .ok hr
 |succ n O=>
  intro s G z;rw[Ms];refine(D s z).bind λr hr=>?_;cases r with
  |inl s'=>exact O s' (by have:=hr.2;omega) hr.1
  |inr e=>exact .ok hr
abbrev T1:α->Prop:=λ_=>True
variable{b:Nat→α→Unit→R (Unit ⊕ Int)}
def Am9(l:List α)(D:∀j a,l[j]?=some a->As (b j a ()) (Sm T1 λi=>i=(j:Int))):
  As ((each b 0 l ()).bind (alt (λ_=>.ok (-1)) (λr=>.ok r))) λi=>i= -1\/(0<=i/\i<(l.length:Int)):=by
 refine As.alt (I:=T1) (J:=λi=>0<=i/\i<(l.length:Int)) ((Lu (λ_ _=>True) (λi=>0<=i/\i<(l.length:Int)) l 0 () (λj a s z _=>?_) trivial).mono λr hr=>by
  cases r with
  |inl u=>trivial
  |inr i=>exact hr) (λ_ _=>.ok (.inl rfl)) λi hi=>.ok (.inr hi)
 rw[AE]
 have G:j<l.length:=(BZ.1 z).1
 refine(D j a z).mono λr hr=>?_
 cases r with
 |inl u=>trivial
 |inr i=>exact⟨by have:i=(j:Int):=hr;omega,by have:i=(j:Int):=hr;omega⟩
def Aoa (l:List Span):As (T4 l) T1:=by unfold T4 Jl L9;refine As.bind (p:=T1) (As.bind (Am9 l λj a _=>?_) λi _=>.ok trivial) λb _=>As.ite (λ_=>.ok trivial) λ_=>.ok trivial;unfold Oh Y5;simp only[R.ok_bind];exact As.ite (λ_=>.ok rfl) λ_=>.ok trivial
variable{n:Nat}
def Zl{c:Nat}(h:n*c<=140737488355328):n*c<=Bj:=h
def opn (s:Segment):List Span:=if s.Open.length=0 then[{From:=0,To:=1440}]else s.Open
def Aat (a:Airspace)(n:Int):Option (Segment×Volume):=
 if 0<=n then(match a.Segments[n.toNat]? with
  |none=>none
  |some s=>if 0<=s.Volume then(match a.Volumes[s.Volume.toNat]? with|none=>none|some v=>some (s,v))else none)else none
def A01 (p:Segment×Volume):List Span:=Zr (opn p.1) p.2.Closed
def Aid (a:Airspace)(n:Int):Option Leg:=(Aat a n).map λp=>{Segment:=n,Volume:=p.1.Volume,Length:=p.1.Length,Minutes:=A01 p}
def Alw(f:α->Option β):List α->Option (List β)
 |[]=>some []
 |x::l=>match f x,Alw f l with
  |some y,some r=>some (y::r)
  |_,_=>none
def Wj (a:Airspace)(r:Int):Option (List Leg):=if 0<=r then(match a.Routes[r.toNat]? with|none=>none|some rt=>Alw (Aid a) rt.Segments)else none
structure OpSmall (a:Airspace):Prop where
 seg:a.Segments.length<=1048576
 vol:a.Volumes.length<=1048576
 rt:a.Routes.length<=1048576
 rs:∀r∈a.Routes,r.Segments.length<=1048576
def Abz (z:List Leg):Bool:=z.any λg=>(g.Minutes.length:Int)==0
def Ayr (a:Airspace):List Route->Nat->List Int->Option (List Int)
 |[],_,x=>some x
 |_::rs,k,x=>match Wj a (k:Int)with
  |none=>none
  |some z=>Ayr a rs (k+1) (if Abz z then x++[(k:Int)]else x)
def blk (a:Airspace):Option (List Int):=Ayr a a.Routes 0 []
def min2:Zr [{From:=0,To:=1440}] [{From:=0,To:=1440}]=[]:=by decide+kernel
@[irreducible] def NN:Nat:=1048576
def Atw{c:Nat}(h:n*c<=140737488355328):n*c<=Bj:=h
def Bcq (a:Airspace)(h:a.Sectors.length<=1048576):As (Yv a) T1:=by
 unfold Yv;refine As.alt (I:=T1) (J:=T1) ((Lu (λk (l:List Int)=>l.length<=k) T1 a.Sectors 0 [] (λj x s D O=>?_) (AF _)).mono λr hr=>by cases r<;>trivial) (λs _=>.ok trivial) (λe _=>.ok trivial);unfold Sw;have S:j<a.Sectors.length:=(BZ.1 D).1;refine As.alt (I:=T1) (J:=T1) ((Lu (λ_ _=>True) T1 x.Volumes 0 0 (λU z s2 _ _=>?_) trivial).mono λr hr=>by cases r<;>trivial) (λG _=>?_) (λe _=>.ok trivial)
 .unfold Acy;by_cases h0:0<=z
  .by_cases h1:z>=(a.Volumes.length:Int)
   .simp only[DW h1,Bool.or_true,if_true,R.ok_bind];exact .ok trivial
   .simp only[DZ h1,DZ (show ¬z<0 by omega),Bool.or_false,BD,if_false,if_pos h0,R.ok_bind];exact As.ite (λ_=>.ok trivial) λ_=>.ok trivial
  .simp only[DW (show z<0 by omega),Bool.true_or,if_true,R.ok_bind];exact .ok trivial
 .refine As.ite (λ_=>.ok trivial) λ_=>As.need (Atw ?_) (.ok ?_)
  .simp only[AC];omega
  .show(s++[G]).length<=_;rw[AG,AC];omega
def Ao6 (a:Airspace):As (Mq a) λr=>r.2=true->1<=r.1.length/\r.1.length<=32/\r.1.length=a.Configs.length:=by
 unfold Mq;refine As.ite (λ_=>.ok λh=>by cases h) λU=>?_;simp only[BU,BB,not_or]at U;obtain⟨⟨⟨⟨h1,h2⟩,X⟩,Y⟩,h5⟩:=U;refine(Bcq a (by omega)).bind λr _=>As.ite (λ_=>?_) λ_=>.ok λh=>by cases h
 have hw:IntKind.wrap .i64 (64-(a.Volumes.length:Int))=64-(a.Volumes.length:Int):=Ok (by omega) (by omega);refine As.need (by rw[hw];omega) ?_;refine As.alt (I:=λ(l:List (List (Int×Bool)))=>l.length=a.Configs.length) (J:=λ(e:List (List (Int×Bool))×Bool)=>e.2=false) ((Lu (λk (l:List (List (Int×Bool)))=>l.length=k) (λ(e:List (List (Int×Bool))×Bool)=>e.2=false) a.Configs 0 [] (λj x s V hs=>?_) rfl).mono λq G=>by
   cases q with
   |inl l=>exact G.trans (AE _)
   |inr e=>exact G) (λl hl=>.ok λ_=>by simp only;omega) (λe O=>.ok λh=>by rw[O]at h;cases h)
 unfold L8;have hj:j<a.Configs.length:=(BZ.1 V).1;refine As.alt (I:=T1) (J:=λ(e:List (List (Int×Bool))×Bool)=>e.2=false) ((Lu (λ_ _=>True) (λ(e:List (List (Int×Bool))×Bool)=>e.2=false) x.Sectors 0 (0,[]) (λj2 D s2 _ _=>?_) trivial).mono λq G=>by
   cases q with
   |inl l=>trivial
   |inr e=>exact G) (λy _=>?_) (λe O=>.ok O)
 .obtain⟨S,m⟩:=s2;simp only[Ct];unfold V4;by_cases h0:0<=D/\D<(r.1.length:Int)
  .simp only[DZ (show ¬D<0 by omega),DZ (show ¬D>=(r.1.length:Int)by omega),Bool.or_false,BD,if_false,R.bind_assoc,R.ok_bind];refine As.idx h0.1 h0.2 λz hz=>?_;refine As.ite (λ_=>.ok rfl) λ_=>As.idx h0.1 h0.2 λz2 W=>.ok trivial
  .have:(decide (D<0)||decide (D>=(r.1.length:Int)))=true:=by
    rw[BU,BB,BB];omega
   simp only[this,if_true,R.ok_bind]
   exact .ok rfl
 .obtain⟨S,m⟩:=y;simp only[Ct];refine As.ite (λ_=>.ok rfl) λ_=>As.need (Atw ?_) (.ok ?_)
  .simp only[AC];omega
  .show(s++[m]).length=_;rw[AG,AC];omega
def Axf (a:Airspace):As (Sr a) T1:=by unfold Sr;exact(Ao6 a).bind λr _=>As.ite (λ_=>.ok trivial) λ_=>.ok trivial
def Ash (d o:List (Int×Bool)):As (Pl d o) T1:=by unfold Pl;refine(Aue T1 (λx s _=>?_) d 0 trivial).bind λn _=>.ok trivial;unfold Gs;exact As.ite (λ_=>.ok trivial) λ_=>.ok trivial
def Biu:∀n:Fin 33,(match Su (IntKind.wrap .u64 1) (IntKind.wrap .u64 ((n.val:Nat):Int))with|.ok p=>p==(0,((n.val:Nat):Int))|_=>false)=true:=by decide+kernel
def mul_one (n:Nat)(h:n<=32):Su (IntKind.wrap .u64 1) (IntKind.wrap .u64 (n:Int))=.ok (0,(n:Int)):=by
 have:=Biu ⟨n,by omega⟩;revert this;cases Su (IntKind.wrap .u64 1) (IntKind.wrap .u64 ((n:Nat):Int))with
 |ok p=>intro h;simp only[CX]at h;rw[h]
 |bad=>intro h;cases h
 |pan v=>intro h;cases h
def neg (l:List Int):Nat:=l.countP (·<0)
structure Srch (n M:Nat)(s:List Int×List Int):Prop where
 len:s.1.length=n
 val:∀v∈s.1,-1<=v/\v+(neg s.1:Int)<=(n:Int)
 que:∀q∈s.2,0<=q/\q<(n:Int)
 mes:2*neg s.1+s.2.length<=M
structure LowOk (a:Airspace):Prop extends OpSmall a where
 sec:a.Sectors.length<=NN
 secv:∀s∈a.Sectors,s.Volumes.length<=NN
 con:a.Configs.length<=NN
 cons:∀s∈a.Configs,s.Sectors.length<=NN
 air:a.Airports.length<=NN
 mod:∀s∈a.Airports,s.Modes.length<=NN
 cla:a.Classes.length<=NN
structure TabOk (t:Tables):Prop where
 sec:t.Sectors.length<=NN
 secv:∀s∈t.Sectors,s.Volumes.length<=NN
 con:t.Configs.length<=NN
 cons:∀s∈t.Configs,s.Sectors.length<=NN
 way:t.Ways.length<=NN
 legs:∀w∈t.Ways,w.Legs.length<=NN/\∀g∈w.Legs,g.Minutes.length<=NN
 mod:t.Modes.length<=NN
 mods:∀m∈t.Modes,m.length<=NN
 kin:t.Kinds.length<=NN
 cur:∀k∈t.Kinds,k.Curfews.length<=NN/\∀c∈k.Curfews,c.length<=NN
def Afa (n a b:Int):Hj n a b=.ok ((decide (n>=a))&&(decide (n<=b))):=rfl
def Aba{F:α->R Bool}(z:∀j a,b j a ()=(F a).bind λr=>if r then .ok (.inr ((j:Int)))else .ok (.inl ()))(l:List α)(D:∀a∈l,As (F a) T1): As ((each b 0 l ()).bind (alt (λ_=>.ok (-1)) (λr=>.ok r))) T1:=(Am9 l λj a G=>by rw[z];exact(D a (AH G)).bind λr _=>As.ite (λ_=>.ok rfl) λ_=>.ok trivial).mono λ_ _=>trivial
def Y7 {c:Bool}{m:R Bool}(h:As m T1):As (if c=true then m else R.ok false) T1:=As.ite (λ_=>h) λ_=>.ok trivial
def Hp {m:R Bool}(h:As m T1):As (m.bind λr=>.ok (!r)) T1:=h.bind λ_ _=>.ok trivial
def Pu {m:R Bool}(h:As m T1):As (m.bind λr=>.ok r) T1:=h.bind λ_ _=>.ok trivial
def Bjd (l:List Sector):As (J2 l) T1:=by unfold J2 Ia Kk;refine Hp (As.bind (Aba (F:=Il) (λ_ _=>rfl) l λs _=>?_) λ_ _=>.ok trivial);unfold Il Uw;refine Hp ?_;rw[Afa];exact Pu (Y7 (by rw[Afa];exact .ok trivial))
def Bix (l:List (List Int)):As (Jj l) T1:=by unfold Jj Ga Ju;refine Hp (As.bind (Aba (F:=Gl) (λ_ _=>rfl) l λs _=>?_) λ_ _=>.ok trivial);unfold Gl Uv;refine Hp ?_;rw[Afa];refine Pu (Y7 (Pu ?_));unfold Sa Kg Nd;refine Hp (As.bind (Aba (F:=La) (λ_ _=>rfl) s λs _=>?_) λ_ _=>.ok trivial);unfold La Qr;rw[Afa];exact .ok trivial
def Bk4 (g:Leg)(t:Tables):As (P1 g t) T1:=by unfold P1;rw[Afa,R.ok_bind];refine As.bind (p:=T1) (Y7 (Pu (by rw[Afa];exact .ok trivial))) λb _=>As.bind (p:=T1) (Y7 (Pu (by rw[Afa];exact .ok trivial))) λb1 _=>Pu (Y7 ((Aoa _).bind λ_ _=>.ok trivial))
def Bj0 (l:List Way)(t:Tables):As (Nr l t) T1:=by
 unfold Nr Ki Ni;refine Hp (As.bind (Aba (F:=λw=>Ny w t) (λ_ _=>rfl) l λw _=>?_) λ_ _=>.ok trivial);unfold Ny Uu;have z:∀n,As (Mr n t) T1:=λn=>by unfold Mr;rw[Afa];exact .ok trivial
 refine Hp ((z _).bind λr _=>As.bind (p:=T1) (Y7 (Pu (z _))) λb _=>As.bind (p:=T1) (Y7 (Pu (by rw[Afa];exact .ok trivial))) λb1 _=>Pu (Y7 (Pu ?_)));unfold R8 Kd Na;refine Hp (As.bind (Aba (F:=λg=>Ns g t) (λ_ _=>rfl) w.Legs λg _=>?_) λ_ _=>.ok trivial);unfold Ns;exact Hp (Bk4 g t)
def A7t (l:List Int)(h:l.length<=1000):As (Yw l) T1:=by
 unfold Yw;refine As.alt (I:=T1) (J:=T1) ((Aa1 (λi=>2000-i.toNat) (λi=>0<=i/\i<=1010) T1 (λi hi=>?_) 2000 0 (Nat.sub_le _ _) ⟨EO _,by omega⟩).mono λr _=>by cases r<;>trivial) (λ_ _=>.ok trivial) λ_ _=>.ok trivial;unfold Acx;have h1:IntKind.wrap .i64 (i+1)=i+1:=Ok (by omega) (by omega);have h2:IntKind.wrap .i64 (i+2)=i+2:=Ok (by omega) (by omega);have D:IntKind.wrap .i64 (i+3)=i+3:=Ok (by omega) (by omega);rw[h1,h2];refine As.ite (λG=>?_) λ_=>.ok trivial;have z:∀b,As (Pe i b) (Sm (λs'=>(0<=s'/\s'<=1010)/\2000-s'.toNat<2000-i.toNat) T1):=λb=>by unfold Pe;refine As.ite (λ_=>.ok trivial) λ_=>.ok ?_;rw[D];exact⟨⟨by omega,by omega⟩,by omega⟩
 refine As.idx (by omega) (by omega) λa _=>As.idx (by omega) (by omega) λa1 _=>As.ite (λ_=>z _) λ_=>As.idx (by omega) (by omega) λO _=>z _
def Bhi (l:List Kind)(t:Tables):As (L3 l t) T1:=by unfold L3 Ji Ml;refine Hp (As.bind (Aba (F:=λw=>Lv w t) (λ_ _=>rfl) l λk _=>?_) λ_ _=>.ok trivial);unfold Lv Ul Ae1;refine Hp (As.bind (p:=T1) (As.bind (p:=T1) ?_ λb _=>As.ite (λ_=>.ok trivial) λ_=>.ok trivial) λ_ _=>.ok trivial);unfold V2;refine(A7t _ (by simp)).bind λr _=>As.ite (λ_=>.ok trivial) λ_=>Hp ?_;unfold Er E6;refine As.bind (Aba (F:=Nt) (λ_ _=>rfl) _ λs _=>?_) λ_ _=>.ok trivial;unfold Nt;exact(Aoa _).bind λ_ _=>.ok trivial
def Aiq {c:Bool}{m:R Bool}(h:c=false->As m T1):As (if c=true then R.ok true else m) T1:=As.ite (λ_=>.ok trivial) λz=>h (by simpa using z)
def A7g (t:Tables):As (Ky t) T1:=by unfold Ky;rw[Afa];simp only[R.ok_bind];refine As.bind (p:=T1) (Aiq λhr=>?_) λb _=>As.bind (p:=T1) (Aiq λ_=>Hp (Bjd _)) λb1 _=>As.ite (λ_=>.ok trivial) λ_=>As.bind (p:=T1) (Aiq λ_=>Hp (Bix _)) λz _=>As.bind (p:=T1) (Aiq λ_=>Hp (Bj0 _ _)) λD _=>As.bind (p:=T1) (Aiq λ_=>Hp (Bhi _ _)) λG _=>As.ite (λ_=>.ok trivial) λ_=>.ok trivial;simp only[Bool.not_eq_false',AK,BB]at hr;unfold Vw;rw[if_pos (⟨by omega,EO _,Zl (by omega)⟩:(0:Int)<=t.Volumes/\(t.Volumes:Int)<=t.Volumes/\(Int.toNat t.Volumes)*40<=Bj)];simp only[R.ok_bind];exact(Axf _).bind λ_ _=>.ok trivial
def EB:Nat->Nat->Value->Prop
 |0,n,v=>v.Kind=1/\v.S=[]/\v.L=[]/\12<=n
 |d+1,n,v=>(v.Kind=1/\v.S=[]/\v.L=[]/\12<=n)\/(v.Kind=3/\v.N=0/\v.S=[]/\∃m,(∀x∈v.L,EB d m x)/\12+v.L.length*m<=n)
variable{d:Nat}{v:Value}
def EB.up:EB d n v->EB (d+1) n v:=by
 induction d generalizing n v with
 |zero=>exact λh=>.inl h
 |succ d z=>
  rintro(h|⟨h1,h2,D,m,G,O⟩)
  .exact .inl h
  .exact .inr ⟨h1,h2,D,m,λx R=>z (G x R),O⟩
def EB.le{m:Nat}(h:EB d n v)(z:n<=m):EB d m v:=by
 cases d with
 |zero=>exact⟨h.1,h.2.1,h.2.2.1,CR h.2.2.2 z⟩
 |succ d=>
  rcases h with h|⟨h1,h2,D,k,G,O⟩
  .exact .inl ⟨h.1,h.2.1,h.2.2.1,CR h.2.2.2 z⟩
  .exact .inr ⟨h1,h2,D,k,G,CR O z⟩
def EB.ups{e:Nat}(h:EB d n v)(z:d<=e):EB e n v:=by
 induction z with
 |refl=>exact h
 |step _ D=>exact D.up
def EB.len(h:EB d n v):12<=n:=by
 cases d with
 |zero=>exact h.2.2.2
 |succ d=>
  rcases h with h|⟨_,_,_,m,_,z⟩
  .exact h.2.2.2
  .omega
def B1v (d:Nat)(n:Int):EB d 12 ({Kind:=1,N:=n,S:=[],L:=[]}:Value):=by
 cases d with
 |zero=>exact⟨rfl,rfl,rfl,AF _⟩
 |succ d=>exact .inl ⟨rfl,rfl,rfl,AF _⟩
variable{k:Nat}
def B4g{m:Nat}{l:List Value}(h:∀x∈l,EB d m x)(hk:l.length<=k):EB (d+1) (12+k*m) ({Kind:=3,N:=0,S:=[],L:=l}:Value):=.inr ⟨rfl,rfl,rfl,m,h,Nat.add_le_add_left (AZ _ hk) _⟩
def B10:∀(n d k:Nat) (v:Value),d<n->d<=100->EB d k v->As (Y4 n v) λr=>r.2=true/\0<=r.1/\r.1<=(d:Int)
 |0,d,k,v,G,_,_=>absurd G (DN _)
 |n+1,d,k,v,G,O,z=>by
  show As (Aev (Y4 n) v) _;unfold Aev;have leaf:(v.Kind=1/\v.S=[]/\v.L=[])->As (Aev (Y4 n) v) λr=>r.2=true/\0<=r.1/\r.1<=(d:Int):=by rintro⟨h1,h2,D⟩;unfold Aev;simp only[h1,h2,D];exact .ok ⟨rfl,EO _,by show(0:Int)<=d;omega⟩
  cases d with
  |zero=>exact leaf ⟨z.1,z.2.1,z.2.2.1⟩
  |succ d=>
   rcases z with h|⟨h1,h2,D,m,R,W⟩
   .exact leaf ⟨h.1,h.2.1,h.2.2.1⟩
   .simp only[h1,h2,D];refine As.bind (p:=λb:Bool=>b=false) (.ok rfl) λb S=>?_;subst S;rw[if_neg (by decide),if_neg (by decide)];refine As.alt (Lu (λ_ (x:Int)=>0<=x/\x<=(d:Int)) (λ_=>False) v.L 0 0 (λj a s U V=>?_) ⟨EO _,by omega⟩) (λx X=>?_) λ_ h=>h.elim
    .unfold Ak6;refine(B10 n d m a (by omega) (by omega) (R a (AH U))).bind λr hr=>?_;rw[if_pos hr.1];refine .ok ?_;show 0<=(if r.1>s then r.1 else s)/\(if r.1>s then r.1 else s)<=(d:Int);split
     .exact hr.2
     .exact V
    .refine .ok ⟨rfl,?_⟩;rw[Ok (by omega) (by omega)];exact⟨by omega,by omega⟩
def B6a(h:EB 16 k v):Alc v=.ok 0:=by obtain⟨r,h1,h2,z,D⟩:=B10 Aot 16 k v (by unfold Aot;decide) (by decide) h;unfold Alc Aqp;rw[h1,R.ok_bind,if_pos h2,if_neg (by omega)]
variable{l:List Int}
def Brw{u:Int}(h0:0<=u)(h1:u<18446744073709551616)(R:l.length<=10000000):As (Lp u l) λr=>r.length<=l.length+11:=by
 unfold Lp;refine(Aa1 (λs:Int×List Int=>s.1.toNat) (λs=>0<=s.1/\∃k,s.1<128^k/\s.2.length+k<=l.length+10) (λs=>s.2.length<=l.length+10) ?_ _ (u,l) (AF _) ⟨h0,10,by show u<_;omega,AF _⟩).bind ?_
 .rintro⟨D,b⟩ ⟨h2,k,z,G⟩;show As (S2 D b) _;simp only at h2 z G;have hf:Int.fdiv D 128=D/128:=BN _ (by decide);unfold S2;refine As.ite (λh=>?_) λh=>.ok (by show b.length<=_;omega);refine As.need (by simp only[AC];unfold Bj;omega) (.ok ⟨⟨?_,?_⟩,?_⟩)
  .show 0<=Int.fdiv D 128;omega
  .match k,z,G with
   |0,z,_=>simp at z;omega
   |1,z,_=>simp at z;omega
   |k+1+1,z,G=>refine⟨k+1,?_,by simp only[AG,AC];omega⟩;show Int.fdiv D 128<128^(k+1);rw[Int.pow_succ]at z;omega
  .show(Int.fdiv D 128).toNat<D.toNat;omega
 .rintro⟨O,b1⟩ h;show As (Tl O b1) _;simp only at h;unfold Tl;exact As.need (by simp only[AC];unfold Bj;omega) (.ok (by simp only[AG,AC];omega))
def Bmv (n:Int):0<=IntKind.wrap .u64 n/\IntKind.wrap .u64 n<18446744073709551616:=by simp[IntKind.wrap,IntKind.bits,IntKind.signed];omega
def B9b(v:Value)(z:l.length<=9000000):As (It v l) λr=>r.length<=l.length+12:=by unfold It;refine As.need (by simp only[AC];unfold Bj;omega) ?_;unfold Aeb;rw[R.ok_bind];refine(Brw (Bmv _).1 (Bmv _).2 (by simp only[AG,AC];omega)).bind λr hr=>.ok ?_;simp only[AG,AC]at hr;omega
def B5y{g:Value->List Int->R (List Int)}{W_:Value->List Int->R (List Int)}{m:Nat}{a:Value}{b:List Int}(O:g a b=if a.Kind=0 then .bad else if a.Kind=1 then(It a b).bind λz=>.ok z else if a.Kind=2 then(Iu a b).bind λD=>.ok D else if a.Kind=3 then(W_ a b).bind λG=>.ok G else .bad)(h:EB d m a)(S:b.length<=9000000)(U:a.Kind=3->As (W_ a b) λr=>r.length<=b.length+m):As (g a b) λr=>r.length<=b.length+m:=by
 rw[O];have leaf:a.Kind=1->As (if a.Kind=0 then .bad else if a.Kind=1 then(It a b).bind λz=>.ok z else if a.Kind=2 then(Iu a b).bind λD=>.ok D else if a.Kind=3 then(W_ a b).bind λG=>.ok G else .bad) λr=>r.length<=b.length+m:=by intro h1;rw[h1,if_neg (by decide),if_pos rfl];have:=h.len;exact(B9b a S).bind λr hr=>.ok (by omega)
 cases d with
 |zero=>exact leaf h.1
 |succ d=>
  rcases h with h'|⟨h1,_⟩
  .exact leaf h'.1
  .rw[h1,if_neg (by decide),if_neg (by decide),if_neg (by decide),if_pos rfl];exact(U h1).bind λr hr=>.ok hr
def B1t:∀(n d k:Nat) (v:Value) (l:List Int),d<n->EB (d+1) k v->v.Kind=3->l.length+k<=9000000->As (J5 n v l) λr=>r.length<=l.length+k
 |0,d,k,v,l,O,_,_,_=>absurd O (DN _)
 |n+1,d,k,v,l,O,R,S,Y=>by
  show As (Ob (J5 n) v l) _;unfold Ob;have hk:=R.len;rcases R with h|⟨h1,h2,h3,m,G,h5⟩
  .exact absurd (h.1.symm.trans S) (by decide)
  refine As.need (by simp only[AC];unfold Bj;omega) ?_;refine(Brw (Bmv _).1 (Bmv _).2 (by simp only[AG,AC];omega)).bind λb U=>?_;simp only[AG,AC]at U;refine As.bind (p:=λr:List Int=>r.length<=l.length+k) ((My (λj (s:List Int)=>s.length<=b.length+j*m) v.L 0 b (λj a s D V=>?_) (by simp)).mono λr hr=>?_) λr hr=>.ok hr
  .have W:=A6 D;have X:(j+1)*m<=v.L.length*m:=AZ _ W;rw[AI,EP]at X;simp only[AE]at V ⊢;refine(B5y (W_:=J5 n) (g:=Zt (J5 n)) rfl (G a (AH D)) (by omega) λz=>?_).mono λr hr=>?_
   .cases d with
    |zero=>exact absurd ((G a (AH D)).1.symm.trans z) (by decide)
    |succ d=>exact B1t n d m a s (by omega) (G a (AH D)) z (by omega)
   .rw[AI,EP];omega
  .rw[AE]at hr;omega
def B5l(h:EB 16 k v)(G:v.Kind=3)(hk:k<=8000000):As (Aj2 v) λr=>r.2=0/\r.1.length<=k:=by
 unfold Aj2;rw[B6a h,R.ok_bind,if_neg (by decide)];unfold Uq;rw[R.ok_bind,G,if_neg (by decide),if_neg (by decide),if_neg (by decide),if_pos rfl];have S:=h.len;unfold Yk;rcases h with h|⟨h1,h2,Y,m,O,h5⟩
 .exact absurd (h.1.symm.trans G) (by decide)
 refine As.bind (p:=λr:List Int=>r.length<=k) ?_ λr hr=>.ok ⟨rfl,hr⟩;refine As.need (by simp only[AC];unfold Bj;omega) ?_;refine(Brw (Bmv _).1 (Bmv _).2 (by simp only[AC];omega)).bind λb U=>?_;simp only[AC]at U;refine As.bind (p:=λr:List Int=>r.length<=k) ((My (λj (s:List Int)=>s.length<=b.length+j*m) v.L 0 b (λj a s z V=>?_) (by simp)).mono λr hr=>?_) λr hr=>.ok hr
 .have W:=A6 z;have X:(j+1)*m<=v.L.length*m:=AZ _ W;rw[AI,EP]at X;simp only[AE]at V ⊢;refine(B5y (W_:=V6) (g:=Abm) rfl (O a (AH z)) (by omega) λD=>?_).mono λr hr=>?_
  .exact B1t Aot 14 m a s (by unfold Aot;decide) (O a (AH z)) D (by omega)
  .rw[AI,EP];omega
 .rw[AE]at hr;omega
abbrev Ud(m:R α)(P:α->Prop):Prop:=As m P
variable{P:α→Prop}
def Ud.ok{a:α}(h:P a):Ud (.ok a) P:=As.ok h
variable{Q:β→Prop}
def Ud.bind(h:Ud m P)(k:∀a,P a->Ud (f a) Q):Ud (m.bind f) Q:=As.bind h k
def Ud.mono{q:α->Prop}(h:Ud m p)(z:∀a,p a->q a):Ud m q:=As.mono h z
def Ud.ite[Decidable c]{b:R α}(h1:c->Ud a p)(h2:¬c->Ud b p):Ud (if c then a else b) p:=As.ite h1 h2
def Ud.eachS{b:Nat->α->σ->R σ}{I:Nat->σ->Prop}(l:List α)(k:Nat)(s:σ)(h:I k s)(z:∀(j:Nat) a s,l[j]?=some a->I (k+j) s->Ud (b (k+j) a s) (I (k+j+1))):Ud (eachS b k l s) (I (k+l.length)):=My I l k s z h
def Ud.loop{b:σ->R (σ ⊕ ε)}{I:σ->Prop}{E:ε->Prop}(μ:σ->Nat)(D:∀s,I s->Ud (b s) λx=>match x with|.inl s'=>I s'/\μ s'<μ s|.inr e=>E e)(n:Nat)(s:σ)(G:μ s<=n)(z:I s):Ud (loop b s) E:=
 Aa1 μ I E (λs z=>(D s z).mono λx O=>by cases x<;>exact O) n s G z
abbrev Pq(m:R α):Prop:=Ud m λ_=>True
def Pq.ok(a:α):Pq (.ok a):=⟨a,rfl,trivial⟩
def Pq.bind(h:Pq m)(k:∀a,Ud (f a) Q):Ud (m.bind f) Q:=Ud.bind h λa _=>k a
def Ud.tot(h:Ud m P):Pq m:=h.mono λ_ _=>trivial
def Pq.eachS{b:Nat->α->σ->R σ}(l:List α)(k:Nat)(s:σ)(z:∀(j:Nat) a s,l[j]?=some a->Pq (b (k+j) a s)):Pq (eachS b k l s):=Ud.eachS (I:=λ_ _=>True) l k s trivial λj a s D _=>z j a s D
def B4i (n:Int):0<=IntKind.wrap .u64 n:=by simp[IntKind.wrap,IntKind.bits,IntKind.signed];omega
def B4a (a b:Int):0<=Dk .u64 a b:=B4i _
def Bj4 (a k:Int):Pq (Ei a k):=by unfold Ei;rw[if_pos (B4a _ _),if_pos (B4i _)];exact Pq.ok _
def B08 (v a b c:Int):Pq (Y2 v a b c):=by unfold Y2;exact(Bj4 _ _).bind λ_=>(Bj4 _ _).bind λ_=>(Bj4 _ _).bind λ_=>Pq.ok _
def B6u (b:List Int)(h:4<=b.length):Pq (Ala b):=by unfold Ala;rw[if_pos ⟨by decide,by omega⟩];exact(Pq.eachS _ _ _ λj a s _=>Pq.ok _).bind λ_=>Pq.ok _
def B1m (b:List Int)(s:Vector Int 8)(h:b.length=64):Pq (Nw b s):=by
 unfold Nw;refine Pq.bind (Pq.eachS _ _ _ λj a o D=>?_) λo=>?_
 .have G:j<16:=by have:=A6 D;simpa using this
  unfold Aah
  simp only[AE]
  rw[Ok (by omega) (by omega),if_pos ⟨by omega,by omega⟩]
  refine Pq.bind (B6u _ (by rw[BF];omega)) λ_=>Pq.ok _
 .refine Pq.bind (Ud.loop (I:=λs:Int×Vector Int 64=>16<=s.1/\s.1<=64) (E:=λ_=>True) (λs=>(64-s.1).toNat) ?_ 64 (16,o) (by simp) ⟨EO _,by show(16:Int)<=64;decide⟩) λR=>?_
  .rintro⟨x,O⟩ ⟨h1,h2⟩;show Ud (Aar x O) _;simp only at h1 h2;unfold Aar;by_cases z:x<64
   .rw[if_pos z,Ok (n:=x-15) (by omega) (by omega),Ok (n:=x-2) (by omega) (by omega),Ok (n:=x-16) (by omega) (by omega),Ok (n:=x-7) (by omega) (by omega),
     if_pos ⟨by omega,by omega⟩,if_pos ⟨by omega,by omega⟩,if_pos ⟨by omega,by omega⟩,if_pos ⟨by omega,by omega⟩]
    refine(Bj4 _ _).bind λ_=>(Bj4 _ _).bind λ_=>(Bj4 _ _).bind λ_=>(Bj4 _ _).bind λ_=>?_
    rw[if_pos ⟨by omega,z⟩,Ok (n:=x+1) (by omega) (by omega)]
    exact Ud.ok ⟨⟨by simp only;omega,by simp only;omega⟩,by simp only;omega⟩
   .rw[if_neg z];exact Ud.ok trivial
  .unfold Tr;refine Pq.bind (Pq.eachS _ _ _ λj a o _=>?_) λS=>Pq.bind (Pq.eachS _ _ _ λj a o _=>Pq.ok _) λ_=>Pq.ok _;unfold Aak;refine(B08 _ _ _ _).bind λ_=>(B08 _ _ _ _).bind λ_=>?_;rw[if_pos (List.length_take_le _ _)];exact Pq.ok _
def B4l (c cp:Nat)(n:Int)(s:Vector Int 128):Pq (Ah9 c cp n s):=by
 unfold Ah9;refine Pq.bind (Pq.eachS _ _ _ λj a o z=>?_) λ_=>Pq.ok _;have D:j<8:=by have:=A6 z;simpa using this
 unfold Aoy;simp only[AE];rw[Ok (n:=8*(j:Int)) (by omega) (by omega),Ok (n:=7-(j:Int)) (by omega) (by omega),if_pos (by omega),if_pos ⟨by omega,by omega⟩];exact Pq.ok _
def B6s (c cp:Nat)(n:Int)(s:Vector Int 32):Pq (Ac6 c cp n s):=by
 unfold Ac6;refine Pq.bind (Pq.eachS _ _ _ λj a o z=>?_) λ_=>Pq.ok _;have D:j<4:=by have:=A6 z;simpa using this
 unfold Ak9;simp only[AE];rw[Ok (n:=8*(j:Int)) (by omega) (by omega),Ok (n:=3-(j:Int)) (by omega) (by omega),if_pos (by omega),if_pos ⟨by omega,by omega⟩];exact Pq.ok _
def B1p (r:List Int)(o:Vector Int 8)(k:Nat)(h:r.length=64*k):Pq (loop (Ct λz G=>Aov z G) (r,o)):=by
 refine Ud.loop (I:=λs:List Int×Vector Int 8=>∃k,s.1.length=64*k) (E:=λ_=>True) (λs=>s.1.length) ?_ r.length (r,o) (AF _) ⟨k,h⟩;rintro⟨v,o⟩ ⟨k,hk⟩;show Ud (Aov v o) _;simp only at hk;unfold Aov;by_cases D:(v.length:Int)>0
 .rw[if_pos D,if_pos ⟨by decide,by omega⟩];refine Pq.bind (B1m _ _ (by rw[BS,show Int.toNat 64=64 from rfl];omega)) λ_=>?_;rw[if_pos ⟨by decide,by omega⟩];refine Ud.ok ⟨⟨k-1,?_⟩,?_⟩
  .simp only[BF,show Int.toNat 64=64 from rfl];omega
  .simp only[BF,show Int.toNat 64=64 from rfl];omega
 .rw[if_neg D];exact Ud.ok trivial
def B6g:Aox=Aov:=rfl
def B16 (o:Vector Int 8):Pq (Agp o):=by
 unfold Agp;refine Pq.bind (Pq.eachS _ _ _ λj a G z=>?_) λ_=>Pq.ok _;have D:j<8:=by have:=A6 z;simpa using this
 unfold Ao2;simp only[AE];rw[Ok (n:=4*(j:Int)) (by omega) (by omega),Ok (n:=4*(j:Int)+4) (by omega) (by omega),if_pos ⟨rfl,by omega,by omega⟩];exact(B6s _ _ _ _).bind λ_=>Pq.ok _
def B5r:Agn=Agp:=rfl
def B4r (b:List Int):Pq (Ah3 b):=by
 unfold Ah3;refine Ud.bind (P:=λs:List Int×Vector Int 8=>s.1.length<64) (Ud.loop (I:=λs:List Int×Vector Int 8=>True) (λs=>s.1.length) ?_ b.length (b,Alb) (AF _) trivial) ?_
 .rintro⟨r,o⟩ _;show Ud (Ao3 r o) _;unfold Ao3;by_cases hr:(r.length:Int)>=64
  .rw[if_pos hr,if_pos ⟨by decide,by omega⟩];refine Pq.bind (B1m _ _ (by rw[BS,show Int.toNat 64=64 from rfl];omega)) λ_=>?_;rw[if_pos ⟨by decide,by omega⟩];refine Ud.ok ⟨trivial,?_⟩;simp only[BF,show Int.toNat 64=64 from rfl];omega
  .rw[if_neg hr];exact Ud.ok (by simp only;omega)
 .rintro⟨r,o⟩ hr;show Ud (Aha b r o) _;simp only at hr;unfold Aha;rw[if_pos (by omega),if_pos ⟨by omega,by omega⟩];refine Ud.ite (λh=>?_) (λh=>?_)
  .exact(B4l _ _ _ _).bind λr1=>(B1p _ _ 2 (by simp)).bind λ_=>B16 _
  .rw[B6g,B5r];exact(B4l _ _ _ _).bind λr1=>(B1p _ _ 1 (by simp)).bind λ_=>B16 _
def B36 (a b:List Int)(h:a.length+b.length<=1000000000):Tk [a,b]=.ok (a++b):=by
 unfold Tk;have z:eachS (λ_ a=>λsize=>Abr a size) 0 [a,b] 0=.ok ((a.length:Int)+(b.length:Int)):=by simp only[Ic,Anw,Abr];rw[Ok (n:=0+(a.length:Int)) (by omega) (by omega),if_neg (by omega)];simp only[R.bind];rw[Ok (by omega) (by omega),if_neg (by omega)];simp
 rw[z];simp only[R.bind];have D:Tq ((a.length:Int)+(b.length:Int))=.ok []:=by
  unfold Tq;rw[if_neg (by omega),Ok (by omega) (by omega)];by_cases h0:(a.length:Int)+(b.length:Int)-0>0
  .rw[if_pos h0,if_pos ⟨by omega,by unfold Bj;omega⟩,if_pos ⟨by decide,by omega⟩];rfl
  .rw[if_neg h0]
 rw[D];simp only[R.bind,Ic,Anw,O8];rw[if_pos (by simp only[CW,Bj];omega)];simp only[R.bind,CM];rw[if_pos (by unfold Bj;omega)]
def B5a (z:Al)(b:List Int)(ht:z.length<=16)(D:b.length<=100000000):Pq (Ahc z b):=by unfold Ahc;rw[if_pos (by unfold Bj;omega)];refine(B4r _).bind λr=>?_;rw[B36 _ _ (by rw[Vector.length_toList];omega)];exact(B4r _).bind λ_=>Pq.ok _
def As7{b:Nat->α->List Value->R (List Value)}{F:Nat->α->R Value}{m:Nat}(O:∀j a y,b j a y=(F j a).bind λr=>if(y.length+[r].length)*56<=Bj then .ok (y++[r])else .bad)(l:List α)(U:l.length<=1000)(S:∀j,∀a∈l,As (F j a) (EB d m)):As ((eachS b 0 l []).bind λy=>.ok y) λy=>y.length=l.length/\∀x∈y,EB d m x:=by
 refine As.bind (p:=λy:List Value=>y.length=l.length/\∀x∈y,EB d m x) ((My (λj (y:List Value)=>y.length=j/\∀x∈y,EB d m x) l 0 [] (λj a y G z=>?_) ⟨rfl,λx D=>absurd D BW⟩).mono λy z=>by rwa[AE]at z) λy z=>.ok z;have V:=A6 G;rw[O];simp only[AE]at z ⊢;refine(S _ a (AH G)).bind λr hr=>?_;refine As.need (by simp only[AC,z.1];unfold Bj;omega) (.ok ⟨by simp[z.1],λx D=>?_⟩);rcases BG.1 D with D|D
 .exact z.2 x D
 .rw[AM.1 D];exact hr
def Ask{m':R (List Value)}{m:Nat}(h:As m' λy=>y.length=n/\∀x∈y,EB d m x)(D:n<=k):As (m'.bind λr=>.ok ({Kind:=3,N:=0,S:=[],L:=r}:Value)) (EB (d+1) (12+k*m)):=h.bind λy z=>.ok (B4g z.2 (by omega))
def B72 (l:List Int)(h:l.length<=20):As (Jq l) (EB 1 252):=Ask (As7 (F:=λj a=>K0 (j:Int) a) (λ_ _ _=>rfl) l (by omega) λj a _=>⟨_,rfl,B1v 0 a⟩) h
def A4p{m:Nat}{f:AnyT->List Value->R (List Value)}(l:List AnyT)(U:l.length<=100)(h:∀a∈l,∀y:List Value,y.length<=100->As (f a y) λr=>∃x,r=y++[x]/\EB d m x):
  As ((eachS (λ_ a=>λl1=>f a l1) 0 l []).bind ((λl1=>.ok ({Kind:=3,N:=0,S:=[],L:=l1}:Value)))) λv=>v.Kind=3/\v.L.length=l.length/\EB (d+1) (12+l.length*m) v/\∀x∈v.L,EB d m x:=by
 refine As.bind (p:=λy:List Value=>y.length=l.length/\∀x∈y,EB d m x) ((My (λj (y:List Value)=>y.length=j/\∀x∈y,EB d m x) l 0 [] (λj a y O D=>?_) ⟨rfl,λx G=>absurd G BW⟩).mono λy D=>by rwa[AE]at D) λy D=>.ok ⟨rfl,D.1,B4g D.2 (GC D.1),D.2⟩
 have V:=A6 O
 simp only[AE]at D ⊢
 refine(h a (AH O) y (by omega)).mono λr hr=>?_
 obtain⟨x,rfl,G⟩:=hr
 refine⟨by simp[D.1],λz hz=>?_⟩
 rcases BG.1 hz with hz|hz
 .exact D.2 z hz
 .rw[AM.1 hz];exact G
variable{y:List Value}
def B2g{m:Nat}{x:Value}(D:y.length<=100)(z:EB d m x):As (if(y.length+[x].length)*56<=Bj then R.ok (y++[x])else .bad) λr=>∃x,r=y++[x]/\EB d m x:=As.need (by simp only[AC];unfold Bj;omega) (.ok ⟨x,rfl,z⟩)
def B76 (s:Span):As (Abd s) (EB 1 36):=by
 unfold Abd Aa8;refine(A4p (d:=0) (m:=12) [(AnyT.a3 s.From),(AnyT.a3 s.To)] (by simp) λa z y D=>?_).bind λv G=>.ok (G.2.2.1.le (by simp));rcases AN.1 z with rfl|z
 .exact B2g D (B1v 0 _)
 .rw[AM.1 z];exact B2g D (B1v 0 _)
def B7f (l:List Span)(h:l.length<=10):As (Lc l) (EB 2 372):=Ask (As7 (F:=λj a=>Kt (j:Int) a) (λ_ _ _=>rfl) l (by omega) λj a _=>(B76 a).bind λr hr=>.ok hr) h
def Ax2{m:Nat}(n:Int)(z:y.length<=100)(D:12<=m):As (Ai6 (.a3 n) y) λr=>∃x,r=y++[x]/\EB d m x:=B2g z ((B1v d n).le D)
def B3h{m:Nat}(l:List Int)(z:y.length<=100)(D:l.length<=20)(G:1<=d)(O:252<=m):As (Ai6 (.a55 l) y) λr=>∃x,r=y++[x]/\EB d m x:=(B72 l D).bind λr hr=>B2g z ((hr.ups G).le O)
def B4o{m:Nat}(l:List Span)(z:y.length<=100)(D:l.length<=10)(G:2<=d)(O:372<=m):As (Ai6 (.a54 l) y) λr=>∃x,r=y++[x]/\EB d m x:=(B7f l D).bind λr hr=>B2g z ((hr.ups G).le O)
def Bys{e m:Nat}(h:EB e k v)(z:y.length<=100)(D:e<=d)(G:k<=m):As (Ai6 (.a73 v) y) λr=>∃x,r=y++[x]/\EB d m x:=B2g z ((h.ups D).le G)
def B7b{m:Nat}(z:v.L.length=1)(h:∀x∈v.L,EB d m x):As (Wd v) (EB d m):=by unfold Wd;exact As.idx (EO _) (by rw[z];decide) λa D=>.ok (h a (AH D))
structure TabF (t:Tables):Prop where
 s:t.Sectors.length<=12
 sv:∀x∈t.Sectors,x.Volumes.length<=10
 c:t.Configs.length<=7
 cs:∀x∈t.Configs,x.Sectors.length<=10
 w:t.Ways.length<=8
 wl:∀x∈t.Ways,x.Legs.length<=10/\∀g∈x.Legs,g.Minutes.length<=10
 m:t.Modes.length<=6
 ml:∀x∈t.Modes,x.length<=20
 k:t.Kinds.length<=6
 kc:∀x∈t.Kinds,x.Curfews.length<=10/\∀c∈x.Curfews,c.length<=10
def Caf (s:Sector)(h:s.Volumes.length<=10):As (Yx s) (EB 2 768):=by
 unfold Yx Io;refine(A4p (d:=1) (m:=252) [(AnyT.a55 s.Volumes),(AnyT.a3 s.Radar),(AnyT.a3 s.Procedural)] (by simp) λa D y z=>?_).bind λv G=>.ok (G.2.2.1.le (by simp));simp only[AN,DL,or_false]at D;rcases D with rfl|rfl|rfl
 .exact B3h _ z (by omega) (AF _) (AF _)
 .exact Ax2 _ z (by decide)
 .exact Ax2 _ z (by decide)
def B2h{m:Nat}(x:AnyT)(h:∀y:List Value,y.length<=100->As (Ai6 x y) λr=>∃x,r=y++[x]/\EB d m x):As ((Io [x]).bind λr=>(Wd r).bind λr1=>.ok r1) (EB d m):=by unfold Io;refine(A4p (d:=d) (m:=m) [x] (by simp) λa D y G=>?_).bind λv z=>(B7b z.2.1 z.2.2.2).bind λr hr=>.ok hr;rw[AM.1 D];exact h y G
def Cau (c:Config)(h:c.Sectors.length<=10):As (Yu c) (EB 1 252):=B2h _ λy z=>B3h _ z (by omega) (AF _) (AF _)
def B9o (l:List Int)(h:l.length<=20):As (Yr l) (EB 1 252):=B2h _ λy z=>B3h _ z (by omega) (AF _) (AF _)
def Cah (l:List Span)(h:l.length<=10):As (Vk l) (EB 2 372):=B2h _ λy z=>B4o _ z (by omega) (AF _) (AF _)
def Cat (g:Leg)(h:g.Minutes.length<=10):As (U1 g) (EB 3 1500):=by
 unfold U1 Io;refine(A4p (d:=2) (m:=372) [(AnyT.a3 g.Segment),(AnyT.a3 g.Volume),(AnyT.a3 g.Length),(AnyT.a54 g.Minutes)] (by simp) λa D y z=>?_).bind λv G=>.ok (G.2.2.1.le (by simp));simp only[AN,DL,or_false]at D;rcases D with rfl|rfl|rfl|rfl
 .exact Ax2 _ z (by decide)
 .exact Ax2 _ z (by decide)
 .exact Ax2 _ z (by decide)
 .exact B4o _ z h (AF _) (AF _)
def B9n (l:List Leg)(h:l.length<=10)(z:∀g∈l,g.Minutes.length<=10):As (T5 l) (EB 4 15012):=Ask (As7 (F:=λj a=>R5 (j:Int) a) (λ_ _ _=>rfl) l (by omega) λj a D=>(Cat a (z a D)).bind λr hr=>.ok hr) h
def Ca6 (w:Way)(h:w.Legs.length<=10)(G:∀g∈w.Legs,g.Minutes.length<=10):As (Yq w) (EB 5 45048):=by
 unfold Yq;refine(B9n _ h G).bind λr hr=>?_;unfold Io;refine(A4p (d:=4) (m:=15012) [(AnyT.a3 w.From),(AnyT.a3 w.To),(AnyT.a73 r)] (by simp) λa D y z=>?_).bind λv O=>.ok (O.2.2.1.le (by simp));simp only[AN,DL,or_false]at D;rcases D with rfl|rfl|rfl
 .exact Ax2 _ z (by decide)
 .exact Ax2 _ z (by decide)
 .exact Bys hr z (AF _) (AF _)
def B9r (k:Kind)(h:k.Curfews.length<=10)(G:∀c∈k.Curfews,c.length<=10):As (Yl k) (EB 4 22404):=by
 unfold Yl;refine As.bind (p:=EB 3 3732) (Ask (As7 (F:=λj a=>Qq (j:Int) a) (λ_ _ _=>rfl) k.Curfews (by omega) λj a D=>(Cah a (G a D)).bind λr hr=>.ok hr) h) λr hr=>?_;unfold Io;refine(A4p (d:=3) (m:=3732) [(AnyT.a3 k.Slow),(AnyT.a3 k.Fast),(AnyT.a3 k.Places),(AnyT.a3 k.Weight),(AnyT.a3 k.Longest),(AnyT.a73 r)] (by simp) λa D y z=>?_).bind λv O=>.ok (O.2.2.1.le (by simp));simp only[AN,DL,or_false]at D;rcases D with rfl|rfl|rfl|rfl|rfl|rfl
 .exact Ax2 _ z (by decide)
 .exact Ax2 _ z (by decide)
 .exact Ax2 _ z (by decide)
 .exact Ax2 _ z (by decide)
 .exact Ax2 _ z (by decide)
 .exact Bys hr z (AF _) (AF _)
def B5f (t:Tables)(h:TabF t){e:Int}(Y:Ky t=.ok e):As (Xo t) λr=>r.2=e/\(e=0\/r.1=G3 32 0):=by
 unfold Xo;rw[Y,R.ok_bind];refine As.ite (λ_=>.ok ⟨rfl,.inr rfl⟩) λh0=>?_;have h0:e=0:=by simpa using h0
 refine As.bind (p:=EB 3 9228) (Ask (As7 (F:=λj a=>Of (j:Int) a) (λ_ _ _=>rfl) t.Sectors (by have:=h.s;omega) λj a z=>(Caf a (h.sv a z)).bind λr hr=>.ok hr) h.s) λr hr=>?_;refine As.bind (p:=EB 2 1776) (Ask (As7 (F:=λj a=>Ql (j:Int) a) (λ_ _ _=>rfl) t.Configs (by have:=h.c;omega) λj a z=>(Cau a (h.cs a z)).bind λr hr=>.ok hr) h.c) λr1 S=>?_;refine As.bind (p:=EB 6 360396) (Ask (As7 (F:=λj a=>Ts (j:Int) a) (λ_ _ _=>rfl) t.Ways (by have:=h.w;omega) λj a z=>(Ca6 a (h.wl a z).1 (h.wl a z).2).bind λr hr=>.ok hr) h.w) λr2 U=>?_;refine As.bind (p:=EB 2 1524) (Ask (As7 (F:=λj a=>Tz (j:Int) a) (λ_ _ _=>rfl) t.Modes (by have:=h.m;omega) λj a z=>(B9o a (h.ml a z)).bind λr hr=>.ok hr) h.m) λr3 V=>?_;refine As.bind (p:=EB 5 134436) (Ask (As7 (F:=λj a=>Sd (j:Int) a) (λ_ _ _=>rfl) t.Kinds (by have:=h.k;omega) λj a z=>(B9r a (h.kc a z).1 (h.kc a z).2).bind λr hr=>.ok hr) h.k) λr4 W=>?_;refine As.bind (p:=λv:Value=>v.Kind=3/\EB 7 2162388 v) (by
  unfold Io;refine(A4p (d:=6) (m:=360396) [(AnyT.a3 t.Volumes),(AnyT.a73 r),(AnyT.a73 r1),(AnyT.a73 r2),(AnyT.a73 r3),(AnyT.a73 r4)] (by simp) λa z y D=>?_).mono λv X=>⟨X.1,X.2.2.1.le (by simp)⟩;simp only[AN,DL,or_false]at z;rcases z with rfl|rfl|rfl|rfl|rfl|rfl
  .exact Ax2 _ D (by decide)
  .exact Bys hr D (by decide) (by decide)
  .exact Bys S D (by decide) (by decide)
  .exact Bys U D (by decide) (by decide)
  .exact Bys V D (by decide) (by decide)
  .exact Bys W D (by decide) (by decide)) λr5 G=>?_
 refine(B5l (G.2.ups (by decide)) G.1 (by decide)).bind λr6 O=>?_;rw[if_neg (by simp[O.1])];obtain⟨x,hx,_⟩:=B5a [116,97,98,108,101,115] r6.1 (by decide) (by have:=O.2;omega);rw[hx];exact .ok ⟨h0.symm,.inl h0⟩
end Go.Am
