/- Written by shrink.py from texts of ours: comments struck, what is not reached left out, names short. -/
import Derived.Test.YtcpfebjhnbjfbaaGreatDoorU6
set_option linter.unusedSimpArgs false
set_option linter.unusedVariables false
set_option linter.unusedSectionVars false
set_option linter.defProp false
set_option maxRecDepth 100000
namespace Go.Am
open Go
abbrev CI:=@List.getElem?_eq_some_iff
abbrev DM:=@decide_eq_true
abbrev DW:=@Int.le_refl
abbrev ER:=@decide_eq_false
abbrev GU:=@Bool.or_false
abbrev IG:=@Nat.sub_le
variable{α:Type}
def As(m:R α)(p:α→Prop):Prop:=∃a,m=.ok a∧p a
variable{p:α→Prop}
theorem As.ok{a:α}(h:p a):As (.ok a) p:=⟨a,rfl,h⟩
variable{β:Type}{f:α→R β}
theorem As.bind{m:R α}{q:β→Prop}(h:As m p)(hf:∀a,p a→As (f a) q):As (m.bind f) q:=by obtain⟨a,rfl,z⟩:=h;exact hf a z
theorem As.mono{m:R α}{q:α→Prop}(h:As m p)(z:∀a,p a→q a):As m q:=let ⟨a,h1,h2⟩:=h;⟨a,h1,z a h2⟩
theorem As.np{m:R α}(h:As m p):As m.np p:=by obtain⟨a,rfl,z⟩:=h;exact⟨a,rfl,z⟩
variable{c:Prop}
theorem As.ite[Decidable c]{a b:R α}(h1:c→As a p)(h2:¬c→As b p):As (if c then a else b) p:=by
 split
 ·exact h1 ‹_›
 ·exact h2 ‹_›
theorem As.need[Decidable c]{a b:R α}(z:c)(h1:As a p):As (if c then a else b) p:=by rw[if_pos z];exact h1
theorem As.idx{l:List α}{i:Int}{p:β→Prop}(h0:0≤i)(h1:i<(l.length:Int))(hf:∀a,l[i.toNat]?=some a→As (f a) p):As ((idx l i).bind f) p:=by
 obtain⟨n,rfl⟩:=CE h0;have z:n<l.length:=by omega
 rw[Zo (AA z)];exact hf _ (AA z)
variable{σ:Type}{ε:Type}
def Sm(I:σ→Prop)(J:ε→Prop):σ ⊕ ε→Prop
 |.inl s=>I s
 |.inr e=>J e
theorem As.alt{m:R (σ ⊕ ε)}{f:σ→R β}{g:ε→R β}{I:σ→Prop}{J:ε→Prop}{p:β→Prop}(h:As m (Sm I J))(hf:∀s,I s→As (f s) p)(A:∀e,J e→As (g e) p):As (m.bind (alt f g)) p:=
 h.bind λa z=>by
  cases a with
  |inl s=>exact hf s z
  |inr e=>exact A e z
theorem My{b:Nat→α→σ→R σ}(I:Nat→σ→Prop):∀(l:List α) (k:Nat) (s:σ),(∀j a s,l[j]?=some a→I (k+j) s→As (b (k+j) a s) (I (k+j+1)))→I k s→As (eachS b k l s) (I (k+l.length))
 |[],k,s,_,z=>.ok z
 |a::l,k,s,D,z=>by rw[Ic];refine(D 0 a s rfl z).bind λs' A=>?_;have:=My I l (k+1) s' (λj x t O ht=>by have:=D (j+1) x t (by simpa using O) (by rw[show k+(j+1)=k+1+j by omega];exact ht);rwa[show k+(j+1)=k+1+j by omega]at this) A;rw[AF,show k+(l.length+1)=k+1+l.length by omega];exact this
theorem Lu{b:Nat→α→σ→R (σ ⊕ ε)}(I:Nat→σ→Prop)(J:ε→Prop):∀(l:List α) (k:Nat) (s:σ),(∀j a s,l[j]?=some a→I (k+j) s→As (b (k+j) a s) (Sm (I (k+j+1)) J))→I k s→As (each b k l s) (Sm (I (k+l.length)) J)
 |[],k,s,_,z=>.ok z
 |a::l,k,s,A,z=>by
  simp only[each];refine(A 0 a s rfl z).bind λr hr=>?_;cases r with
  |inr e=>exact .ok hr
  |inl s'=>have:=Lu I J l (k+1) s' (λj x t D ht=>by have:=A (j+1) x t (by simpa using D) (by rw[show k+(j+1)=k+1+j by omega];exact ht);rwa[show k+(j+1)=k+1+j by omega]at this) hr;rw[AF,show k+(l.length+1)=k+1+l.length by omega];exact this
theorem Aue{b:α→σ→R σ}(I:σ→Prop)(D:∀a s,I s→As (b a s) I):∀(l:List α) (s:σ),I s→As (Lf b l s) I
 |[],s,z=>.ok z
 |a::l,s,z=>(D a s z).bind λs' A=>Aue I D l s' A
theorem Aa1{b:σ→R (σ ⊕ ε)}(μ:σ→Nat)(I:σ→Prop)(J:ε→Prop)(A:∀s,I s→As (b s) (Sm (λs'=>I s'∧μ s'<μ s) J)):∀(n:Nat) (s:σ),μ s≤n→I s→As (loop b s) J:=by
 intro n;induction n with
 |zero=>
  intro s D z;rw[Ms];refine(A s z).bind λr hr=>?_;cases r with
  |inl s'=>exact absurd hr.2 (by omega)
  |inr e=>exact .ok hr
 |succ n O=>
  intro s D z;rw[Ms];refine(A s z).bind λr hr=>?_;cases r with
  |inl s'=>exact O s' (by have:=hr.2;omega) hr.1
  |inr e=>exact .ok hr
abbrev T1:α→Prop:=λ_=>True
variable{b:Nat→α→Unit→R (Unit ⊕ Int)}
theorem Am9(l:List α)(A:∀j a,l[j]?=some a→As (b j a ()) (Sm T1 λi=>i=(j:Int))):
  As ((each b 0 l ()).bind (alt (λ_=>.ok (-1)) (λr=>.ok r))) λi=>i= -1∨(0≤i∧i<(l.length:Int)):=by
 refine As.alt (I:=T1) (J:=λi=>0≤i∧i<(l.length:Int)) ((Lu (λ_ _=>True) (λi=>0≤i∧i<(l.length:Int)) l 0 () (λj a s z _=>?_) trivial).mono λr hr=>by
  cases r with
  |inl u=>trivial
  |inr i=>exact hr) (λ_ _=>.ok (.inl rfl)) λi hi=>.ok (.inr hi)
 rw[AG]
 have D:j<l.length:=(CI.1 z).1
 refine(A j a z).mono λr hr=>?_
 cases r with
 |inl u=>trivial
 |inr i=>exact⟨by have:i=(j:Int):=hr;omega,by have:i=(j:Int):=hr;omega⟩
theorem Aoa (l:List Span):As (T4 l) T1:=by unfold T4 Jl L9;refine As.bind (p:=T1) (As.bind (Am9 l λj a _=>?_) λi _=>.ok trivial) λb _=>As.ite (λ_=>.ok trivial) λ_=>.ok trivial;unfold Oh Y5;simp only[R.ok_bind];exact As.ite (λ_=>.ok rfl) λ_=>.ok trivial
variable{n:Nat}
theorem Zl{c:Nat}(h:n*c≤140737488355328):n*c≤Bj:=h
def opn (s:Segment):List Span:=if s.Open.length=0 then[{From:=0,To:=1440}]else s.Open
def Aat (a:Airspace)(n:Int):Option (Segment×Volume):=
 if 0≤n then(match a.Segments[n.toNat]? with
  |none=>none
  |some s=>if 0≤s.Volume then(match a.Volumes[s.Volume.toNat]? with|none=>none|some v=>some (s,v))else none)else none
def A01 (p:Segment×Volume):List Span:=Zr (opn p.1) p.2.Closed
def Aid (a:Airspace)(n:Int):Option Leg:=(Aat a n).map λp=>{Segment:=n,Volume:=p.1.Volume,Length:=p.1.Length,Minutes:=A01 p}
def Alw(f:α→Option β):List α→Option (List β)
 |[]=>some []
 |x::l=>match f x,Alw f l with
  |some y,some r=>some (y::r)
  |_,_=>none
def Wj (a:Airspace)(r:Int):Option (List Leg):=if 0≤r then(match a.Routes[r.toNat]? with|none=>none|some rt=>Alw (Aid a) rt.Segments)else none
structure OpSmall (a:Airspace):Prop where
 seg:a.Segments.length≤1048576
 vol:a.Volumes.length≤1048576
 rt:a.Routes.length≤1048576
 rs:∀r∈a.Routes,r.Segments.length≤1048576
def Abz (z:List Leg):Bool:=z.any λg=>(g.Minutes.length:Int)==0
def Ayr (a:Airspace):List Route→Nat→List Int→Option (List Int)
 |[],_,x=>some x
 |_::rs,k,x=>match Wj a (k:Int)with
  |none=>none
  |some z=>Ayr a rs (k+1) (if Abz z then x++[(k:Int)]else x)
def blk (a:Airspace):Option (List Int):=Ayr a a.Routes 0 []
theorem min2:Zr [{From:=0,To:=1440}] [{From:=0,To:=1440}]=[]:=by decide+kernel
@[irreducible] def NN:Nat:=1048576
theorem Ab6:NN=1048576:=by unfold NN;rfl
theorem Atw{c:Nat}(h:n*c≤140737488355328):n*c≤Bj:=h
theorem Bcq (a:Airspace)(h:a.Sectors.length≤1048576):As (Yv a) T1:=by
 unfold Yv;refine As.alt (I:=T1) (J:=T1) ((Lu (λk (l:List Int)=>l.length≤k) T1 a.Sectors 0 [] (λj x s z D=>?_) (AI _)).mono λr hr=>by cases r<;>trivial) (λs _=>.ok trivial) (λe _=>.ok trivial);unfold Sw;have O:j<a.Sectors.length:=(CI.1 z).1;refine As.alt (I:=T1) (J:=T1) ((Lu (λ_ _=>True) T1 x.Volumes 0 0 (λS a2 s2 _ _=>?_) trivial).mono λr hr=>by cases r<;>trivial) (λA _=>?_) (λe _=>.ok trivial)
 ·unfold Acy;by_cases h0:0≤a2
  ·by_cases h1:a2≥(a.Volumes.length:Int)
   ·simp only[DM h1,Bool.or_true,if_true,R.ok_bind];exact .ok trivial
   ·simp only[ER h1,ER (show ¬a2<0 by omega),GU,AE,if_false,if_pos h0,R.ok_bind];exact As.ite (λ_=>.ok trivial) λ_=>.ok trivial
  ·simp only[DM (show a2<0 by omega),Bool.true_or,if_true,R.ok_bind];exact .ok trivial
 ·refine As.ite (λ_=>.ok trivial) λ_=>As.need (Atw ?_) (.ok ?_)
  ·simp only[AB];omega
  ·show(s++[A]).length≤_;rw[AJ,AB];omega
theorem Ao6 (a:Airspace):As (Mq a) λr=>r.2=true→1≤r.1.length∧r.1.length≤32∧r.1.length=a.Configs.length:=by
 unfold Mq;refine As.ite (λ_=>.ok λh=>by cases h) λS=>?_;simp only[BQ,AK,not_or]at S;obtain⟨⟨⟨⟨h1,h2⟩,W⟩,X⟩,Y⟩:=S;refine(Bcq a (by omega)).bind λr _=>As.ite (λ_=>?_) λ_=>.ok λh=>by cases h
 have hw:IntKind.wrap .i64 (64-(a.Volumes.length:Int))=64-(a.Volumes.length:Int):=Ok (by omega) (by omega);refine As.need (by rw[hw];omega) ?_;refine As.alt (I:=λ(l:List (List (Int×Bool)))=>l.length=a.Configs.length) (J:=λ(e:List (List (Int×Bool))×Bool)=>e.2=false) ((Lu (λk (l:List (List (Int×Bool)))=>l.length=k) (λ(e:List (List (Int×Bool))×Bool)=>e.2=false) a.Configs 0 [] (λj x s U Z=>?_) rfl).mono λq A=>by
   cases q with
   |inl l=>exact A.trans (AG _)
   |inr e=>exact A) (λl hl=>.ok λ_=>by simp only;omega) (λe D=>.ok λh=>by rw[D]at h;cases h)
 unfold L8;have hj:j<a.Configs.length:=(CI.1 U).1;refine As.alt (I:=T1) (J:=λ(e:List (List (Int×Bool))×Bool)=>e.2=false) ((Lu (λ_ _=>True) (λ(e:List (List (Int×Bool))×Bool)=>e.2=false) x.Sectors 0 (0,[]) (λj2 a2 s2 _ _=>?_) trivial).mono λq A=>by
   cases q with
   |inl l=>trivial
   |inr e=>exact A) (λy _=>?_) (λe D=>.ok D)
 ·obtain⟨O,m⟩:=s2;simp only[Ct];unfold V4;by_cases h0:0≤a2∧a2<(r.1.length:Int)
  ·simp only[ER (show ¬a2<0 by omega),ER (show ¬a2≥(r.1.length:Int)by omega),GU,AE,if_false,R.bind_assoc,R.ok_bind];refine As.idx h0.1 h0.2 λz hz=>?_;refine As.ite (λ_=>.ok rfl) λ_=>As.idx h0.1 h0.2 λz2 V=>.ok trivial
  ·have:(decide (a2<0)||decide (a2≥(r.1.length:Int)))=true:=by
    rw[BQ,AK,AK];omega
   simp only[this,if_true,R.ok_bind]
   exact .ok rfl
 ·obtain⟨O,m⟩:=y;simp only[Ct];refine As.ite (λ_=>.ok rfl) λ_=>As.need (Atw ?_) (.ok ?_)
  ·simp only[AB];omega
  ·show(s++[m]).length=_;rw[AJ,AB];omega
theorem Axf (a:Airspace):As (Sr a) T1:=by unfold Sr;exact(Ao6 a).bind λr _=>As.ite (λ_=>.ok trivial) λ_=>.ok trivial
theorem Ash (d o:List (Int×Bool)):As (Pl d o) T1:=by unfold Pl;refine(Aue T1 (λx s _=>?_) d 0 trivial).bind λn _=>.ok trivial;unfold Gs;exact As.ite (λ_=>.ok trivial) λ_=>.ok trivial
theorem Biu:∀n:Fin 33,(match Su (IntKind.wrap .u64 1) (IntKind.wrap .u64 ((n.val:Nat):Int))with|.ok p=>p==(0,((n.val:Nat):Int))|_=>false)=true:=by decide+kernel
theorem mul_one (n:Nat)(h:n≤32):Su (IntKind.wrap .u64 1) (IntKind.wrap .u64 (n:Int))=.ok (0,(n:Int)):=by
 have:=Biu ⟨n,by omega⟩;revert this;cases Su (IntKind.wrap .u64 1) (IntKind.wrap .u64 ((n:Nat):Int))with
 |ok p=>intro h;simp only[BN]at h;rw[h]
 |bad=>intro h;cases h
 |pan v=>intro h;cases h
def neg (l:List Int):Nat:=l.countP (·<0)
structure Srch (n M:Nat)(s:List Int×List Int):Prop where
 len:s.1.length=n
 val:∀v∈s.1,-1≤v∧v+(neg s.1:Int)≤(n:Int)
 que:∀q∈s.2,0≤q∧q<(n:Int)
 mes:2*neg s.1+s.2.length≤M
structure LowOk (a:Airspace):Prop extends OpSmall a where
 sec:a.Sectors.length≤NN
 secv:∀s∈a.Sectors,s.Volumes.length≤NN
 con:a.Configs.length≤NN
 cons:∀s∈a.Configs,s.Sectors.length≤NN
 air:a.Airports.length≤NN
 mod:∀s∈a.Airports,s.Modes.length≤NN
 cla:a.Classes.length≤NN
structure TabOk (t:Tables):Prop where
 sec:t.Sectors.length≤NN
 secv:∀s∈t.Sectors,s.Volumes.length≤NN
 con:t.Configs.length≤NN
 cons:∀s∈t.Configs,s.Sectors.length≤NN
 way:t.Ways.length≤NN
 legs:∀w∈t.Ways,w.Legs.length≤NN∧∀g∈w.Legs,g.Minutes.length≤NN
 mod:t.Modes.length≤NN
 mods:∀m∈t.Modes,m.length≤NN
 kin:t.Kinds.length≤NN
 cur:∀k∈t.Kinds,k.Curfews.length≤NN∧∀c∈k.Curfews,c.length≤NN
theorem Afa (n a b:Int):Hj n a b=.ok ((decide (n≥a))&&(decide (n≤b))):=rfl
theorem Aba{F:α→R Bool}(z:∀j a,b j a ()=(F a).bind λr=>if r then .ok (.inr ((j:Int)))else .ok (.inl ()))(l:List α)(A:∀a∈l,As (F a) T1): As ((each b 0 l ()).bind (alt (λ_=>.ok (-1)) (λr=>.ok r))) T1:=(Am9 l λj a D=>by rw[z];exact(A a (AP D)).bind λr _=>As.ite (λ_=>.ok rfl) λ_=>.ok trivial).mono λ_ _=>trivial
variable{m:R Bool}
theorem Y7{c:Bool}(h:As m T1):As (if c=true then m else R.ok false) T1:=As.ite (λ_=>h) λ_=>.ok trivial
theorem Hp(h:As m T1):As (m.bind λr=>.ok (!r)) T1:=h.bind λ_ _=>.ok trivial
theorem Pu(h:As m T1):As (m.bind λr=>.ok r) T1:=h.bind λ_ _=>.ok trivial
theorem Bjd (l:List Sector):As (J2 l) T1:=by unfold J2 Ia Kk;refine Hp (As.bind (Aba (F:=Il) (λ_ _=>rfl) l λs _=>?_) λ_ _=>.ok trivial);unfold Il Uw;refine Hp ?_;rw[Afa];exact Pu (Y7 (by rw[Afa];exact .ok trivial))
theorem Bix (l:List (List Int)):As (Oe l) T1:=by unfold Oe I3 Oj;refine Hp (As.bind (Aba (F:=Jj) (λ_ _=>rfl) l λs _=>?_) λ_ _=>.ok trivial);unfold Jj Uv;refine Hp ?_;rw[Afa];refine Pu (Y7 (Pu ?_));unfold Sa Kg Nd;refine Hp (As.bind (Aba (F:=La) (λ_ _=>rfl) s λs _=>?_) λ_ _=>.ok trivial);unfold La Qr;rw[Afa];exact .ok trivial
theorem Bk4 (g:Leg)(t:Tables):As (P1 g t) T1:=by unfold P1;rw[Afa,R.ok_bind];refine As.bind (p:=T1) (Y7 (Pu (by rw[Afa];exact .ok trivial))) λb _=>As.bind (p:=T1) (Y7 (Pu (by rw[Afa];exact .ok trivial))) λb1 _=>Pu (Y7 ((Aoa _).bind λ_ _=>.ok trivial))
theorem Bj0 (l:List Way)(t:Tables):As (Nr l t) T1:=by
 unfold Nr Ki Ni;refine Hp (As.bind (Aba (F:=λw=>Ny w t) (λ_ _=>rfl) l λw _=>?_) λ_ _=>.ok trivial);unfold Ny Uu;have z:∀n,As (Mr n t) T1:=λn=>by unfold Mr;rw[Afa];exact .ok trivial
 refine Hp ((z _).bind λr _=>As.bind (p:=T1) (Y7 (Pu (z _))) λb _=>As.bind (p:=T1) (Y7 (Pu (by rw[Afa];exact .ok trivial))) λb1 _=>Pu (Y7 (Pu ?_)));unfold R8 Kd Na;refine Hp (As.bind (Aba (F:=λg=>Ns g t) (λ_ _=>rfl) w.Legs λg _=>?_) λ_ _=>.ok trivial);unfold Ns;exact Hp (Bk4 g t)
theorem A7t (l:List Int)(h:l.length≤1000):As (Yw l) T1:=by
 unfold Yw;refine As.alt (I:=T1) (J:=T1) ((Aa1 (λi=>2000-i.toNat) (λi=>0≤i∧i≤1010) T1 (λi hi=>?_) 2000 0 (IG _ _) ⟨DW _,by omega⟩).mono λr _=>by cases r<;>trivial) (λ_ _=>.ok trivial) λ_ _=>.ok trivial;unfold Acx;have h1:IntKind.wrap .i64 (i+1)=i+1:=Ok (by omega) (by omega);have h2:IntKind.wrap .i64 (i+2)=i+2:=Ok (by omega) (by omega);have A:IntKind.wrap .i64 (i+3)=i+3:=Ok (by omega) (by omega);rw[h1,h2];refine As.ite (λD=>?_) λ_=>.ok trivial;have z:∀b,As (Pe i b) (Sm (λs'=>(0≤s'∧s'≤1010)∧2000-s'.toNat<2000-i.toNat) T1):=λb=>by unfold Pe;refine As.ite (λ_=>.ok trivial) λ_=>.ok ?_;rw[A];exact⟨⟨by omega,by omega⟩,by omega⟩
 refine As.idx (by omega) (by omega) λa _=>As.idx (by omega) (by omega) λa1 _=>As.ite (λ_=>z _) λ_=>As.idx (by omega) (by omega) λa2 _=>z _
theorem Bhi (l:List Kind)(t:Tables):As (L3 l t) T1:=by unfold L3 Ji Ml;refine Hp (As.bind (Aba (F:=λw=>Lv w t) (λ_ _=>rfl) l λk _=>?_) λ_ _=>.ok trivial);unfold Lv Ul Ae1;refine Hp (As.bind (p:=T1) (As.bind (p:=T1) ?_ λb _=>As.ite (λ_=>.ok trivial) λ_=>.ok trivial) λ_ _=>.ok trivial);unfold V2;refine(A7t _ (by simp)).bind λr _=>As.ite (λ_=>.ok trivial) λ_=>Hp ?_;unfold Er E6;refine As.bind (Aba (F:=Nt) (λ_ _=>rfl) _ λs _=>?_) λ_ _=>.ok trivial;unfold Nt;exact(Aoa _).bind λ_ _=>.ok trivial
theorem Aiq{c:Bool}(h:c=false→As m T1):As (if c=true then R.ok true else m) T1:=As.ite (λ_=>.ok trivial) λz=>h (by simpa using z)
theorem A7g (t:Tables):As (Ky t) T1:=by unfold Ky;rw[Afa];simp only[R.ok_bind];refine As.bind (p:=T1) (Aiq λhr=>?_) λb _=>As.bind (p:=T1) (Aiq λ_=>Hp (Bjd _)) λb1 _=>As.ite (λ_=>.ok trivial) λ_=>As.bind (p:=T1) (Aiq λ_=>Hp (Bix _)) λz _=>As.bind (p:=T1) (Aiq λ_=>Hp (Bj0 _ _)) λA _=>As.bind (p:=T1) (Aiq λ_=>Hp (Bhi _ _)) λD _=>As.ite (λ_=>.ok trivial) λ_=>.ok trivial;simp only[Bool.not_eq_false',AH,AK]at hr;unfold Vw;rw[if_pos (⟨by omega,DW _,Zl (by omega)⟩:(0:Int)≤t.Volumes∧(t.Volumes:Int)≤t.Volumes∧(Int.toNat t.Volumes)*40≤Bj)];simp only[R.ok_bind];exact(Axf _).bind λ_ _=>.ok trivial
def Dp:Nat→Value→Prop
 |0,v=>v.L=[]
 |n+1,v=>∀x∈v.L,Dp n x
theorem Dp.up{v:Value}:Dp n v→Dp (n+1) v:=by
 induction n generalizing v with
 |zero=>intro h x z;rw[show v.L=[]from h]at z;cases z
 |succ n A=>intro h x z;exact A (h x z)
abbrev p90:PV:=⟨39,.int .i64 90⟩
theorem A5b (b:Bool)(e:Int):Iv b e=if b then .ok ()else .pan ⟨39,.int .i64 e⟩:=rfl
def Xc (M:List (Al×Int))(ns:List Al):Prop:=∀x,Dq M x=(pos ns x).map λi=>(i:Int)
def H2 (ns:List Al)(x:Al):Bool:=(pos ns x).isSome
theorem of_eq {M:List (Al×Int)}{ns:List Al}(h:Xc M ns)(x:Al):Dc M x=if H2 ns x then .ok (Ac2 ns x)else .pan p90:=by unfold Dc H2 Ac2;rw[h x,A5b];cases pos ns x<;>simp
def Aq3 (vs:List Al)(s:Sector):Sector:={s with Volumes:=s.Names.map (Ac2 vs)}
def Aqt (ss:List Al)(s:Config):Config:={s with Sectors:=s.Names.map (Ac2 ss)}
def Auy (vs:List Al)(s:Segment):Segment:={s with Volume:=Ac2 vs s.In}
def As4 (gs Up:List Al)(r:Route):Route:={r with From:=Ac2 Up r.A,To:=Ac2 Up r.B,Segments:=r.Names.map (Ac2 gs)}
def A5y (Up cs:List Al)(r:Rule):Rule:={r with Class:=Ac2 cs r.C,Airport:=if r.Kind==1 then Ac2 Up r.A else 0}
def As9 (vs:List Al)(s:Sector):Bool:=s.Names.all (H2 vs)
def As6 (ss:List Al)(s:Config):Bool:=s.Names.all (H2 ss)
def Aqo (vs:List Al)(s:Segment):Bool:=H2 vs s.In
def Avj (gs Up:List Al)(r:Route):Bool:=H2 Up r.A&&H2 Up r.B&&r.Names.all (H2 gs)
def A1f (Up cs:List Al)(r:Rule):Bool:=H2 cs r.C&&(!(r.Kind==1)||H2 Up r.A)
structure Small (N:Nat)(a:Airspace):Prop where
 v:a.Volumes.length≤N
 s:a.Sectors.length≤N
 c:a.Configs.length≤N
 g:a.Segments.length≤N
 r:a.Routes.length≤N
 p:a.Airports.length≤N
 k:a.Classes.length≤N
 u:a.Rules.length≤N
 sn:∀x∈a.Sectors,x.Names.length≤N
 cn:∀x∈a.Configs,x.Names.length≤N
 rn:∀x∈a.Routes,x.Names.length≤N
 pm:∀x∈a.Airports,x.Modes.length≤N
def vs (a:Airspace):List Al:=a.Volumes.map (·.Name)
def ss (a:Airspace):List Al:=a.Sectors.map (·.Name)
def cs (a:Airspace):List Al:=a.Configs.map (·.Name)
def gs (a:Airspace):List Al:=a.Segments.map (·.Name)
def rs (a:Airspace):List Al:=a.Routes.map (·.Name)
def Up (a:Airspace):List Al:=a.Airports.map (·.Name)
def ks (a:Airspace):List Al:=a.Classes.map (·.Name)
def Bbu:Airspace:={Volumes:=[],Sectors:=[],Configs:=[],Segments:=[],Routes:=[],Airports:=[],Classes:=[],Rules:=[]}
def Adb (a:Airspace):Prop:=(vs a).Nodup∧(ss a).Nodup∧(cs a).Nodup∧(gs a).Nodup∧(rs a).Nodup∧(Up a).Nodup∧(ks a).Nodup∧∀p∈a.Airports,(p.Modes.map (·.Name)).Nodup
instance (a:Airspace):Decidable (Adb a):=by unfold Adb;infer_instance
def An9 (a:Airspace):Bool:=a.Sectors.all (As9 (vs a))&&a.Configs.all (As6 (ss a))&&a.Segments.all (Aqo (vs a))&&a.Routes.all (Avj (gs a) (Up a))&&a.Rules.all (A1f (Up a) (ks a))
def Pw (a:Airspace):Airspace:={a with Sectors:=a.Sectors.map (Aq3 (vs a)),Configs:=a.Configs.map (Aqt (ss a)),Segments:=a.Segments.map (Auy (vs a)),Routes:=a.Routes.map (As4 (gs a) (Up a)),Rules:=a.Rules.map (A5y (Up a) (ks a))}
def resolve (a:Airspace):Airspace×Int:=if Adb a then(if An9 a then(Pw a,0)else(Bbu,90))else(Bbu,91)
structure Bd (a:Airspace):Prop where
 v:a.Volumes.length≤1000
 s:a.Sectors.length≤1000
 c:a.Configs.length≤1000
 g:a.Segments.length≤1000
 r:a.Routes.length≤1000
 p:a.Airports.length≤1000
 k:a.Classes.length≤1000
 u:a.Rules.length≤1000
 sn:∀x∈a.Sectors,x.Names.length≤1000
 cn:∀x∈a.Configs,x.Names.length≤1000
 rn:∀x∈a.Routes,x.Names.length≤1000
 pm:∀x∈a.Airports,x.Modes.length≤1000
 sv:∀x∈a.Sectors,x.Volumes.length≤1000
 cv:∀x∈a.Configs,x.Sectors.length≤1000
 rg:∀x∈a.Routes,x.Segments.length≤1000
theorem Bd.low {a:Airspace}(h:Bd a):LowOk (Pw a) where
 seg:=by have:=h.g;simp only[Pw,AL];omega
 vol:=by have:=h.v;simp only[Pw];omega
 rt:=by have:=h.r;simp only[Pw,AL];omega
 rs:=λx z=>by obtain⟨y,A,rfl⟩:=CK.1 z;have:=h.rn y A;simp only[As4,AL];omega
 sec:=by have:=Ab6;have:=h.s;simp only[Pw,AL];omega
 secv:=λx z=>by obtain⟨y,A,rfl⟩:=CK.1 z;have:=Ab6;have:=h.sn y A;simp only[Aq3,AL];omega
 con:=by have:=Ab6;have:=h.c;simp only[Pw,AL];omega
 cons:=λx z=>by obtain⟨y,A,rfl⟩:=CK.1 z;have:=Ab6;have:=h.cn y A;simp only[Aqt,AL];omega
 air:=by have:=Ab6;have:=h.p;simp only[Pw];omega
 mod:=λx z=>by have:=Ab6;have:=h.pm x z;omega
 cla:=by have:=Ab6;have:=h.k;simp only[Pw];omega
end Go.Am
