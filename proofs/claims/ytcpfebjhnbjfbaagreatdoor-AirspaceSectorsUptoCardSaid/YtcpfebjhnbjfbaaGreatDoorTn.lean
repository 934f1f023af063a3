/- Written by shrink.py from texts of ours: comments struck, what is not reached left out, names short. -/
import Derived.Test.YtcpfebjhnbjfbaaGreatDoorTf
import Derived.Test.YtcpfebjhnbjfbaaGreatDoorTg
import Derived.Test.YtcpfebjhnbjfbaaGreatDoorTj
set_option linter.unusedSimpArgs false
set_option linter.unusedVariables false
set_option linter.unusedSectionVars false
set_option linter.defProp false
set_option maxHeartbeats 4000000
set_option maxRecDepth 100000
open Go.Proofs.Tryz
namespace Go.Am
open Go
noncomputable section
def Ahp (A:Int)(D:Int)(z:Int):R Int:=if(D==A)then
(.ok (IntKind.wrap .i64 (z+1)))
else
(.ok z)
def Pv (A:Int)(r2:(Tables×Int))(a2:Int)(many:Int):R Int:=(idx r2.1.Sectors a2).bind λa3=>(eachS (λ_ D=>λz=>Ahp A D z) 0 a3.Volumes many).bind ((λz=>.ok z))
def Adh (a:Airspace)(z:Int)(A:Int):R Bool:=(Acu).bind λr=>if r then
((Aab a).bind λr1=>if r1 then
((N6 a).bind λr2=>if(r2.2!=0)then
(.ok true)
else
((Xh r2.1 z A).bind λD=>
 (Aek a z A).bind λr4=>
 if((D.1!=r4.1)||(!(D.2==r4.2)))then
(.ok false)
else
(if((((decide (z≥0))&&(decide (z<(a.Configs.length:Int))))&&(decide (A≥0)))&&(decide (A<(a.Volumes.length:Int))))then
((idx r2.1.Configs z).bind λa1=>(eachS (λ_ a2=>λmany=>Pv A r2 a2 many) 0 a1.Sectors 0).bind ((λmany=>.ok (D.2&&(many==1)))))
else
(.ok (!D.2)))))
else
(.ok true))
else
(.ok false)
end
end Go.Am
namespace Go.Am
open Go Go.Proofs Go.Proofs.Tryz
attribute [local irreducible] WR WO WP WU Nu
instance Bof (a config volume):CP prog 5 [.A (Aj a),.int .i64 config,.int .i64 volume] (Adh a config volume) AV.bool:=by
 refine ci 111 2 func5 (Adh.eq_1 _ _ _) λh0 ids hI hF=>go ?_;intro g r _;refine N8 O (λY=>?_) (λY=>?_)
 ·refine go ?_;intro r1 _;refine N8 O (λR=>?_) (λR=>?_)
  ·refine go ?_;intro r2 _ g1;refine Bo O (λS=>?_) (λS=>?_)
   ·exact gc
   refine A8<|Ah<|Ao 3 [1] [(34,.I volume),(33,.I config),(32,.A (B9 r2.1))]<|oc ((Aq0 r2.1 config volume) _) λA _=>Ao 5 [] [(10,.B A.2),(9,.I A.1)]<|Ad<|Ah<|Ao 3 [0] [(41,.I volume),(40,.I config),(39,.A (Aj a))]<|oc ((Aru a config volume) _) λr4 _=>Ao 5 [] [(12,.B r4.2),(11,.I r4.1)]<|Ad<|Ai<|Ah<|Ao 4 [] [(48,.B (A.1!=r4.1))]<|Oc 4 48 52 [1,2,3,7,10] (.B ((A.1!=r4.1)||(!(A.2==r4.2)))) O ?_ (λD _ U=>?_) (λD _ U=>?_)
   ·refine Ad<|Bo O (λV=>?_) (λV=>?_)
    ·exact gc
    refine go ?_
    refine N8 O (λX=>?_) (λX=>?_)
    ·refine go ?_;intro a1 hz Z _;refine Ck 1<|Ui [2,7,10,82,83] 84 (λmany=>[(14,.I many)]) (λmany=>[none,Ab g1 6 [B9 r2.1]]) ?_ ?_
     ·rintro j a2 many aa _ W _;refine Ae (Pv.eq_1 _ _ _ _)<|go ?_;intro a3 ab ac _;refine Ui [2,7,10,82,83,84,93,94] 95 (λz=>[(14,.I z)]) (λz=>[none,Ab g1 6 [B9 r2.1]]) ?_ ?_
      ·rintro j1 a4 z ad _ W _;refine Ae (Ahp.eq_1 _ _ _)<|gc
      rintro z;exact gc
     rintro many;exact gc
    exact gc
   ·refine Ao 4 [] [(52,.B true)]<|Ib U (.r4 (.r (.cons (Ava D) .nil)))
   refine Ao 2 [] [(50,.B r4.2),(49,.B A.2)]<|F5 (tj:=48) (.B (!(A.2==r4.2))) O O O (Bb O O (Biw Ya.eq))<|Bl (.B (!(A.2==r4.2)))<|Ib U (.r4 (.r (.cons (Av1 D) .nil)))
  exact gc
 exact gc
end Go.Am
namespace Go.Am
open Go
def Zq:Prop:=∀(z:Airspace) (a1:Int) (a2:Int) (_:Ahm.good z) (_:(Cj .i64).good a1) (_:(Cj .i64).good a2),Ahm.bulk z+((Cj .i64).bulk a1+((Cj .i64).bulk a2))≤1048576→Adh z a1 a2=.ok true
end Go.Am
namespace Go.Proofs.YtcpfebjhnbjfbaaGreatDoor.laws
open Go Go.Am Go.ChangeShapes Go.WideShapes Go.ChangeAt Go.RowKit
theorem rd3:prog.readableRec 3=true∧3<prog.types.size:=by decide+kernel
end Go.Proofs.YtcpfebjhnbjfbaaGreatDoor.laws
namespace Go.Am
open Go
theorem Bhp {α σ ε:Type}{b:Nat→α→σ→R (σ ⊕ ε)}(I:Nat→σ→Prop):∀(l:List α) (k:Nat) (s s':σ),each b k l s=.ok (.inl s')→I k s→(∀j a t A,l[j]?=some a→b (k+j) a t=.ok (.inl A)→I (k+j) t→I (k+j+1) A)→I (k+l.length) s'
 |[],k,s,s',h,z,_=>by rw[Bnb]at h;cases h;exact z
 |a::l,k,s,s',h,z,D=>by
  rw[Abg]at h;obtain⟨x,h1,h2⟩:=R.ok_of h;cases x with
  |inr e=>cases h2
  |inl t=>
   have:=Bhp I l (k+1) t s' h2 (D 0 a s t rfl h1 z) λj x u O S U hi=>by have:=D (j+1) x u O (by simpa using S) (by rw[show k+(j+1)=k+1+j by omega];exact U) (by rw[show k+(j+1)=k+1+j by omega];exact hi);rwa[show k+(j+1)=k+1+j by omega]at this
   rw[AF,show k+(l.length+1)=k+1+l.length by omega];exact this
variable{a:Airspace}
theorem B6k{r:List Int×Bool}(hv:a.Volumes.length≤64)(h:Yv a=.ok r)(hr:r.2=true):r.1.length=a.Sectors.length∧∀(j:Nat) (s:Sector),a.Sectors[j]?=some s→∃x,r.1[j]?=some x∧Bits a.Volumes.length x s.Volumes:=by
 unfold Yv at h;have U:∀(j:Nat) (s:Sector) l e,Sw a s l=.ok (.inr e)→e.2=false:=by
  intro j s l e he;unfold Sw at he;rcases At5 he with⟨V,h1,h2⟩|⟨e',h1,h2⟩
  ·split at h2
   ·cases h2;rfl
   ·split at h2<;>cases h2
  ·cases h2;have:∀(l:List Int) (k:Nat) (t:Int),each (λ_ a2=>λV=>Acy a a2 V) k l t=.ok (.inr e)→e.2=false:=by
    intro l;induction l with
    |nil=>intro k t h;rw[Bnb]at h;cases h
    |cons q l Z=>
     intro k t h;rw[Abg]at h;obtain⟨y,z,h⟩:=R.ok_of h;cases y with
     |inl u=>exact Z _ _ h
     |inr e2=>
      cases h;unfold Acy at z;obtain⟨c,_,z⟩:=R.ok_of z;cases c with
      |true=>cases z;rfl
      |false=>rw[if_neg (by decide)]at z;split at z<;>cases z
   exact this _ _ _ h1
 rcases At5 h with⟨l,h1,h2⟩|⟨e,h1,h2⟩
 ·cases h2;have:=Bhp (λn (l:List Int)=>l.length=n∧∀(j:Nat) (s:Sector),j<n→a.Sectors[j]?=some s→∃x,l[j]?=some x∧Bits a.Volumes.length x s.Volumes) a.Sectors 0 [] l h1 ⟨rfl,λj s hj=>absurd hj (DZ _)⟩ (λj s t t' Y hb S=>by
   simp only[AG]at hb S ⊢;unfold Sw at hb;rcases At5 hb with⟨V,g1,O⟩|⟨e,g1,O⟩
   ·have hx:=Bhp (λn (x:Int)=>Bits a.Volumes.length x (s.Volumes.take n)) s.Volumes 0 0 V g1 (Bits.nil _) (λi v u u' W A hB=>by
     simp only[AG]at A hB ⊢
     unfold Acy at A
     obtain⟨c,X,A⟩:=R.ok_of A
     cases c with
     |true=>cases A
     |false=>
      rw[if_neg (by decide)]at A;split at A
      ·rename_i h0;cases A;split at X
       ·cases X
       ·rename_i D;have X:((Dk .u64 u (X0 .u64 1 v))!=0)=false:=by injection X
        simp only[BQ,AK,not_or]at D;have hi:i<s.Volumes.length:=A6 W;have e:s.Volumes.take (i+1)=s.Volumes.take i++[v]:=by rw[EE,W];rfl
        rw[e];exact hB.put hv h0 (by omega) (by simpa using X)
      ·cases A)
    rw[AG,EI]at hx
    split at O
    ·cases O
    ·split at O
     ·cases O;refine⟨by simp[S.1],λi q hi hq=>?_⟩;rcases BZ i j with h'|h'
      ·obtain⟨x,aa,ab⟩:=S.2 i q h' hq;exact⟨x,by rw[DE (by rw[S.1];exact h')];exact aa,ab⟩
      ·have ac:i=j:=by omega
       subst ac
       rw[Y]at hq;cases hq
       exact⟨V,by rw[CZ (by rw[S.1];exact AI _),S.1];simp,hx⟩
     ·cases O
   ·cases O)
  rw[AG]at this;exact⟨this.1,λj s Y=>this.2 j s (A6 Y) Y⟩
 ·cases h2;have:∀(l:List Sector) (k:Nat) (t:List Int),each (λ_ a1=>λl=>Sw a a1 l) k l t=.ok (.inr r)→r.2=false:=by
   intro l;induction l with
   |nil=>intro k t h;rw[Bnb]at h;cases h
   |cons q l Z=>
    intro k t h;rw[Abg]at h;obtain⟨y,z,h⟩:=R.ok_of h;cases y with
    |inl u=>exact Z _ _ h
    |inr e2=>cases h;exact U 0 _ _ _ z
  rw[this _ _ _ h1]at hr;cases hr
theorem B6y {n:Nat}{vs:List Int}(h1:1≤n)(D:n≤64)(h:Bits n (Aa7 .u64 18446744073709551615 (IntKind.wrap .i64 (64-(n:Int)))) vs):∀v:Int,0≤v→v<(n:Int)→v∈vs:=by
 obtain⟨m,e,O,z,_,_⟩:=h;intro v h0 R;obtain⟨w,rfl⟩:=CE h0;rw[←z w];have hw:IntKind.wrap .i64 (64-(n:Int))=((64-n:Nat):Int):=by rw[Ok (by omega) (by omega)];omega
 rw[hw]at e;unfold Aa7 at e;rw[show min ((64-n:Nat):Int).toNat IntKind.u64.bits=64-n from by show min _ 64=_;omega]at e;rw[HX _ (by exact_mod_cast CA _)]at e;have A:m=18446744073709551615/2^(64-n):=by
  have:((m:Nat):Int)=((18446744073709551615/2^(64-n):Nat):Int):=by rw[←e];simp
  exact_mod_cast this
 rw[A,←Nat.shiftRight_eq_div_pow,Nat.testBit_shiftRight,show(18446744073709551615:Nat)=2^64-1 from rfl,Nat.testBit_two_pow_sub_one];simp;omega
theorem B8q(h:Sr a=.ok 0):Divs a:=by
 unfold Sr at h;obtain⟨r,h,hr⟩:=R.ok_of h;have hr:r.2=true:=by
  cases X:r.2 with
  |true=>rfl
  |false=>rw[X,if_neg (by decide)]at hr;cases hr
 unfold Mq at h;split at h
 ·cases h;cases hr
 ·rename_i hb;simp only[BQ,AK,not_or]at hb;obtain⟨⟨⟨⟨b1,b2⟩,b3⟩,b4⟩,b5⟩:=hb;obtain⟨s,hs,h⟩:=R.ok_of h;split at h
  ·rename_i aa;split at h
   ·obtain⟨q1,q2⟩:=B6k (by omega) hs aa;rcases At5 h with⟨l,g,_⟩|⟨e,g,g2⟩
    ·refine⟨by omega,by omega,?_,by omega,by omega⟩;have:=Bhp (λn (l:List (List (Int×Bool)))=>∀(j:Nat) (c:Config),j<n→a.Configs[j]?=some c→(∀k∈c.Sectors,0≤k∧k<(a.Sectors.length:Int))∧(c.Sectors.flatMap (Aso a)).Nodup∧∀v:Int,(0≤v∧v<(a.Volumes.length:Int))↔v∈c.Sectors.flatMap (Aso a)) a.Configs 0 [] l g (λj c hj=>absurd hj (DZ _)) (λj c t t' X V hI=>by
      simp only[AG]at V hI ⊢;intro i d hi hd;rcases BZ i j with h'|h'
      ·exact hI i d h' hd
      ·have ab:i=j:=by omega
       subst ab
       rw[X]at hd;cases hd
       unfold L8 at V
       rcases At5 V with⟨x,f1,D⟩|⟨e,f1,D⟩
       ·have hx:=Bhp (λn (x:Int×List (Int×Bool))=>(∀k∈c.Sectors.take n,0≤k∧k<(a.Sectors.length:Int))∧Bits a.Volumes.length x.1 ((c.Sectors.take n).flatMap (Aso a))) c.Sectors 0 (0,[]) x f1 ⟨λk hk=>by simp at hk,Bits.nil _⟩ (λn k y y' hk U hB=>by
         simp only[AG]at U hB ⊢
         obtain⟨A,m⟩:=y
         have U:V4 s k A m=.ok (.inl y'):=U
         unfold V4 at U
         obtain⟨cc,O,U⟩:=R.ok_of U
         cases cc with
         |true=>cases U
         |false=>
          rw[if_neg (by decide)]at U;obtain⟨a4,h4,U⟩:=R.ok_of U;cases U;split at O
          ·cases O
          ·rename_i W;simp only[BQ,AK,not_or]at W;rw[h4,R.ok_bind]at O;have O:((Dk .u64 A a4)!=0)=false:=by injection O
           have Y:0≤k∧k<(a.Sectors.length:Int):=⟨by omega,by rw[←q1];omega⟩;have hn:=A6 hk;have e:c.Sectors.take (n+1)=c.Sectors.take n++[k]:=by rw[EE,hk];rfl
           obtain⟨w,rfl⟩:=CE Y.1;have hw:w<a.Sectors.length:=by omega
           obtain⟨z,hz,ac⟩:=q2 w a.Sectors[w] (AA hw);rw[Zo hz]at h4;cases h4;refine⟨λu V=>?_,?_⟩
           ·rw[e]at V;rcases BG.1 V with V|V
            ·exact hB.1 u V
            ·rw[AY.1 V];exact Y
           ·rw[e,List.flatMap_append];refine hB.2.join ?_ (by simpa using O);simp only[IA,List.flatMap_nil,FV];unfold Aso;rw[AX,AA hw];exact ac)
        rw[AG,EI]at hx
        obtain⟨A,m⟩:=x
        have D:(if(A !=(Aa7 .u64 18446744073709551615 (IntKind.wrap .i64 (64-(a.Volumes.length:Int)))))then(.ok (.inr (([],false))))else(if(t.length+[m].length)*8≤Bj then .ok (.inl (t++[m]))else .bad):R ((List (List (Int×Bool))) ⊕ ((List (List (Int×Bool)))×Bool)))=.ok (.inl t'):=D
        split at D
        ·cases D
        ·rename_i hm;have hm:A=Aa7 .u64 18446744073709551615 (IntKind.wrap .i64 (64-(a.Volumes.length:Int))):=by simpa using hm
         have Z:Bits a.Volumes.length A (c.Sectors.flatMap (Aso a)):=hx.2;obtain⟨_,_,_,_,ad,ae⟩:=id Z;exact⟨hx.1,ad,λv=>⟨λhv=>B6y (by omega) (by omega) (hm▸Z) v hv.1 hv.2,λhv=>ae v hv⟩⟩
       ·cases D)
     intro c X;obtain⟨j,hj⟩:=DJ.1 X;have hl:=A6 hj;exact this j c (by omega) hj
    ·cases g2;have:r.2=false:=Bkk (P:=λe:List (List (Int×Bool))×Bool=>e.2=false) (λj c t e S=>by
      unfold L8 at S;rcases At5 S with⟨x,f1,D⟩|⟨e',f1,D⟩
      ·obtain⟨A,m⟩:=x;have D:(if(A !=(Aa7 .u64 18446744073709551615 (IntKind.wrap .i64 (64-(a.Volumes.length:Int)))))then(.ok (.inr (([],false))))else(if(t.length+[m].length)*8≤Bj then .ok (.inl (t++[m]))else .bad):R ((List (List (Int×Bool))) ⊕ ((List (List (Int×Bool)))×Bool)))=.ok (.inr e):=D;split at D
       ·cases D;rfl
       ·split at D<;>cases D
      ·cases D;exact Bkk (P:=λe:List (List (Int×Bool))×Bool=>e.2=false) (λj k y e S=>by
        obtain⟨A,m⟩:=y;have S:V4 s k A m=.ok (.inr e):=S;unfold V4 at S;obtain⟨cc,O,S⟩:=R.ok_of S;cases cc with
        |true=>cases S;rfl
        |false=>rw[if_neg (by decide)]at S;obtain⟨a4,h4,S⟩:=R.ok_of S;cases S) _ _ _ _ f1) _ _ _ _ g
     rw[this]at hr;cases hr
   ·cases h
  ·cases h;cases hr
theorem B1z (v:Int):∀(l:List Int) (k:Nat),∃j:Nat,each (λj a=>λ_=>Hu v j a) k l ()=.ok (if l.contains v then .inr (j:Int)else .inl ())
 |[],k=>⟨0,rfl⟩
 |a::l,k=>by
  rw[Abg];by_cases h:v=a
  ·subst h;exact⟨k,by simp[Hu]⟩
  ·have h1:(v==a)=false:=by simpa using h
   obtain⟨j,z⟩:=B1z v l (k+1)
   refine⟨j,?_⟩
   rw[show Hu v k a=.ok (.inl ())by unfold Hu;rw[h1];rfl,R.ok_bind,FW,h1]
   exact z
theorem B28 (l:List Int)(v:Int):Jt l v=.ok (l.contains v):=by
 unfold Jt Kr;obtain⟨j,z⟩:=B1z v l 0;rw[z];cases h:l.contains v
 ·simp only[AE,if_false,R.ok_bind];rfl
 ·simp only[if_true,R.ok_bind];simp
theorem B6q (a:Airspace)(A z:Int):Aek ({Volumes:=[],Sectors:=a.Sectors.map lS,Configs:=a.Configs.map lC,Segments:=[],Routes:=[],Airports:=[],Classes:=[],Rules:=[]}:Airspace) A z=Aek a A z:=by
 unfold Aek;simp only[AL,Bkl];split
 ·rfl
 ·rw[R.bind_assoc];congr 1;funext c;rw[R.ok_bind];have e:(λ(_:Nat) (a2:Int) (_:Unit)=>Ahl ({Volumes:=[],Sectors:=a.Sectors.map lS,Configs:=a.Configs.map lC,Segments:=[],Routes:=[],Airports:=[],Classes:=[],Rules:=[]}:Airspace) z a2)=λ_ a2 _=>Ahl a z a2:=by funext _ k _;unfold Ahl;simp only[AL,Bkl,R.bind_assoc,R.ok_bind];rfl
  rw[e];rfl
variable{t:Tables}
theorem B7i(h:Lowd a t)(z A:Int):Xh t z A=Aek a z A:=by unfold Xh;rw[h.sec,h.con,B6q];cases Aek a z A<;>rfl
variable{v:Int}
theorem B8l{k:Int}(hk:0≤k∧k<(a.Sectors.length:Int)):Ahl a v k=if v∈Aso a k then .ok (.inr (k,true))else .ok (.inl ()):=by
 obtain⟨w,rfl⟩:=CE hk.1;have hw:w<a.Sectors.length:=by omega
 unfold Ahl Aso;rw[if_pos (by simp;omega),Zo (AA hw),R.ok_bind,B28,R.ok_bind,R.ok_bind,AX,AA hw];simp only[BB,BY,HB]
theorem Bzx {a:Airspace}{v:Int}:∀(l:List Int) (k:Nat),(∀x∈l,0≤x∧x<(a.Sectors.length:Int))→(v∈l.flatMap (Aso a)→∃s,each (λ_ a2=>λ_=>Ahl a v a2) k l ()=.ok (.inr (s,true)))∧(v∉l.flatMap (Aso a)→each (λ_ a2=>λ_=>Ahl a v a2) k l ()=.ok (.inl ()))
 |[],k,_=>⟨λh=>by simp at h,λ_=>rfl⟩
 |x::l,k,h=>by
  have O:=Bzx (v:=v) l (k+1) λy R=>h y (BC _ R);have S:=B8l (v:=v) (h x BM);rw[Abg,S,IA,BG];by_cases z:v∈Aso a x
  ·rw[if_pos z];exact⟨λ_=>⟨x,rfl⟩,λA=>absurd (.inl z) A⟩
  ·rw[if_neg z];exact⟨λD=>O.1 (D.resolve_left z),λA=>O.2 λD=>A (.inr D)⟩
theorem B62(h:Divs a)(z v:Int):
  (∀c,0≤z→a.Configs[z.toNat]?=some c→(0≤v∧v<(a.Volumes.length:Int))→∃s,Aek a z v=.ok (s,true))∧(¬((0≤z∧z<(a.Configs.length:Int))∧0≤v∧v<(a.Volumes.length:Int))→Aek a z v=.ok (0,false)):=by
 unfold Aek
 refine⟨λc h0 A O=>?_,λS=>?_⟩
 ·have U:=A6 A;have D:=AP A;obtain⟨w,rfl⟩:=CE h0;rw[AX]at A U;rw[if_neg (by simp;omega),Zo A,R.ok_bind];obtain⟨s,V⟩:=(Bzx (a:=a) (v:=v) c.Sectors 0 (h.con c D).1).1 (((h.con c D).2.2 v).1 O);rw[V];exact⟨s,rfl⟩
 ·split
  ·rfl
  ·rename_i A;simp only[BQ,AK,not_or]at A;obtain⟨w,rfl⟩:=CE (show 0≤z by omega);have hw:w<a.Configs.length:=by omega
   rw[Zo (AA hw),R.ok_bind];have D:=AP (AA hw);rw[(Bzx (a:=a) (v:=v) _ 0 (h.con _ D).1).2 λO=>S ⟨by omega,((h.con _ D).2.2 v).2 O⟩];rfl
def U0 (v:Int):List Int→Nat
 |[]=>0
 |a::l=>(if a=v then 1 else 0)+U0 v l
theorem B50 (v:Int):∀l:List Int,U0 v l≤l.length
 |[]=>AI _
 |a::l=>by have:=B50 v l;unfold U0;split<;>simp only[AF]<;>omega
theorem B4j (v:Int):∀l r:List Int,U0 v (l++r)=U0 v l+U0 v r
 |[],r=>by simp[U0]
 |a::l,r=>by have:=B4j v l r;simp only[CQ,U0,this];omega
theorem B6b:∀{l:List Int},v∉l→U0 v l=0
 |[],_=>rfl
 |a::l,h=>by rw[AM,not_or]at h;unfold U0;rw[if_neg (λe=>h.1 e.symm),B6b h.2]
theorem B4q:∀{l:List Int},l.Nodup→v∈l→U0 v l=1
 |a::l,z,h=>by
  rw[DS]at z;unfold U0;by_cases e:a=v
  ·subst e;rw[if_pos rfl,B6b z.1]
  ·rw[if_neg e,B4q z.2 ((AM.1 h).resolve_left λx=>e x.symm)]
theorem B1f{b:Nat→Int→Int→R Int}(z:∀j a m,b j a m=if(a==v)=true then .ok (IntKind.wrap .i64 (m+1))else .ok m):∀(l:List Int) (k:Nat) (m:Int),0≤m→m+l.length≤4611686018427387904→eachS b k l m=.ok (m+(U0 v l:Int))
 |[],k,m,_,_=>by rw[Anw];simp[U0]
 |a::l,k,m,h0,A=>by
  simp only[AF]at A;rw[Ic,z];unfold U0;by_cases e:a=v
  ·rw[if_pos (by simpa using e),R.ok_bind,Ok (by omega) (by omega),B1f z l (k+1) (m+1) (by omega) (by omega),if_pos e];congr 1;omega
  ·rw[if_neg (by simpa using e),R.ok_bind,B1f z l (k+1) m h0 (by omega),if_neg e];congr 1;omega
theorem B2w(ht:t.Sectors=a.Sectors.map lS)(A:∀s∈a.Sectors,s.Volumes.length≤1000)(v:Int):∀(l:List Int) (k:Nat) (m:Int),(∀x∈l,0≤x∧x<(a.Sectors.length:Int))→0≤m→m+1000*l.length≤4611686018427387904→
  eachS (λ_ a2=>λmany=>Pv v (t,0) a2 many) k l m=.ok (m+(U0 v (l.flatMap (Aso a)):Int))
 |[],k,m,_,_,_=>by rw[Anw];simp[U0]
 |x::l,k,m,z,h0,S=>by
  simp only[AF]at S;obtain⟨w,hw⟩:=CE (z x BM).1;have U:=(z x BM).2;subst hw;have hw:w<a.Sectors.length:=by omega
  have D:a.Sectors[w]?=some a.Sectors[w]:=AA hw;have O:=A _ (BR hw);have V:t.Sectors[w]?=some (lS a.Sectors[w]):=by rw[ht,BV,D];rfl
  have W:Aso a ((w:Nat):Int)=a.Sectors[w].Volumes:=by unfold Aso;rw[AX,D];rfl
  have hc:=B50 v a.Sectors[w].Volumes;have X:Pv v (t,0) ((w:Nat):Int) m=.ok (m+(U0 v a.Sectors[w].Volumes:Int)):=by unfold Pv;rw[Zo V,R.ok_bind,B1f (v:=v) (b:=λ_ Y m=>Ahp v Y m) (λj b m=>rfl) _ 0 m h0 (by show m+((a.Sectors[w].Volumes.length:Nat):Int)≤_;omega)];rfl
  rw[Ic,X,R.ok_bind,B2w ht A v l (k+1) _ (λy Z=>z y (BC _ Z)) (by omega) (by omega),IA,B4j,W];congr 1;omega
theorem law_AirspaceSectors (W:Acu=.ok true):Zq:=by
 intro a A z _ _ _ _;unfold Adh;rw[W,R.ok_bind,if_pos rfl];obtain⟨b,X,O⟩:=A9o a;rw[X,R.ok_bind];cases b with
 |false=>rfl
 |true=>
  have O:=O rfl;rw[if_pos rfl];obtain⟨⟨t,e⟩,hr,_⟩:=Bbp a O.low0;rw[hr,R.ok_bind];by_cases U:e=0
  ·subst U;have L:=B41 hr;have D:=B8q L.check;rw[if_neg (λh=>by cases h),B7i L];obtain⟨h1,h2⟩:=B62 D A z;by_cases hk:(0≤A∧A<(a.Configs.length:Int))∧0≤z∧z<(a.Volumes.length:Int)
   ·obtain⟨w,hw⟩:=CE hk.1.1;subst hw;have hw:w<a.Configs.length:=by omega
    have V:a.Configs[w]?=some a.Configs[w]:=AA hw;have S:=BR hw;obtain⟨s,Y⟩:=h1 a.Configs[w] hk.1.1 (by rw[AX];exact V) hk.2;rw[Y];simp only[R.ok_bind];rw[if_neg (by simp),if_pos (by simp;omega)];rw[Zo (show t.Configs[w]?=some (lC a.Configs[w])by rw[L.con,BV,V];rfl),R.ok_bind];have Z:=O.cv _ S;rw[show(lC a.Configs[w]).Sectors=a.Configs[w].Sectors from rfl];rw[B2w L.sec O.sv z _ 0 0 (D.con _ S).1 (DW _) (by omega)];rw[B4q (D.con _ S).2.1 (((D.con _ S).2.2 z).1 hk.2)];rfl
   ·rw[h2 hk];simp only[R.ok_bind];rw[if_neg (by simp),if_neg (by simp only[AH,AK];omega)];rfl
  ·rw[if_pos (by simpa using U)]
end Go.Am
