/- Written by shrink.py from texts of ours: comments struck, what is not reached left out, names short. -/
import Derived.Test.YtcpfebjhnbjfbaaGreatDoorU15
import Derived.Test.YtcpfebjhnbjfbaaGreatDoorU23
set_option linter.unusedSimpArgs false
set_option linter.unusedVariables false
set_option linter.unusedSectionVars false
set_option linter.defProp false
set_option maxHeartbeats 4000000
set_option maxRecDepth 100000
open Go.Proofs.Tryz
namespace Go.Am
open Go
variable{α:Type}
theorem A65(a:α)(l:List α):idx (a::l) 0=.ok a:=Zo (j:=0) rfl
variable{b:Nat→α→Unit→R (Unit ⊕ Bool)}{p:α→Bool}
theorem A0s(v:Bool):∀(l:List α) (k:Nat),(∀j,∀a∈l,b j a ()=if p a then .ok (.inr v)else .ok (.inl ()))→each b k l ()=.ok (if l.any p then .inr v else .inl ())
 |[],k,_=>rfl
 |a::l,k,z=>by
  rw[Abg,z k a (BM ..)];cases hp:p a with
  |true=>simp[hp]
  |false=>simp only[AE,if_false,R.ok_bind];rw[A0s v l (k+1) λj x A=>z j x (BC _ A)];simp[hp]
theorem A98 (f k i:Nat):inS (sp f k) i=(decide (f≤i)&&decide (i<k)):=by
 unfold inS sp;congr 1
 ·exact FN.2 (by constructor<;>intro h<;>simpa using h)
 ·exact FN.2 (by constructor<;>intro h<;>simpa using h)
theorem Ajm:∀(l:List Bool) (k:Nat) (o:Option Nat) (i:Nat),(∀f,o=some f→f≤k)→Xk (Hs k l o) i=((match o with|some f=>decide (f≤i)&&decide (i<k)|none=>false)||(decide (k≤i)&&l.getD (i-k) false))
 |[],k,none,i,_=>by simp[Hs,Xk]
 |[],k,some f,i,h=>by simp[Hs,Xk,inS,sp]
 |true::l,k,none,i,h=>by
  rw[Hs,Ajm l (k+1) (some k) i (λf hf=>by cases hf;omega)];rw[FB];simp only[BQ,AH,AK,AE,false_or];by_cases z:i=k
  ·subst z;simp
  ·constructor
   ·rintro(h1|⟨h1,h2⟩)
    ·omega
    ·refine⟨by omega,?_⟩;rw[show i-k=(i-(k+1))+1 by omega];simpa using h2
   ·rintro⟨h1,h2⟩;refine .inr ⟨by omega,?_⟩;rw[show i-k=(i-(k+1))+1 by omega]at h2;simpa using h2
 |true::l,k,some f,i,h=>by
  have hf:=h f rfl;rw[Hs,Ajm l (k+1) (some f) i (λg A=>by cases A;omega)];rw[FB];simp only[BQ,AH,AK];by_cases z:i=k
  ·subst z;simp[hf]
  ·constructor
   ·rintro(⟨h1,h2⟩|⟨h1,h2⟩)
    ·exact .inl ⟨h1,by omega⟩
    ·refine .inr ⟨by omega,?_⟩;rw[show i-k=(i-(k+1))+1 by omega];simpa using h2
   ·rintro(⟨h1,h2⟩|⟨h1,h2⟩)
    ·exact .inl ⟨h1,by omega⟩
    ·refine .inr ⟨by omega,?_⟩;rw[show i-k=(i-(k+1))+1 by omega]at h2;simpa using h2
 |false::l,k,none,i,h=>by
  rw[Hs,Ajm l (k+1) none i (λf hf=>by cases hf)];rw[FB];simp only[BQ,AH,AK,AE,false_or];by_cases z:i=k
  ·subst z;constructor
   ·rintro⟨h1,h2⟩;omega
   ·rintro⟨h1,h2⟩;simp at h2
  ·constructor
   ·rintro⟨h1,h2⟩;refine⟨by omega,?_⟩;rw[show i-k=(i-(k+1))+1 by omega];simpa using h2
   ·rintro⟨h1,h2⟩;refine⟨by omega,?_⟩;rw[show i-k=(i-(k+1))+1 by omega]at h2;simpa using h2
 |false::l,k,some f,i,h=>by
  have D:=Ajm l (k+1) none i (λf hf=>by cases hf);rw[Hs];show(inS (sp f k) i||Xk (Hs (k+1) l none) i)=_;rw[D,A98,FB];simp only[BQ,AH,AK,AE,false_or];by_cases z:i=k
  ·subst z;constructor
   ·rintro(⟨h1,h2⟩|⟨h1,h2⟩)<;>omega
   ·rintro(⟨h1,h2⟩|⟨h1,h2⟩)
    ·omega
    ·simp at h2
  ·constructor
   ·rintro(⟨h1,h2⟩|⟨h1,h2⟩)
    ·exact .inl ⟨by omega,by omega⟩
    ·refine .inr ⟨by omega,?_⟩;rw[show i-k=(i-(k+1))+1 by omega];simpa using h2
   ·rintro(⟨h1,h2⟩|⟨h1,h2⟩)
    ·exact .inl ⟨by omega,by omega⟩
    ·refine .inr ⟨by omega,?_⟩;rw[show i-k=(i-(k+1))+1 by omega]at h2;simpa using h2
theorem Bbz (a b:List Span)(i:Nat):Xk (Zr a b) i=(decide (i<1440)&&(Xk a i&&!Xk b i)):=by
 unfold Zr;rw[Ajm _ 0 none i (λf hf=>by cases hf)];simp only[CA,FH,DH,FM,FR];by_cases h:i<1440
 ·rw[CF,BV,DY h];simp[h]
 ·rw[CF,BF (by simp;omega)];simp[h]
noncomputable section
theorem Asf (a b:List Span):W5 a b=.ok (Zr a b):=rfl
def Zx (a:Al):R (Unit ⊕ Bool):=if(a.length:Int)>60 then
(.ok (.inr (false)))
else
(.ok (.inl ()))
def N4 (l:List Al):R Bool:=(each (λ_ a=>λ_=>Zx a) 0 l ()).bind (alt (λ_=>.ok (decide ((l.length:Int)≤70))) (λr=>.ok r))
def Aq4 (a1:Volume)(x:Int):R Int:=.ok (IntKind.wrap .i64 (x+(a1.Closed.length:Int)))
def Ap9 (a2:Sector)(z:Int):R (Int ⊕ Bool):=(N4 a2.Names).bind λr=>if r then
(.ok (.inl (IntKind.wrap .i64 (z+(a2.Volumes.length:Int)))))
else
(.ok (.inr (false)))
def Aql (a3:Config)(z:Int):R (Int ⊕ Bool):=(N4 a3.Names).bind λr1=>if r1 then
(.ok (.inl (IntKind.wrap .i64 (z+(a3.Sectors.length:Int)))))
else
(.ok (.inr (false)))
def Apn (z:Segment)(A:Int):R Int:=.ok (IntKind.wrap .i64 (A+(z.Open.length:Int)))
def Aqi (z:Route)(A:Int):R (Int ⊕ Bool):=(N4 z.Names).bind λr2=>if r2 then
(.ok (.inl (IntKind.wrap .i64 (A+(z.Segments.length:Int)))))
else
(.ok (.inr (false)))
def Aqr (A:Airport)(z:Int):R Int:=.ok (IntKind.wrap .i64 (z+(A.Modes.length:Int)))
def Af9 (a:Airspace):R Bool:=if((((((((decide ((a.Volumes.length:Int)>70))||(decide ((a.Sectors.length:Int)>70)))||(decide ((a.Configs.length:Int)>40)))||(decide ((a.Segments.length:Int)>130)))||(decide ((a.Routes.length:Int)>70)))||(decide ((a.Airports.length:Int)>20)))||(decide ((a.Classes.length:Int)>12)))||(decide ((a.Rules.length:Int)>70)))then
(.ok false)
else
((eachS (λ_ a1=>λx=>Aq4 a1 x) 0 a.Volumes 0).bind ((λx=>(each (λ_ a2=>λA=>Ap9 a2 A) 0 a.Sectors x).bind (alt (λA=>(each (λ_ a3=>λD=>Aql a3 D) 0 a.Configs A).bind (alt (λD=>(eachS (λ_ U=>λO=>Apn U O) 0 a.Segments D).bind ((λO=>(each (λ_ V=>λS=>Aqi V S) 0 a.Routes O).bind (alt (λS=>(eachS (λ_ W=>λz=>Aqr W z) 0 a.Airports S).bind ((λz=>.ok (decide (z≤600))))) (λr=>.ok r))))) (λr=>.ok r))) (λr=>.ok r)))))
def Aj8 (a1:Volume):R (Unit ⊕ Bool):=if(a1.Closed.length:Int)>8 then
(.ok (.inr (false)))
else
(.ok (.inl ()))
def Ap4 (a2:Sector):R (Unit ⊕ Bool):=if((decide ((a2.Volumes.length:Int)>16))||(decide ((a2.Names.length:Int)>16)))then
(.ok (.inr (false)))
else
(.ok (.inl ()))
def Aq5 (a3:Config):R (Unit ⊕ Bool):=if((decide ((a3.Sectors.length:Int)>16))||(decide ((a3.Names.length:Int)>16)))then
(.ok (.inr (false)))
else
(.ok (.inl ()))
def Ajf (z:Segment):R (Unit ⊕ Bool):=if(z.Open.length:Int)>8 then
(.ok (.inr (false)))
else
(.ok (.inl ()))
def Aqc (z:Route):R (Unit ⊕ Bool):=if((decide ((z.Segments.length:Int)>10))||(decide ((z.Names.length:Int)>10)))then
(.ok (.inr (false)))
else
(.ok (.inl ()))
def Aiz (z:Airport):R (Unit ⊕ Bool):=if(z.Modes.length:Int)>6 then
(.ok (.inr (false)))
else
(.ok (.inl ()))
def Afx (a:Airspace):R Bool:=if((((((((decide ((a.Volumes.length:Int)>12))||(decide ((a.Sectors.length:Int)>12)))||(decide ((a.Configs.length:Int)>8)))||(decide ((a.Segments.length:Int)>16)))||(decide ((a.Routes.length:Int)>10)))||(decide ((a.Airports.length:Int)>8)))||(decide ((a.Classes.length:Int)>6)))||(decide ((a.Rules.length:Int)>12)))then
(.ok false)
else
((each (λ_ a1=>λ_=>Aj8 a1) 0 a.Volumes ()).bind (alt (λ_=>(each (λ_ a2=>λ_=>Ap4 a2) 0 a.Sectors ()).bind (alt (λ_=>(each (λ_ a3=>λ_=>Aq5 a3) 0 a.Configs ()).bind (alt (λ_=>(each (λ_ z=>λ_=>Ajf z) 0 a.Segments ()).bind (alt (λ_=>(each (λ_ A=>λ_=>Aqc A) 0 a.Routes ()).bind (alt (λ_=>(each (λ_ D=>λ_=>Aiz D) 0 a.Airports ()).bind (alt (λ_=>.ok true) (λr=>.ok r))) (λr=>.ok r))) (λr=>.ok r))) (λr=>.ok r))) (λr=>.ok r))) (λr=>.ok r)))
def Aao (a:Airspace)(r:Rule):R Bool:=if((decide (r.Class<0))||(decide (r.Class≥(a.Classes.length:Int))))then
(.ok false)
else
(if(r.Kind==1)then
(.ok ((((((decide (r.Airport≥0))&&(decide (r.Airport<(a.Airports.length:Int))))&&(r.N==0))&&(decide (r.Hours.From≥0)))&&(decide (r.Hours.From<r.Hours.To)))&&(decide (r.Hours.To≤1440))))
else
(if(((r.Airport !=0)||(r.Hours.From !=0))||(r.Hours.To !=0))then
(.ok false)
else
(if(r.Kind==2)then
(.ok (r.N==0))
else
(if(r.Kind==3)then
(.ok ((decide (r.N≥1))&&(decide (r.N≤8))))
else
(if(r.Kind==4)then
(.ok (((decide (r.N≥0))&&(decide (r.N≤60)))&&((Int.tmod r.N 10)==0)))
else
(.ok false))))))
def Ad9 (a:Airspace)(a1:Rule):R (Unit ⊕ Int):=(Aao a a1).bind λr=>if r then
(.ok (.inl ()))
else
(.ok (.inr (130)))
def Ae8 (a:Airspace):R Int:=if(a.Rules.length:Int)>64 then
(.ok 130)
else
((each (λ_ a1=>λ_=>Ad9 a a1) 0 a.Rules ()).bind (alt (λ_=>.ok 0) (λr=>.ok r)))
def Afd (a:Airspace):R Bool:=(if(((decide ((a.Rules.length:Int)≤9))&&(decide ((a.Classes.length:Int)≤20)))&&(decide ((a.Airports.length:Int)≤20)))then R.ok true else(Ae8 a).bind λr=>R.ok ((r !=0)&&(decide ((a.Rules.length:Int)≤80)))).bind (λ(b:Bool)=>.ok b)
def Aab (a:Airspace):R Bool:=(Af9 a).bind λr=>(if r then(Af5 a).bind λr1=>R.ok r1 else R.ok false).bind (λ(b:Bool)=>(if b then(Afx a).bind λr2=>R.ok r2 else R.ok false).bind (λ(b1:Bool)=>(if b1 then(Afd a).bind λz=>R.ok z else R.ok false).bind (λ(A:Bool)=>.ok (((A&&(decide ((a.Routes.length:Int)≤8)))&&(decide ((a.Classes.length:Int)≤4)))&&(decide ((a.Airports.length:Int)≤4))))))
end
end Go.Am
namespace Go.Am
open Go Go.Proofs Go.Proofs.Tryz
attribute [local irreducible] WR WO WP WU Nu
instance Bcb (l):CP prog 112 [.L 1 rS l] (N4 l) AV.bool:=by
 refine ci 19 0 func112 (N4.eq_1 _) λh0 ids z A=>go ?_;refine Ph [0] 3 (λ_=>[]) (λ_=>[]) ?_ ?_
 ·rintro j a _ D _ W _;refine Ae (Zx.eq_1 _)<|gc
 rintro _;exact gc
instance Bj8 (a):CP prog 26 [.A (Aj a)] (Af9 a) AV.bool:=by
 refine ci 178 1 func26 (Af9.eq_1 _) λh0 ids hI hF=>go ?_;intro g _;refine Bo O (λU=>?_) (λU=>?_)
 ·exact gc
 refine go ?_;refine Ui [1] 4 (λx=>[(3,.I x)]) (λx=>[Ab g 8 [Aj a]]) ?_ ?_
 ·rintro j a1 x V _ W _;refine Ae (Aq4.eq_1 _ _)<|gc
 rintro x;refine go ?_;intro _;refine Ph [1] 5 (λA=>[(3,.I A)]) (λA=>[Ab g 8 [Aj a]]) ?_ ?_
 ·rintro j1 a2 A X _ W _;refine Ae (Ap9.eq_1 _ _)<|gc
 rintro A;refine go ?_;intro _;refine Ph [1] 6 (λD=>[(3,.I D)]) (λD=>[Ab g 8 [Aj a]]) ?_ ?_
 ·rintro j2 a3 D Y _ W _;refine Ae (Aql.eq_1 _ _)<|gc
 rintro D;refine go ?_;intro _;refine Ui [1] 7 (λR=>[(3,.I R)]) (λR=>[Ab g 8 [Aj a]]) ?_ ?_
 ·rintro j3 a4 R Z _ W _;refine Ae (Apn.eq_1 _ _)<|gc
 rintro R;refine go ?_;intro _;refine Ph [1] 8 (λS=>[(3,.I S)]) (λS=>[Ab g 8 [Aj a]]) ?_ ?_
 ·rintro j4 a5 S aa _ W _;refine Ae (Aqi.eq_1 _ _)<|gc
 rintro S;refine go ?_;intro _;refine Ui [1] 9 (λz=>[(3,.I z)]) (λz=>[Ab g 8 [Aj a]]) ?_ ?_
 ·rintro j5 a6 z ab _ W _;refine Ae (Aqr.eq_1 _ _)<|gc
 rintro z;exact gc
instance Bkg (a):CP prog 28 [.A (Aj a)] (Afx a) AV.bool:=by
 refine ci 175 1 func28 (Afx.eq_1 _) λh0 ids X Y=>go ?_;intro g _;refine Bo O (λz=>?_) (λz=>?_)
 ·exact gc
 refine go ?_;refine Ph [1] 3 (λ_=>[]) (λ_=>[Ab g 8 [Aj a]]) ?_ ?_
 ·rintro j a1 _ A _ W _;refine Ae (Aj8.eq_1 _)<|gc
 rintro _;refine go ?_;intro _;refine Ph [1] 4 (λ_=>[]) (λ_=>[Ab g 8 [Aj a]]) ?_ ?_
 ·rintro Z a2 _ D _ W _;refine Ae (Ap4.eq_1 _)<|gc
 rintro _;refine go ?_;intro _;refine Ph [1] 5 (λ_=>[]) (λ_=>[Ab g 8 [Aj a]]) ?_ ?_
 ·rintro j2 a3 _ R _ W _;refine Ae (Aq5.eq_1 _)<|gc
 rintro _;refine go ?_;intro _;refine Ph [1] 6 (λ_=>[]) (λ_=>[Ab g 8 [Aj a]]) ?_ ?_
 ·rintro j3 a4 _ S _ W _;refine Ae (Ajf.eq_1 _)<|gc
 rintro _;refine go ?_;intro _;refine Ph [1] 7 (λ_=>[]) (λ_=>[Ab g 8 [Aj a]]) ?_ ?_
 ·rintro j4 a5 _ U _ W _;refine Ae (Aqc.eq_1 _)<|gc
 rintro _;refine go ?_;intro _;refine Ph [1] 8 (λ_=>[]) (λ_=>[Ab g 8 [Aj a]]) ?_ ?_
 ·rintro j5 a6 _ V _ W _;refine Ae (Aiz.eq_1 _)<|gc
 rintro _;exact gc
instance Bi4 (a r):CP prog 216 [.A (Aj a),.A (Bk r)] (Aao a r) AV.bool:=by
 refine ci 104 2 func216 (Aao.eq_1 _ _) λh0 ids Z hF=>go ?_;intro g g1;refine Bo O (λY=>?_) (λY=>?_)
 ·exact gc
 refine go ?_;refine Bo O (λS=>?_) (λS=>?_)
 ·exact gc
 refine go ?_;refine Bo O (λU=>?_) (λU=>?_)
 ·exact gc
 refine go ?_;refine Bo O (λV=>?_) (λV=>?_)
 ·exact gc
 refine go ?_;refine Bo O (λW=>?_) (λW=>?_)
 ·exact gc
 refine go ?_;refine Bo O (λX=>?_) (λX=>?_)
 ·refine Ah<|Ao 4 [1] [(93,.B (decide (r.N≥0)))]<|Oc 4 93 97 [3] (.B ((decide (r.N≥0))&&(decide (r.N≤60)))) O ?_ (λz _ A=>?_) (λz _ A=>?_)
  ·refine Bp (.B ((decide (r.N≥0))&&(decide (r.N≤60))))<|Oc 5 98 103 [] (.B (((decide (r.N≥0))&&(decide (r.N≤60)))&&((Int.tmod r.N 10)==0))) O ?_ (λD _ R=>?_) (λD _ R=>?_)
   ·exact gc
   ·refine Ao 2 [1] [(100,.I r.N)]<|F5 (tj:=98) (.I (Int.tmod r.N 10)) O O O (Bb O O (Amc O (by decide)))<|gc
   exact gc
  ·refine Ao 4 [1] [(97,.B (decide (r.N≤60)))]<|Ib A (.r (.cons (Afb z) .nil))
  refine Ao 4 [] [(97,.B false)]<|Ib A (.r (.cons (Afc z) .nil))
 exact gc
instance Bhm (a):CP prog 113 [.A (Aj a)] (Ae8 a) (.int .i64):=by
 refine ci 23 1 func113 (Ae8.eq_1 _) λh0 ids D R=>go ?_;intro g _;refine E4 O (λz=>?_) (λz=>?_)
 ·exact gc
 refine go ?_;refine Ph [1] 3 (λ_=>[]) (λ_=>[Ab g 8 [Aj a]]) ?_ ?_
 ·rintro j a1 _ A _ W _;refine Ae (Ad9.eq_1 _ _)<|gc
 rintro _;exact gc
instance Blc (a):CP prog 29 [.A (Aj a)] (Afd a) AV.bool:=by refine ci 30 1 func29 (Afd.eq_1 _) λh0 ids z A=>gc
instance Bir (a):CP prog 9 [.A (Aj a)] (Aab a) AV.bool:=by refine ci 35 1 func9 (Aab.eq_1 _) λh0 ids z A=>gc
end Go.Am
namespace Go.Am
open Go
theorem A3b (k:Int)(h:0≤k∧k<5):Ap (#v[271,272,273,275,276]:Vector Nat 5) k.toNat 0∈[271,272,273,275,276]:=by
 obtain⟨n,rfl⟩:=CE h.1;have z:n<5:=by omega
 match n,z with
 |0,_=>decide
 |1,_=>decide
 |2,_=>decide
 |3,_=>decide
 |4,_=>decide
theorem Az6 (a:Airspace)(r:Rule):As (Vd r a ({fValid:=(#v[271,272,273,275,276]:(Vector Nat 5))}:T310)) T1:=by
 unfold Vd;refine AN (λ_=>.ok trivial) λh1=>AN (λ_=>.ok trivial) λh2=>AN (λ_=>.ok trivial) λV=>AN (λ_=>.ok trivial) λW=>?_;simp only[AK]at h1 h2;have hk:0≤r.Kind∧r.Kind<5:=by omega
 refine CS hk ?_;have z:=A3b r.Kind hk;simp only[AM,BU,or_false]at z;refine AN (λ_=>by unfold Y1;exact .ok trivial) λA=>AN (λ_=>?_) λD=>AN (λ_=>?_) λO=>AN (λ_=>?_) λS=>AN (λ_=>?_) λU=>?_
 ·unfold Zs;rw[R.bind_assoc];refine BO (p:=T1) (AN (λ_=>(Aoa _).bind λe _=>.ok trivial) λ_=>.ok trivial) λb _=>.ok trivial
 ·unfold Zd Q5;exact .ok trivial
 ·unfold Zf Q5;exact .ok trivial
 ·unfold Zj Q5;exact .ok trivial
 ·rcases z with h|h|h|h|h
  ·exact absurd h A
  ·exact absurd h D
  ·exact absurd h O
  ·exact absurd h S
  ·exact absurd h U
theorem Aop (a:Airspace):As (Tv a) λe=>e=0→a.Rules.length≤64:=by
 unfold Tv Ae3;simp only[R.ok_bind];refine BO (p:=λb=>b=false→a.Rules.length≤64) (AN (λ_=>.ok λh=>by cases h) λz=>?_) λb A=>AN (λ_=>.ok λh=>by cases h) λh=>.ok λ_=>A (by simpa using h);simp only[AK]at z;unfold Jn Lq;refine BO (p:=T1) (BO (Am9 a.Rules λj r _=>?_) λi _=>.ok trivial) λb _=>.ok λ_=>by omega
 unfold Oy;exact(Az6 a r).bind λb _=>AN (λ_=>.ok rfl) λ_=>.ok trivial
theorem Alf (a:Airspace)(c:Int):As (Tx a c) λe=>e=0→a.Rules.length≤64:=by unfold Tx;exact(Aop a).bind λe z=>AN (λh=>.ok λh0=>z h0) λh=>AN (λ_=>.ok λh=>by cases h) λ_=>.ok λ_=>z (by simpa using h)
theorem Am5 (a:Airspace)(k c o:Int):As (Ru a k c o) T1:=by unfold Ru Kb;refine BO (Am9 a.Rules λj r _=>?_) λi hi=>AN (λ_=>.ok trivial) λh=>FE (by omega) (by omega) λx _=>.ok trivial;unfold M9 Xn;simp only[R.ok_bind];exact AN (λ_=>.ok rfl) λ_=>.ok trivial
theorem A6i (a:Airspace)(c:Int):As (Yi a c) T1:=by unfold Yi;exact(Alf a c).bind λe _=>AN (λ_=>.ok trivial) λ_=>(Am5 _ _ _ _).bind λn _=>.ok trivial
theorem A3u (a:Airspace)(c:Int):As (Wu a c) T1:=by unfold Wu;exact(Alf a c).bind λe _=>AN (λ_=>.ok trivial) λ_=>(Am5 _ _ _ _).bind λn _=>(Am5 _ _ _ _).bind λn _=>.ok trivial
def unc (l:List Span):Nat:=(List.range 1440).countP λi=>!Xk l i
theorem Atp {p q:Nat→Bool}{x:Nat}:∀(l:List Nat),(∀i,q i=true→p i=true)→x∈l→p x=true→q x=false→l.countP q<l.countP p
 |[],_,A,_,_=>by cases A
 |a::l,h,A,hp,D=>by
  have O:l.countP q≤l.countP p:=List.countP_mono_left λi _=>h i;rw[List.countP_cons,List.countP_cons];rcases AM.1 A with rfl|A
  ·rw[hp,D];simp;omega
  ·have:=Atp l h A hp D;have:(if q a=true then 1 else 0)≤(if p a=true then 1 else 0):=by
    by_cases z:q a=true
    ·rw[if_pos z,if_pos (h a z)];exact AI _
    ·rw[if_neg z];exact CA _
   omega
theorem A2r (l:List Span):unc l≤1440:=by unfold unc;exact BT HD (by simp)
variable{l:List Span}
theorem Bkp{s:Span}{f:Nat}(hf:f<1440)(z:Xk l f=false)(A:inS s f=true):unc (l++[s])<unc l:=by
 unfold unc;refine Atp _ (λi h=>?_) (ED.2 hf) (by simp[z]) ?_
 ·unfold Xk at h ⊢;rw[List.any_append]at h;cases D:l.any λs=>inS s i with
  |false=>rfl
  |true=>rw[D]at h;simp at h
 ·unfold Xk;rw[List.any_append];simp[A]
theorem Ait:∀(l:List Bool) (k:Nat) (o:Option Nat),(∀f,o=some f→f<k)→∀s∈Hs k l o,∃f t,s=sp f t∧f<t
 |[],k,none,_,s,z=>by cases z
 |[],k,some f,h,s,z=>by rw[Hs,AY]at z;exact⟨f,k,z,h f rfl⟩
 |true::l,k,none,h,s,z=>Ait l (k+1) (some k) (λf hf=>by cases hf;omega) s z
 |true::l,k,some g,h,s,z=>Ait l (k+1) (some g) (λf hf=>by cases hf;have:=h g rfl;omega) s z
 |false::l,k,none,h,s,z=>Ait l (k+1) none (λf hf=>by cases hf) s z
 |false::l,k,some g,h,s,z=>by
  rw[Hs]at z;rcases AM.1 z with rfl|z
  ·exact⟨g,k,rfl,h g rfl⟩
  ·exact Ait l (k+1) none (λf hf=>by cases hf) s z
theorem Bat{a:List Span}{r:Span}{rest:List Span}(h:Zr a l=r::rest):∃f:Nat,r.From=(f:Int)∧f<1440∧Xk l f=false:=by
 obtain⟨f,t,rfl,A⟩:=Ait _ 0 none (λf hf=>by cases hf) r (by
  have:r∈Zr a l:=by rw[h];simp
  exact this)
 refine⟨f,rfl,?_⟩;have z:Xk (Zr a l) f=true:=by rw[h];unfold Xk;rw[HV,A98];simp[A]
 rw[Bbz]at z;simp only[AH,AK,CR]at z;exact⟨z.1,z.2.2⟩
theorem A2q (c s:List Span)(hc:c.length≤100000):As (Zn c s) λn=> -1≤n∧n≤1440:=by
 unfold Zn P4;rw[if_pos (Zl (by omega))];simp only[R.ok_bind];refine BO (p:=λn=> -1≤n∧n≤1440) (Aa1 (λs=>unc s.2) (λt=>∃m:Nat,t.1=(m:Int)∧m+unc t.2≤1440∧t.2.length+unc t.2≤200000) (λn=> -1≤n∧n≤1440) (λt ht=>?_) 1440 _ (A2r _) ⟨0,rfl,by simp only;have:=A2r c;omega,by simp only;have:=A2r c;omega⟩) λn W=>.ok W;obtain⟨n,l1⟩:=t;obtain⟨m,rfl,X,Y⟩:=ht;simp only[Ct];simp only at X Y;unfold W0;rw[Asf];simp only[R.ok_bind];cases z:Zr [({From:=0,To:=1440}:Span)] l1 with
 |nil=>simp only[DB];exact CS rfl (.ok ⟨by omega,by omega⟩)
 |cons r rest=>
  obtain⟨f,Z,D,O⟩:=Bat z;refine AN (λ_=>.ok ⟨by omega,by omega⟩) λ_=>?_;refine BO (p:=λv=>v.2=0∨(v.1≤(f:Int)∧(f:Int)<v.2)) ((My (λ_ (v:Int×Int)=>v.2=0∨(v.1≤(f:Int)∧(f:Int)<v.2)) s 0 (0,0) (λj a v _ A=>?_) (.inl rfl))) λv A=>?_
  ·obtain⟨U,V⟩:=v;simp only[Ct];unfold Ahh;rw[A65];simp only[R.ok_bind];refine AN (λh1=>?_) λ_=>by unfold Sp;exact AN (λh=>by cases h) λ_=>.ok A
   unfold Sp;refine AN (λh2=>.ok (.inr ⟨?_,?_⟩)) λ_=>.ok A
   ·simp only[AK]at h1;simp only;omega
   ·simp only[AK]at h2;simp only;split at h2<;>omega
  ·obtain⟨U,V⟩:=v;simp only[Ct];refine AN (λ_=>.ok ⟨by omega,by omega⟩) λh0=>?_;simp only[BN]at h0;rcases A with A|⟨h1,h2⟩
   ·exact absurd A h0
   simp only at h1 h2;have S:=Bkp (s:={From:=U,To:=V}) D O (by unfold inS;simp[h1,h2]);refine CS (Zl (by simp only[AB];omega)) (.ok ⟨⟨m+1,?_,?_,?_⟩,?_⟩)
   ·simp only;rw[Ok (by omega) (by omega)];omega
   ·simp only;omega
   ·simp only[AJ,AB];omega
   ·exact S
def Uf (l:List Rule)(s:List Int):Prop:=∀x∈s,0≤x∧x<(l.length:Int)
theorem Ajw {l:List Rule}{s:List Int}(A:Uf l s)(D:s.length≤100000):As (K8 s l) λr=>r.length=s.length:=by unfold K8;refine BO (p:=λ(r:List Span)=>r.length=s.length) ((My (λk (r:List Span)=>r.length=k) s 0 [] (λj a r z hr=>?_) rfl).mono λr hr=>by simpa using hr) λr hr=>.ok hr;have O:j<s.length:=(CI.1 z).1;obtain⟨h1,h2⟩:=A a (AP z);unfold Z2;refine FE h1 h2 λy _=>CS (Zl (by simp only[AB];omega)) (.ok ?_);show(r++[y.Hours]).length=_;rw[AJ,AB];omega
theorem A8p {l:List Rule}{s:List Int}(U:Uf l s)(V:s.length≤1000):As (Aan l s) T1:=by
 unfold Aan;refine(Ajw U (by omega)).bind λr hr=>(A2q [] r (by simp)).bind λmany hm=>AN (λ_=>.ok trivial) λh0=>?_;refine BO (p:=T1) (Aa1 (λt=>many.toNat-t.2.length) (λt=>t.1.length≤1000∧Uf l t.1∧Uf l t.2∧(t.2.length:Int)≤many) T1 (λt ht=>?_) many.toNat (s,[]) (by simp) ⟨V,U,(λx O=>absurd O (by simp)),by simp only[DB];omega⟩) λ_ _=>.ok trivial;obtain⟨s2,set⟩:=t;obtain⟨t1,S,W,t4⟩:=ht;simp only at t1 S W t4;simp only[Ct];unfold Vh;refine AN (λaa=>?_) λ_=>.ok trivial;refine GT (I:=T1) (J:=λ(e:List Int×List Int)=>e.1.length≤1000∧Uf l e.1∧Uf l e.2∧e.2.length=set.length+1) ((Lu (λ_ (v:List Int×List Int)=>v=(s2,set)) (λ(e:List Int×List Int)=>e.1.length≤1000∧Uf l e.1∧Uf l e.2∧e.2.length=set.length+1) s2 0 (s2,set) (λj a v O hv=>?_) rfl).mono λr hr=>by
   cases r with
   |inl v=>trivial
   |inr e=>exact hr) (λv _=>.ok trivial) λe he=>?_
 ·subst hv;have hj:j<s2.length:=(CI.1 O).1;simp only[Ct,AG];unfold Aen Rl;rw[if_pos (Zl (by omega))];simp only[R.ok_bind];have hw:IntKind.wrap .i64 ((j:Int)+1)=((j+1:Nat):Int):=by rw[Ok (by omega) (by omega)];omega
  have A:Uf l (set++[a]):=λx D=>by
   rcases BG.1 D with h|h
   ·exact W x h
   ·rw[AY.1 h];exact S a (AP O)
  have z:Uf l (s2.drop (Int.toNat (IntKind.wrap .i64 ((j:Int)+1)))):=λx D=>S x (BW D);have hdl:(s2.drop (Int.toNat (IntKind.wrap .i64 ((j:Int)+1)))).length≤1000:=by rw[BL];omega
  refine CS (Zl (by simp only[AB];omega)) (CS (by rw[hw];omega) ?_);refine(Ajw A (by rw[AJ,AB];omega)).bind λr2 h2=>(Ajw z (by omega)).bind λr3 h3=>?_;refine(A2q r2 r3 (by rw[h2,AJ,AB];omega)).bind λn V=>?_;refine AN (λ_=>CS (by rw[hw];omega) (.ok ⟨hdl,z,A,by rw[AJ,AB]⟩)) λ_=>.ok rfl
 ·obtain⟨s4,X⟩:=e;obtain⟨Y,Z,e3,e4⟩:=he;simp only at Y Z e3 e4;simp only[Ct];unfold Zi;refine .ok ⟨⟨Y,Z,e3,by simp only;omega⟩,by simp only;omega⟩
theorem Azr (a:Int):Ss a=.ok false:=by unfold Ss;simp
theorem Asj (a b:Int):As (Ly a b) T1:=by unfold Ly;rw[Azr,Azr];simp only[R.ok_bind];exact AN (λh=>by cases h) λ_=>AN (λh=>by cases h) λ_=>AN (λ_=>.ok trivial) λ_=>AN (λ_=>.ok trivial) λ_=>.ok trivial
theorem A0f (s t:List Int):As (Lb s t) T1:=by unfold Lb;refine GT (I:=T1) (J:=T1) ((Lu (λ_ _=>True) T1 s 0 () (λj a u z _=>?_) trivial).mono λr hr=>by cases r<;>trivial) (λ_ _=>AN (λ_=>.ok trivial) λ_=>.ok trivial) λ_ _=>.ok trivial;unfold U6;refine AN (λ_=>.ok trivial) λh=>FE (by omega) (by omega) λa1 _=>(Asj _ _).bind λc _=>AN (λ_=>.ok trivial) λ_=>.ok trivial
theorem Bld (l:List Int):As (Y8 l) T1:=by unfold Y8;refine GT (I:=T1) (J:=T1) ((Lu (λ_ _=>True) T1 l 0 () (λj a u z _=>?_) trivial).mono λr hr=>by cases r<;>trivial) (λ_ _=>.ok trivial) λ_ _=>.ok trivial;unfold Ag8;exact AN (λ_=>.ok trivial) λ_=>.ok trivial
theorem Bdr (set s:List Int):As (Qg set s) T1:=by
 unfold Qg;have z:∀b,As (G7 set s b) T1:=λb=>by unfold G7;exact AN (λ_=>.ok trivial) λ_=>.ok trivial
 exact AN (λ_=>AN (λ_=>z _) λ_=>(Asj _ _).bind λ_ _=>(A0f _ _).bind λ_ _=>(Bld _).bind λ_ _=>z _) λ_=>z _
theorem A96 (set:List Int):As (P2 set) T1:=by
 unfold P2;have z:∀b,As (G5 set b) T1:=λb=>by unfold G5;exact AN (λ_=>.ok trivial) λ_=>.ok trivial
 exact AN (λ_=>AN (λ_=>z _) λh=>absurd rfl h) λ_=>z _
theorem A3l (a b:Rule):As (Wl a b) T1:=by unfold Wl;exact AN (λ_=>.ok trivial) λ_=>AN (λ_=>.ok trivial) λ_=>.ok trivial
theorem Bea (a:Airspace)(x y:Int)(z:0≤x∧x<(a.Rules.length:Int))(A:0≤y∧y<(a.Rules.length:Int)):As (Tj a x y) T1:=by unfold Tj;exact FE z.1 z.2 λp _=>FE A.1 A.2 λq _=>(A3l _ _).bind λb _=>AN (λ_=>(A96 _).bind λ_ _=>.ok trivial) λ_=>.ok trivial
theorem Ba4 {ε:Type}(b:Nat)(D:b≤1048576)(F:Int→Int→Unit→R (Unit ⊕ ε))(A:∀x y,0≤x∧x<(b:Int)→0≤y∧y<(b:Int)→As (F x y ()) T1):As (Q8 (b:Int) F ()) T1:=by
 unfold Q8;refine BO (p:=T1) (Aa1 (λs=>b-s.1.toNat) (λs=>∃m:Nat,s.1=(m:Int)) T1 (λs z=>?_) b _ (IG _ _) ⟨0,rfl⟩) λr _=>by
  cases r with
  |inl s=>exact .ok trivial
  |inr e=>exact .ok trivial
 obtain⟨x,u⟩:=s;obtain⟨m,rfl⟩:=z;simp only[Ct];unfold Qh;refine AN (λO=>?_) λ_=>.ok trivial;have hw:∀n:Nat,n<b→IntKind.wrap .i64 ((n:Int)+1)=((n+1:Nat):Int):=λn S=>by rw[Ok (by omega) (by omega)];omega
 rw[hw m (by omega)];refine BO (p:=T1) (Aa1 (λs=>b-s.1.toNat) (λs=>∃m:Nat,s.1=(m:Int)) T1 (λs z=>?_) b _ (IG _ _) ⟨m+1,rfl⟩) λr _=>?_
 ·obtain⟨y,v⟩:=s;obtain⟨q,rfl⟩:=z;simp only[Ct];unfold Qb;refine AN (λU=>?_) λ_=>.ok trivial;refine(A (m:Int) (q:Int) ⟨by omega,by omega⟩ ⟨by omega,by omega⟩).bind λr _=>?_;cases r with
  |inl s=>exact .ok ⟨⟨q+1,hw q (by omega)⟩,by simp only[hw q (by omega),AX];omega⟩
  |inr e=>exact .ok trivial
 ·cases r with
  |inl s=>simp only[alt];unfold Qi;exact .ok ⟨⟨m+1,hw m (by omega)⟩,by simp only[hw m (by omega),AX];omega⟩
  |inr e=>exact .ok trivial
theorem A7e (a:Airspace):As (Xz a) T1:=by
 unfold Xz;refine(Aop a).bind λe S=>AN (λ_=>.ok trivial) λh=>?_;have D:=S (by simpa using h);unfold Wy;simp only[R.ok_bind];have O:∀o,As (O9 a o) T1:=λo=>by
  unfold O9;refine BO (p:=T1) (My (λ_ _=>True) a.Classes 0 o (λj c U _ _=>?_) trivial) λ_ _=>.ok trivial;unfold Ack;refine BO (p:=T1) (My (λ_ _=>True) a.Airports 0 U (λZ c1 o3 _ _=>?_) trivial) λ_ _=>.ok trivial;unfold Ada;refine BO (p:=λ(s:List Int)=>Uf a.Rules s∧s.length≤1000) ((My (λk (s:List Int)=>Uf a.Rules s∧s.length≤k) a.Rules 0 [] (λV a7 s A z=>?_) ⟨(λx A=>absurd A (by simp)),AI _⟩).mono λs z=>⟨z.1,by have:=z.2;omega⟩) λs z=>(A8p z.1 z.2).bind λr3 _=>(Bdr _ _).bind λ_ _=>.ok trivial;have W:V<a.Rules.length:=(CI.1 A).1;have X:=z.2;unfold Acw;refine AN (λ_=>CS (Zl (by simp only[AB];omega)) (.ok ⟨λx A=>?_,?_⟩)) λ_=>.ok ⟨z.1,by omega⟩
  ·rcases BG.1 A with h|h
   ·exact z.1 x h
   ·rw[AY.1 h];omega
  ·rw[AJ,AB];omega
 refine BO (p:=T1) (Ba4 a.Rules.length (by omega) _ λx y A Y=>As.np (Bea a x y A Y)) λr _=>?_;cases r with
 |inl u=>exact O _
 |inr o=>exact O _
def Alu (a:Airspace)(n:Int):Option (List Span):=(Aat a n).map A01
variable{α:Type}
def Aj9:Option (List α)→List α×Int
 |some l=>(l,0)
 |none=>([],1)
def unk:PV:=⟨220,.unit⟩
theorem Aqe(F:R α)(els:PV→R α):(R.pan unk).catch' (Kw 220 F els)=F:=Yh
variable{n:Int}
theorem Aoe{l:List α}{x:α}(h0:0≤n)(h:l[n.toNat]?=some x):idx l n=.ok x:=by unfold idx;rw[if_pos h0,h]
theorem Atg{l:List α}(h:(l.length:Int)≤n):l[n.toNat]?=none:=BF (by omega)
theorem As0{l:List α}(h0:0≤n)(h:n<(l.length:Int)):∃x,l[n.toNat]?=some x:=⟨_,AA (by omega)⟩
variable{a:Airspace}
theorem Bbe(h:n<0):Aat a n=none:=by unfold Aat;rw[if_neg (by omega)]
theorem A8w(h0:0≤n)(h:(a.Segments.length:Int)≤n):Aat a n=none:=by unfold Aat;rw[if_pos h0,Atg h]
theorem Bdf{s:Segment}(h0:0≤n)(hs:a.Segments[n.toNat]?=some s):Aat a n=if 0≤s.Volume then(match a.Volumes[s.Volume.toNat]? with|none=>none|some v=>some (s,v))else none:=by unfold Aat;rw[if_pos h0,hs];rfl
theorem At7{p:Segment×Volume}(h:Aat a n=some p):0≤n∧a.Segments[n.toNat]?=some p.1∧0≤p.1.Volume∧a.Volumes[p.1.Volume.toNat]?=some p.2:=by
 unfold Aat at h;split at h
 ·rename_i h0;split at h
  ·cases h
  ·rename_i s A;split at h
   ·rename_i D;split at h
    ·cases h
    ·rename_i v z;cases h;exact⟨h0,A,D,z⟩
   ·cases h
 ·cases h
theorem Bjg (s:Segment):(if((s.Open.length:Int)==0)=true then([{From:=0,To:=1440}]:List Span)else s.Open)=opn s:=by
 unfold opn;by_cases h:s.Open.length=0
 ·simp[h]
 ·rw[if_neg h,if_neg (by simpa using h)]
theorem Bja (a:Airspace)(s:Segment)(l:List Span)(v:Volume)(h0:0≤s.Volume)(z:a.Volumes[s.Volume.toNat]?=some v):Lg a s l=.ok (Zr l v.Closed):=by unfold Lg;rw[Aoe h0 z,R.ok_bind,Asf];rfl
theorem Atx (a:Airspace)(n:Int):Pd a n=match Alu a n with|some l=>.ok l|none=>.pan unk:=by
 unfold Pd Alu;by_cases h0:0≤n;case neg=>rw[Bbe (by omega),if_pos (by simp;omega)];rfl
 by_cases h1:n<(a.Segments.length:Int);case neg=>rw[A8w h0 (by omega),if_pos (by simp;omega)];rfl
 obtain⟨s,z⟩:=As0 h0 h1;rw[if_neg (by simp;omega),Aoe h0 z,R.ok_bind,Bdf h0 z];by_cases h2:0≤s.Volume;case neg=>rw[if_pos (by simp;omega),if_neg h2];rfl
 by_cases D:s.Volume<(a.Volumes.length:Int);case neg=>rw[if_pos (by simp;omega),if_pos h2,Atg (by omega)];rfl
 obtain⟨v,A⟩:=As0 h2 D;rw[if_neg (by simp;omega),if_pos h2,A];simp only[BB,A01];rw[←Bjg];split<;>rw[Bja a s _ v h2 A]<;>simp_all
variable{β:Type}{f:α→Option β}
theorem A1h:∀{l:List α} {r:List β},Alw f l=some r→r.length=l.length
 |[],r,h=>by cases h;rfl
 |x::l,r,h=>by
  unfold Alw at h;split at h
  ·rename_i y z A hr;cases h;simp[A1h hr]
  ·cases h
variable{σ:Type}
theorem Bhc(a:Airspace)(b:Leg→σ→R σ)(n:Int)(s:σ):Im a b n s=match Aid a n with|some g=>b g s|none=>.pan unk:=by
 unfold Im;rw[Atx];unfold Alu Aid;cases z:Aat a n with
 |none=>rfl
 |some p=>obtain⟨h0,h1,h2,A⟩:=At7 z;simp only[BB,R.ok_bind];rw[Aoe h0 h1,R.ok_bind,R.bind_ok]
theorem Aw3(a:Airspace)(b:Leg→σ→R σ)(h:Leg→σ→σ)(I:σ→Nat→Prop)(z:∀g s n,I s (n+1)→I (h g s) n∧b g s=.ok (h g s)):∀(l:List Int) (k:Nat) (s:σ),I s l.length→
  eachS (λ_ a1=>λs=>Im a b a1 s) k l s=match Alw (Aid a) l with|some ls=>.ok (ls.foldl (λs g=>h g s) s)|none=>.pan unk
 |[],k,s,_=>rfl
 |n::l,k,s,A=>by
  rw[Ic,Bhc];unfold Alw;cases D:Aid a n with
  |none=>rfl
  |some g=>obtain⟨h1,h2⟩:=z g s l.length A;simp only[h2,R.ok_bind];rw[Aw3 a b h I z l (k+1) _ h1];cases Alw (Aid a) l<;>rfl
theorem Awy(a:Airspace)(r:Int)(b:Leg→σ→R σ)(h:Leg→σ→σ)(I:σ→Nat→Prop)(A:∀g s n,I s (n+1)→I (h g s) n∧b g s=.ok (h g s))(s:σ)(D:∀rt,a.Routes[r.toNat]?=some rt→I s rt.Segments.length):
  L6 r a b s=match Wj a r with|some ls=>.ok (ls.foldl (λs g=>h g s) s)|none=>.pan unk:=by
 unfold L6 Wj
 by_cases h0:0≤r
 case neg=>rw[if_pos (by simp;omega),if_neg h0];rfl
 rw[if_pos h0]
 by_cases h1:r<(a.Routes.length:Int)
 case neg=>rw[if_pos (by simp;omega),Atg (by omega)];rfl
 obtain⟨rt,z⟩:=As0 h0 h1
 rw[if_neg (by simp;omega),Aoe h0 z,R.ok_bind,z,Aw3 a b h I A _ 0 s (D rt z)]
 simp only
 cases Alw (Aid a) rt.Segments<;>rfl
theorem At6:∀(l s:List α),l.foldl (λs g=>s++[g]) s=s++l
 |[],s=>by simp
 |a::l,s=>by rw[EZ,At6 l];simp
theorem Bge (a:Airspace)(r:Int)(z:OpSmall a):Acm a r=.ok (Aj9 (Wj a r)):=by
 unfold Acm Ze;have:=Awy a r (λa1 A=>R.np ((λl=>Pf a1 l) A)) (λg s=>s++[g]) (λs n=>s.length+n≤1048576) (λg s n D=>by refine⟨by simp;omega,?_⟩;show R.np (Pf g s)=_;unfold Pf;rw[if_pos (by simp[Bj];omega)];rfl) [] (λrt h=>by have:=z.rs rt (AP h);simpa using this);simp only[N3,R.ok_bind,this];cases Wj a r with
 |some l=>show R.ok (l.foldl (λs g=>s++[g]) [],(0:Int))=R.ok (l,0);rw[At6];rfl
 |none=>exact Aqe _ _
theorem Bdx (z:List Leg)(o:Bool):z.foldl (λs g=>s||((g.Minutes.length:Int)==0)) o=(o||Abz z):=by
 induction z generalizing o with
 |nil=>simp[Abz]
 |cons g z A=>rw[EZ,A];simp[Abz,Bool.or_assoc]
variable{k:Nat}
theorem Bhf{b:Bool}{x:List Int}{y:Int}(z:x.length≤k):(if b=true then x++[y]else x).length≤k+1:=by
 split
 ·simp;omega
 ·omega
theorem Axo (a:Airspace):∀(rs:List Route) (k:Nat) (x:List Int),x.length≤k→k+rs.length≤1048576→eachS (λj _=>λA=>O4 a j A) k rs x=match Ayr a rs k x with|some l=>.ok l|none=>.pan unk
 |[],k,x,_,_=>rfl
 |rt::rs,k,x,D,hk=>by
  simp only[AF]at hk;rw[Ic];unfold Ayr;have e:O4 a k x=match Wj a (k:Int)with|some z=>.ok (if Abz z then x++[(k:Int)]else x)|none=>.pan unk:=by
   unfold O4;have:=Awy a (k:Int) (λa2 O=>R.np ((λo=>Sz a2 o) O)) (λg s=>s||((g.Minutes.length:Int)==0)) (λ_ _=>True) (λg s n _=>⟨trivial,rfl⟩) false (λ_ _=>trivial);simp only[N3,R.ok_bind,this];cases Wj a (k:Int)with
   |none=>rfl
   |some z=>
    simp only[R.ok_bind];rw[Bdx,FR];cases Abz z
    ·rfl
    ·simp only[if_true];rw[if_pos (by simp[Bj];omega)]
  rw[e];cases S:Wj a (k:Int)with
  |none=>rfl
  |some z=>simp only[R.ok_bind];exact Axo a rs (k+1) _ (Bhf D) (by omega)
theorem A6b (a:Airspace)(z:OpSmall a):Xs a=.ok (Aj9 (blk a)):=by
 unfold Xs Ur;rw[Axo a a.Routes 0 [] (by simp) (by have:=z.rt;omega)];show R.catch' (R.bind (match blk a with|some l=>.ok l|none=>.pan unk) _) _=_;cases blk a with
 |some l=>rfl
 |none=>exact Aqe _ _
def Aco (a:Airspace):List Segment→Nat→Option (List Int)
 |[],_=>some []
 |s::ss,k=>match Alu a (k:Int)with
  |none=>none
  |some l=>(Aco a ss (k+1)).map λr=>if(l.length:Int)>0 then s.Volume::r else r
def Ae6 (nv:Nat)(vs:List Int):List Int:=((List.range nv).filter λi=>vs.contains ((i:Nat):Int)).map λi=>((i:Nat):Int)
def Bje (a:Airspace):Option (List Int):=(Aco a a.Segments 0).map (Ae6 a.Volumes.length)
section
variable{V:Type}
theorem Aws (m:List (Int×V))(k:Int)(v:V):(G4 m k v).map (·.1)=if k∈m.map (·.1)then m.map (·.1)else m.map (·.1)++[k]:=by
 induction m with
 |nil=>simp[G4]
 |cons p m A=>
  rw[G4];by_cases h:p.1=k
  ·rw[if_pos (by simpa using h)];subst h;simp
  ·rw[if_neg (by simpa using h),BA,A];have:¬k=p.1:=λe=>h e.symm;by_cases z:k∈m.map (·.1)
   ·rw[if_pos z,if_pos (by simp only[BA,AM];exact .inr z)];rfl
   ·rw[if_neg z,if_neg (by simp only[BA,AM,not_or];exact⟨this,z⟩)];rfl
theorem Awn (v:V):∀(vs:List Int) (m:List (Int×V)),(m.map (·.1)).Nodup→((vs.foldl (λm x=>G4 m x v) m).map (·.1)).Nodup∧∀x,x∈(vs.foldl (λm x=>G4 m x v) m).map (·.1)↔x∈m.map (·.1)∨x∈vs
 |[],m,h=>⟨h,λx=>by simp⟩
 |y::vs,m,h=>by
  rw[EZ];have h1:((G4 m y v).map (·.1)).Nodup:=by
   rw[Aws];split
   ·exact h
   ·rename_i hy;exact HY.2 ⟨h,by simp,λa ha b hb=>by simp at hb;subst hb;exact λe=>hy (e▸ha)⟩
  obtain⟨k1,k2⟩:=Awn v vs (G4 m y v) h1;refine⟨k1,λx=>?_⟩;rw[k2 x,Aws];split
  ·rename_i hy;simp only[AM];constructor
   ·rintro(h|h)
    ·exact .inl h
    ·exact .inr (.inr h)
   ·rintro(h|rfl|h)
    ·exact .inl h
    ·exact .inl hy
    ·exact .inr h
  ·rw[BG,AY,AM,or_assoc]
end
variable{nv:Nat}
theorem Aw2{vs:List Int}{x:Int}:x∈Ae6 nv vs↔x∈vs∧0≤x∧x<(nv:Int):=by
 unfold Ae6;simp only[CK,GL,ED,HB];constructor
 ·rintro⟨i,⟨h1,h2⟩,rfl⟩;exact⟨h2,by omega,by omega⟩
 ·rintro⟨h1,h2,z⟩;exact⟨x.toNat,⟨by omega,by rwa[GI h2]⟩,GI h2⟩
theorem A2p (nv:Nat)(vs:List Int):(Ae6 nv vs).Pairwise (·<·):=by unfold Ae6;refine List.pairwise_map.2 ?_;refine(List.Pairwise.filter _ List.pairwise_lt_range).imp λh=>?_;omega
theorem A28{vs:List Int}(R:nv≤1048576)(S:∀x∈vs,0≤x∧x<(nv:Int)):Za (vs.foldl (λm x=>G4 m x true) [])=.ok (Ae6 nv vs):=by
 obtain⟨h1,h2⟩:=Awn true vs [] (by simp);have A:=A2p nv vs;have D:(Ae6 nv vs).Nodup:=A.imp λh=>Int.ne_of_lt h;have z:((vs.foldl (λm x=>G4 m x true) []).map (·.1)).Perm (Ae6 nv vs):=by
  refine(List.perm_ext_iff_of_nodup h1 D).2 λx=>?_;rw[h2 x,Aw2];constructor
  ·rintro(h|h)
   ·simp at h
   ·exact⟨h,S x h⟩
  ·rintro⟨h,_⟩;exact .inr h
 have O:(vs.foldl (λm x=>G4 m x true) []).length≤nv:=by have:=z.length_eq;rw[AL]at this;rw[this];unfold Ae6;rw[AL];exact BT (List.length_filter_le _ _) (by simp)
 unfold Za;rw[if_pos ⟨by omega,AS.2 λp hp=>by
  have:p.1∈Ae6 nv vs:=z.mem_iff.1 (CK.2 ⟨p,hp,rfl⟩);obtain⟨_,W,X⟩:=Aw2.1 this;simp only[Lit.wf,AH,AK];have U:IntKind.min .i64= -9223372036854775808:=by decide
  have V:IntKind.max .i64=9223372036854775807:=by decide
  rw[U,V];omega⟩]
 congr 1;rw[mergeSort_of_perm_i z];exact List.mergeSort_of_pairwise (A.imp λh=>by simpa using Int.le_of_lt h)
theorem Bdm{s:Segment}(z:a.Segments[k]?=some s)(h:Alu a (k:Int)=some l):0≤s.Volume∧s.Volume<(a.Volumes.length:Int):=by
 unfold Alu at h;cases hp:Aat a (k:Int)with
 |none=>rw[hp]at h;cases h
 |some p=>obtain⟨h0,h1,h2,A⟩:=At7 hp;rw[AX,z]at h1;cases h1;have:=(CI.1 A).1;exact⟨h2,by omega⟩
theorem Aum (a:Airspace):∀(ss:List Segment) (k:Nat) (m:List (Int×Bool)),eachS (λj a1=>λm=>S3 a j a1 m) k ss m=match Aco a ss k with|some vs=>.ok (vs.foldl (λm x=>G4 m x true) m)|none=>.pan unk
 |[],k,m=>rfl
 |s::ss,k,m=>by
  rw[Ic];unfold Aco;have e:S3 a k s m=match Alu a (k:Int)with|some l=>.ok (if(l.length:Int)>0 then G4 m s.Volume true else m)|none=>.pan unk:=by
   unfold S3;rw[Atx];cases Alu a (k:Int)with
   |none=>rfl
   |some l=>simp only[R.ok_bind];split<;>rfl
  rw[e];cases Alu a (k:Int)with
  |none=>rfl
  |some l=>
   simp only[R.ok_bind];rw[Aum a ss (k+1)];cases Aco a ss (k+1)with
   |none=>rfl
   |some vs=>simp only[BB];split<;>rfl
theorem A4e (a:Airspace):∀(ss:List Segment) (k:Nat) (vs:List Int),(∀j s,ss[j]?=some s→a.Segments[k+j]?=some s)→Aco a ss k=some vs→(∀x∈vs,0≤x∧x<(a.Volumes.length:Int))∧
  (∀j s l,ss[j]?=some s→Alu a ((k+j:Nat):Int)=some l→(l.length:Int)>0→s.Volume∈vs)
 |[],k,vs,_,h=>by cases h;exact⟨λx A=>(by cases A),λj s l h=>by simp at h⟩
 |s::ss,k,vs,D,h=>by
  unfold Aco at h;split at h
  ·cases h
  ·rename_i l S;cases hr:Aco a ss (k+1)with
   |none=>rw[hr]at h;cases h
   |some r=>
    rw[hr]at h;simp only[BB,AW]at h;obtain⟨U,W⟩:=A4e a ss (k+1) r (λj s h=>by have:=D (j+1) s (by simpa using h);rwa[show k+1+j=k+(j+1)by omega]) hr;have O:=D 0 s rfl;rw[CX]at O;have X:=Bdm O S;refine⟨λx A=>?_,λj s' l' V R z=>?_⟩
    ·subst h;split at A
     ·rcases AM.1 A with rfl|A
      ·exact X
      ·exact U x A
     ·exact U x A
    ·subst h;cases j with
     |zero=>
      have:s=s':=by simpa using V
      subst this;rw[CX,S]at R;cases R;rw[if_pos z];exact BM ..
     |succ j=>
      have:=W j s' l' (by simpa using V) (by rwa[show k+1+j=k+(j+1)by omega]) z;split
      ·exact BC _ this
      ·exact this
theorem A3j (a:Airspace)(z:OpSmall a):Vz a=.ok (Aj9 (Bje a)):=by
 unfold Vz Tb Bje;rw[Aum];cases A:Aco a a.Segments 0 with
 |none=>exact Aqe _ _
 |some vs=>have:=(A4e a a.Segments 0 vs (λj s h=>by simpa using h) A).1;simp only[R.ok_bind,maps_Keys_71,Ase,A28 z.vol this];rfl
theorem Mx{b:Nat→α→List β→R (List β)}{F:Nat→α→R β}{c:Nat}(p:β→Prop)(D:∀j a y,b j a y=(F j a).bind λr=>if(y.length+[r].length)*c≤Bj then .ok (y++[r])else .bad)(l:List α)(O:c≤1000)(U:l.length≤NN)(S:∀j,∀a∈l,As (F j a) p):As (eachS b 0 l []) λy=>y.length=l.length∧∀x∈y,p x:=by
 refine(My (λk (y:List β)=>y.length=k∧∀x∈y,p x) l 0 [] (λj a y z A=>?_) ⟨rfl,λx z=>absurd z (by simp)⟩).mono λy A=>⟨by rw[A.1,AG],A.2⟩;have V:j<l.length:=(CI.1 z).1;rw[D];refine(S _ a (AP z)).bind λr hr=>CS ?_ (.ok ⟨by rw[AJ,AB,A.1],λx z=>?_⟩)
 ·rw[A.1,AB];have h0:0+j+1≤1048576:=by have:=Ab6;omega
  have h1:(0+j+1)*c≤1048576*1000:=IU h0 O;have h2:(1048576*1000:Nat)=1048576000:=by rfl
  rw[h2]at h1;exact Zl (BT h1 (by omega))
 ·rcases BG.1 z with h|h
  ·exact A.2 x h
  ·rw[AY.1 h];exact hr
theorem Bb8 (a b:List Span):As (Ae5 a b) λr=>r.length≤1441:=by refine .ok ?_;have:=Abb ((List.range 1440).map λi=>Xk a i||Xk b i) 0 none;rwa[AL,List.length_range]at this
theorem A77 (a:Airspace)(c p:Int):As (X6 a c p) λr=>r.1.length≤1441:=by
 unfold X6;refine(Alf a c).bind λe A=>AN (λ_=>.ok (CA _)) λh=>AN (λ_=>.ok (CA _)) λ_=>?_;have z:=A (by simpa using h);refine BO (p:=T1) ((My (λk (s:List Span)=>s.length≤k) a.Rules 0 [] (λj a1 s D O=>?_) (AI _)).mono λ_ _=>trivial) λl _=>?_
 ·have S:j<a.Rules.length:=(CI.1 D).1;unfold Acq;exact AN (λ_=>CS (Zl (by simp only[AB];omega)) (.ok (by rw[AJ,AB];omega))) λ_=>.ok (by omega)
 ·unfold Ab5;rw[R.bind_assoc];exact(Bb8 _ _).bind λr hr=>.ok hr
theorem Bcz (d o:List (Int×Bool)):As (X9 d o) T1:=by unfold X9;exact(Ash _ _).bind λp _=>(Ash _ _).bind λq _=>.ok trivial
def rp (n m:Nat):List Int:=List.replicate m (-1)++List.replicate (n-m) 0
theorem Bas {n m:Nat}(h:m≤n):(rp n m).length=n:=by simp[rp];omega
theorem Biz{n m:Nat}(h:m≤n)(hk:k=min m (n-m)):over (rp n m) m m=rp n (m+k):=by
 unfold over;rw[Bas h,←hk];have z:(rp n m).take m=List.replicate m (-1):=by simp[rp]
 have A:(rp n m).take k=List.replicate k (-1):=by rw[rp,List.take_append_of_le_length (by simp;omega),List.take_replicate,FU (by omega)]
 have D:(rp n m).drop (m+k)=List.replicate (n-(m+k)) 0:=by rw[rp,List.drop_append,DG (by simp),EA,List.drop_replicate,CB];congr 1;omega
 rw[z,A,D,rp,List.replicate_append_replicate]
theorem A60 (n:Nat)(h1:1≤n)(h2:n≤32):As (Mv [(-1)] (n:Int)) λl=>l=List.replicate n (-1):=by
 unfold Mv;rw[if_neg (by omega)];simp only[AB,Int.natCast_one];rw[mul_one n h2];simp only[R.ok_bind];have hw:IntKind.wrap .i64 (n:Int)=(n:Int):=Ok (by omega) (by omega);rw[if_neg (by simp;omega),hw];refine CS ⟨by omega,DW _,by simp only[AX];exact Atw (by omega)⟩ (CS (by simp;omega) ?_);refine BO (p:=λl=>l=List.replicate n (-1)) (Aa1 (λs=>n-s.1.toNat) (λs=>∃m:Nat,1≤m∧m≤n∧s=((m:Int),rp n m)) _ (λs A=>?_) n _ (by simp) ⟨1,AI _,h1,?_⟩) λl D=>.ok D
 ·obtain⟨m,O,z,rfl⟩:=A;simp only[Ct];unfold Ma;rw[Bas z];refine AN (λS=>?_) λU=>.ok ?_
  ·refine CS ⟨by omega,by omega⟩ (CS ⟨by omega,by omega⟩ (.ok ?_));simp only[AX];have hk:((m:Int)+((min m (n-m):Nat):Int))=((m+min m (n-m):Nat):Int):=by omega
   refine⟨⟨m+min m (n-m),by omega,by omega,?_⟩,?_⟩
   ·rw[hk,Ok (by omega) (by omega),Biz z rfl]
   ·simp only[hk];rw[Ok (by omega) (by omega)];simp only[AX];omega
  ·have:m=n:=by omega
   subst this
   show rp m m=_
   simp[rp]
 ·simp only[AX,AB,Int.natCast_one,List.drop_replicate];rfl
variable{a1:Int}
theorem Bi0{n M:Nat}{a2:Int}{s:List Int×List Int}(hn:n≤32)(hM:M≤1000)(A:Srch n M s)(h1:0≤a1∧a1<(n:Int))(h2:0≤a2∧a2<(n:Int)):As (Ct (λD W=>Ir a1 a2 D W) s) (Srch n M):=by
 obtain⟨D,W⟩:=s;simp only[Ct];unfold Ir;have z:=A.len;simp only at z;refine FE h2.1 (by rw[z];exact h2.2) λa3 X=>?_;refine AN (λ_=>.ok A) λZ=>FE h1.1 (by rw[z];exact h1.2) λO e4=>?_;have R:=A.mes;simp only at R;refine CS (by simp only[AB];exact Atw (by omega)) (.ok ?_);have V:=A.val O (AP e4);simp only at V;have hw:IntKind.wrap .i64 (O+1)=O+1:=Ok (by omega) (by omega);rw[hw];obtain⟨hi,hg⟩:=CI.1 X;have Y:neg (D.set a2.toNat (O+1))+1=neg D:=by
  unfold neg;have hp:0<D.countP (·<0):=List.countP_pos_iff.2 ⟨a3,AP X,by simp;omega⟩;rw[List.countP_set hi,hg];have d1:decide (a3<0)=true:=by simp;omega
  have d2:decide (O+1<0)=false:=by simp;omega
  simp only[d1,d2,if_true,AE,if_false];omega
 refine⟨by simpa using z,λv U=>?_,λq S=>?_,?_⟩
 ·simp only at U ⊢;rcases GJ U with U|rfl
  ·have:=A.val v U;simp only at this;omega
  ·omega
 ·rcases BG.1 S with S|S
  ·exact A.que q S
  ·rw[AY.1 S];exact h2
 ·simp only[AJ,AB];omega
theorem Bds{n M:Nat}{l:List (List (Int×Bool))}{s:List Int×List Int}(A:l.length=n)(D:n≤32)(O:M≤1000)(z:Srch n M s)(h1:0≤a1∧a1<(n:Int)):
  As (Pg l a1 (λa2 S=>R.np ((Ct λU V=>Ir a1 a2 U V) S)) s) (Srch n M):=by
 unfold Pg
 refine BO (p:=Srch n M) (My (λ_=>Srch n M) l 0 s (λj a s W z=>?_) z) λs z=>.ok z
 have Y:j<l.length:=(CI.1 W).1
 unfold Oq
 refine AN (λ_=>FE h1.1 (by rw[A];exact h1.2) λX _=>?_) λ_=>.ok z
 refine(Bcz _ _).bind λr _=>AN (λ_=>?_) λ_=>.ok z
 refine(As.np (Bi0 D O z h1 ⟨by omega,by omega⟩)).bind λs z=>.ok z
theorem Axy (l:List (List (Int×Bool)))(h1:1≤l.length)(h2:l.length≤32):As (Mw l 0) T1:=by
 unfold Mw;refine(A60 l.length h1 h2).bind λr hr=>?_;subst hr;refine FE (DW 0) (by simp;omega) λa _=>?_;refine BO (p:=T1) (Aa1 (λs=>2*neg s.1+s.2.length) (Srch l.length 1000) T1 (λs z=>?_) 1000 _ ?_ ?_) λ_ _=>.ok trivial
 ·obtain⟨l1,S⟩:=s;simp only[Ct];unfold Mi;refine AN (λA=>?_) λ_=>.ok trivial;cases S with
  |nil=>simp at A
  |cons q S=>
   have U:=z.que q (by simp);refine FE (DW 0) (by simp) λa1 D=>?_;simp only[Int.toNat_zero,DL,AW]at D;subst D;refine CS ⟨by omega,by simp only[AF];omega⟩ ?_;unfold Vl;simp only[R.ok_bind];have O:=z.mes;simp only[AF]at O;have V:Srch l.length (2*neg l1+S.length) (l1,(q::S).drop 1):=⟨z.len,z.val,λx Y=>z.que x (by simp only;exact BW Y),by simp⟩;refine(Bds rfl h2 (by omega) V U).bind λt ht=>?_;obtain⟨Z,l4⟩:=t;refine .ok ⟨⟨ht.len,ht.val,ht.que,?_⟩,?_⟩
   ·have:=ht.mes;simp only at this ⊢;omega
   ·have:=ht.mes;simp only[AF]at this ⊢;omega
 ·have hc:neg ((List.replicate l.length (-1)).set (Int.toNat 0) 0)≤l.length:=by
   unfold neg;refine BT HD (by simp)
  simp only[AB];omega
 ·have e:((List.replicate l.length (-1:Int)).set (Int.toNat 0) 0)=0::List.replicate (l.length-1) (-1):=by
   obtain⟨k,hk⟩:∃k,l.length=k+1:=⟨l.length-1,by omega⟩
   rw[hk];rfl
  have W:neg (0::List.replicate (l.length-1) (-1:Int))=l.length-1:=by unfold neg;simp[List.countP_replicate]
  rw[e]
  refine⟨by simp;omega,λv X=>?_,λq U=>by simp at U;omega,?_⟩
  ·simp only[W];simp only[AM,HU]at X;rcases X with rfl|⟨_,rfl⟩<;>omega
  ·simp only[W,AB];omega
theorem A90 (l:List Int)(v:Int):As (Kr l v) T1:=by unfold Kr;refine GT (I:=T1) (J:=T1) ((Lu (λ_ _=>True) T1 l 0 () (λj a s _ _=>?_) trivial).mono λr hr=>by cases r<;>trivial) (λ_ _=>.ok trivial) λ_ _=>.ok trivial;unfold Hu;exact AN (λ_=>.ok trivial) λ_=>.ok trivial
theorem A91 (a:Airspace):As (Wo a) T1:=by unfold Wo;refine(Ao6 a).bind λr hr=>AN (λh=>?_) λ_=>.ok trivial;obtain⟨h1,h2,_⟩:=hr h;exact(Axy r.1 h1 h2).bind λr1 _=>(A90 _ _).bind λv _=>AN (λ_=>.ok trivial) λ_=>.ok trivial
theorem Ane (b:Bool)(e:Int):As (Pr b e) T1:=AN (λ_=>.ok trivial) λ_=>.ok trivial
theorem A7f (a:Airspace):As (P0 a) T1:=by unfold P0;exact(A91 a).bind λr _=>(Ane _ _).bind λ_ _=>.ok trivial
def Au7:Tables:={Volumes:=0,Sectors:=[],Configs:=[],Ways:=[],Modes:=[],Kinds:=[]}
theorem Ak5:TabOk Au7:=by constructor<;>simp[Au7]
theorem Bh3 (l:List Sector)(h:l.length≤NN)(z:∀s∈l,s.Volumes.length≤NN):As (G2 l) λy=>y.length=l.length∧∀s∈y,s.Volumes.length≤NN:=by unfold G2;exact(Mx (F:=λj a=>P9 (j:Int) a) (c:=80) _ (λ_ _ _=>rfl) l (by decide) h λj a A=>by unfold P9;exact .ok (z a A)).bind λy D=>.ok D
theorem Bg1 (l:List Config)(h:l.length≤NN)(z:∀s∈l,s.Sectors.length≤NN):As (Gx l) λy=>y.length=l.length∧∀s∈y,s.Sectors.length≤NN:=by unfold Gx;exact(Mx (F:=λj a=>P7 (j:Int) a) (c:=64) _ (λ_ _ _=>rfl) l (by decide) h λj a A=>by unfold P7;exact .ok (z a A)).bind λy D=>.ok D
theorem Bg9 (l:List Bool)(z:l.length≤1440):(Hs 0 l none).length≤NN:=BT (Abb l 0 none) (by have:=Ab6;omega)
theorem Ber (a b:List Span):(Zr a b).length≤NN:=Bg9 _ (by simp)
theorem A2i{P:β→Prop}(h:∀x y,f x=some y→P y):∀{l:List α} {r:List β},Alw f l=some r→∀y∈r,P y
 |[],r,hr,y,hy=>by cases hr;cases hy
 |x::l,r,hr,y,hy=>by
  unfold Alw at hr;split at hr
  ·rename_i y' r' h1 h2;cases hr;rcases AM.1 hy with rfl|hy
   ·exact h _ _ h1
   ·exact A2i h h2 y hy
  ·cases hr
theorem Bci{g:Leg}(h:Aid a n=some g):g.Minutes.length≤NN:=by unfold Aid at h;rw[CC]at h;obtain⟨p,_,rfl⟩:=h;exact Ber _ _
theorem Bgv (a:Airspace)(r:Int)(D:OpSmall a):(Aj9 (Wj a r)).1.length≤NN∧∀g∈(Aj9 (Wj a r)).1,g.Minutes.length≤NN:=by
 cases h:Wj a r with
 |none=>exact⟨CA _,λg O=>absurd O (by simp[Aj9])⟩
 |some l=>
  unfold Wj at h;split at h
  ·split at h
   ·cases h
   ·rename_i rt z;have:=D.rs rt (AP z);exact⟨by rw[Aj9,A1h h];have:=Ab6;omega,A2i (λx y A=>Bci A) h⟩
  ·cases h
theorem Bgu (a:Airspace)(z:OpSmall a):As (Ls a.Routes a) λy=>y.length=a.Routes.length∧∀w∈y,w.Legs.length≤NN∧∀g∈w.Legs,g.Minutes.length≤NN:=by unfold Ls;refine(Mx (F:=λj r=>P8 (j:Int) r a) (c:=40) _ (λ_ _ _=>rfl) a.Routes (by decide) (by have:=Ab6;have:=z.rt;omega) λj r hr=>?_).bind λy A=>.ok A;unfold P8;rw[Bge a _ z];exact .ok (Bgv a _ z)
theorem Bg5 (l:List Airport)(h:l.length≤NN)(A:∀s∈l,s.Modes.length≤NN):As (Fv l) λy=>y.length=l.length∧∀m∈y,m.length≤NN:=by unfold Fv;refine(Mx (F:=λj a=>Qd (j:Int) a) (c:=24) _ (λ_ _ _=>rfl) l (by decide) h λj a D=>?_).bind λy z=>.ok z;unfold Qd Mh;rw[R.bind_assoc];refine(Mx (F:=λj a=>Qj (j:Int) a) (c:=8) T1 (λ_ _ _=>rfl) a.Modes (by decide) (A a D) λj m O=>by unfold Qj;exact .ok trivial).bind λy z=>.ok (by rw[z.1];exact A a D)
theorem Bio (a:Airspace)(h:a.Classes.length≤NN)(hp:a.Airports.length≤NN):As (Kv a.Classes a) λy=>y.length=a.Classes.length∧∀k∈y,k.Curfews.length≤NN∧∀c∈k.Curfews,c.length≤NN:=by unfold Kv;refine(Mx (F:=λj c=>Qa (j:Int) c a) (c:=64) _ (λ_ _ _=>rfl) a.Classes (by decide) h λj c A=>?_).bind λy z=>.ok z;unfold Qa;refine(A6i _ _).bind λr _=>(A3u _ _).bind λr1 _=>?_;unfold Li;rw[R.bind_assoc];refine(Mx (F:=λj b=>Md (j:Int) b a _) (c:=24) (λ(s:List Span)=>s.length≤NN) (λ_ _ _=>rfl) a.Airports (by decide) hp λj b D=>?_).bind λy z=>.ok ⟨by simp only;omega,z.2⟩;unfold Md;exact(A77 _ _ _).bind λr hr=>.ok (BT hr (by have:=Ab6;omega))
theorem Ba2 (a:Airspace)(h:OpSmall a):As (Qc a) T1:=by unfold Qc;rw[A3j a h,R.ok_bind];exact AN (λ_=>.ok trivial) λ_=>(Ane _ _).bind λ_ _=>.ok trivial
theorem Bak (a:Airspace)(h:OpSmall a):As (P6 a) T1:=by unfold P6;rw[A6b a h,R.ok_bind];exact AN (λ_=>.ok trivial) λ_=>(Ane _ _).bind λ_ _=>.ok trivial
theorem A9q (a:Airspace):As (P3 a) T1:=by unfold P3;exact(A7e a).bind λr _=>(Ane _ _).bind λ_ _=>.ok trivial
theorem Bbp (a:Airspace)(h:LowOk a):As (N6 a) λr=>TabOk r.1:=by
 have z:∀e,As (Fb e) (Sm T1 λr=>TabOk r.1):=λe=>by unfold Fb;exact AN (λ_=>.ok Ak5) λ_=>.ok trivial
 unfold N6 Zb;rw[R.ok_bind];refine GT (I:=T1) (J:=λr=>TabOk r.1) ((Lu (λ_ _=>True) (λ(r:Tables×Int)=>TabOk r.1) [62,115,118,119,121,122] 0 () (λj x u U _=>?_) trivial).mono λr hr=>by
  cases r with
  |inl u=>trivial
  |inr r=>exact hr) (λ_ _=>?_) λe V=>.ok V
 ·have A:=AP U;simp only[AM,BU,or_false]at A;refine As.mono (p:=Sm T1 λr=>TabOk r.1) ?_ λr hr=>by
   cases r with
   |inl u=>trivial
   |inr r=>exact hr
  unfold Z5;refine AN (λ_=>(Axf a).bind λe _=>z e) λW=>AN (λ_=>(A7f a).bind λe _=>z e) λX=>AN (λ_=>(Aop a).bind λe _=>z e) λY=>AN (λ_=>(A9q a).bind λe _=>z e) λZ=>AN (λ_=>(Ba2 a h.toOpSmall).bind λe _=>z e) λn5=>AN (λ_=>(Bak a h.toOpSmall).bind λe _=>z e) λn6=>?_;rcases A with h|h|h|h|h|h
  ·exact absurd h W
  ·exact absurd h X
  ·exact absurd h Y
  ·exact absurd h Z
  ·exact absurd h n5
  ·exact absurd h n6
 ·refine(Bh3 a.Sectors h.sec h.secv).bind λr1 h1=>(Bg1 a.Configs h.con h.cons).bind λr2 h2=>(Bgu a h.toOpSmall).bind λr3 D=>(Bg5 a.Airports h.air h.mod).bind λr4 O=>(Bio a h.cla h.air).bind λr5 S=>?_;refine(A7g _).bind λr6 _=>AN (λ_=>.ok Ak5) λ_=>.ok ?_;exact{sec:=by rw[h1.1];exact h.sec,secv:=h1.2,con:=by rw[h2.1];exact h.con,cons:=h2.2,way:=by rw[D.1];have:=Ab6;have:=h.rt;omega,legs:=D.2,mod:=by rw[O.1];exact h.air,mods:=O.2,kin:=by rw[S.1];exact h.cla,cur:=S.2}
variable{b:Nat→α→Unit→R (Unit ⊕ Bool)}{p:α→Bool}
theorem X1(l:List α)(z:∀j,∀a,b j a ()=if p a=true then .ok (.inr false)else .ok (.inl ())){g:Unit→R Bool}{P:Prop}(A:(∀a∈l,p a=false)→As (g ()) λr=>r=true→P):
  As ((each b 0 l ()).bind (alt g (λr=>.ok r))) λr=>r=true→P:=by
 rw[A0s (p:=p) false l 0 (λj a _=>z j a)]
 cases h:l.any p with
 |true=>exact .ok λh=>by cases h
 |false=>
  refine A λa D=>?_;cases hp:p a with
  |false=>rfl
  |true=>rw[EW.2 ⟨a,D,hp⟩]at h;cases h
theorem An8 (l:List Al):As (N4 l) T1:=by unfold N4;refine GT (I:=T1) (J:=T1) ((Lu (λ_ _=>True) T1 l 0 () (λj a u _ _=>?_) trivial).mono λr _=>by cases r<;>trivial) (λ_ _=>.ok trivial) λ_ _=>.ok trivial;unfold Zx;exact AN (λ_=>.ok trivial) λ_=>.ok trivial
theorem Bdj (a:Airspace):As (Af9 a) T1:=by unfold Af9;refine AN (λ_=>.ok trivial) λ_=>?_;have e:∀{α σ:Type} {b:Nat→α→σ→R (σ ⊕ Bool)} (l:List α) (s:σ) (f:σ→R Bool),(∀j x t,As (b j x t) T1)→(∀t,As (f t) T1)→As ((each b 0 l s).bind (alt f (λr=>.ok r))) T1:=λl s f z hf=>GT (I:=T1) (J:=T1) ((Lu (λ_ _=>True) T1 l 0 s (λj x t _ _=>(z _ x t).mono λr _=>by cases r<;>trivial) trivial).mono λr _=>by cases r<;>trivial) (λt _=>hf t) λ_ _=>.ok trivial;refine BO (p:=T1) ((My (λ_ _=>True) a.Volumes 0 0 (λj x t _ _=>.ok trivial) trivial).mono λ_ _=>trivial) λx _=>e _ _ _ (λj x t=>(An8 _).bind λr _=>AN (λ_=>.ok trivial) λ_=>.ok trivial) λS=>e _ _ _ (λj x t=>(An8 _).bind λr _=>AN (λ_=>.ok trivial) λ_=>.ok trivial) λA=>?_;refine BO (p:=T1) ((My (λ_ _=>True) a.Segments 0 A (λj x t _ _=>.ok trivial) trivial).mono λ_ _=>trivial) λU _=>e _ _ _ (λj x t=>(An8 _).bind λr _=>AN (λ_=>.ok trivial) λ_=>.ok trivial) λD=>?_;exact BO (p:=T1) ((My (λ_ _=>True) a.Airports 0 D (λj x t _ _=>.ok trivial) trivial).mono λ_ _=>trivial) λO _=>.ok trivial
theorem Bad (a:Airspace):As (Af5 a) T1:=by unfold Af5;refine(X1 (P:=True) (p:=λ(s:Sector)=>decide ((s.Volumes.length:Int)>10)) a.Sectors (λj s=>by simp only[Aiv,AK]) λ_=>(X1 (P:=True) (p:=λ(s:Config)=>decide ((s.Sectors.length:Int)>10)) a.Configs (λj s=>by simp only[Aka,AK]) λ_=>.ok λ_=>trivial)).mono λ_ _=>trivial
theorem A9j (a:Airspace):As (Afx a) λb=>b=true→Bd a:=by
 unfold Afx;refine AN (λ_=>.ok λh=>by cases h) λh=>?_;simp only[BQ,AK,not_or]at h;obtain⟨⟨⟨⟨⟨⟨⟨h1,h2⟩,S⟩,U⟩,V⟩,W⟩,X⟩,Y⟩:=h;refine X1 (p:=λ(s:Volume)=>decide ((s.Closed.length:Int)>8)) a.Volumes (λj s=>by simp only[Aj8,AK]) λ_=>?_;refine X1 (p:=λ(s:Sector)=>(decide ((s.Volumes.length:Int)>16))||(decide ((s.Names.length:Int)>16))) a.Sectors (λj s=>rfl) λA=>?_;refine X1 (p:=λ(s:Config)=>(decide ((s.Sectors.length:Int)>16))||(decide ((s.Names.length:Int)>16))) a.Configs (λj s=>rfl) λD=>?_;refine X1 (p:=λ(s:Segment)=>decide ((s.Open.length:Int)>8)) a.Segments (λj s=>by simp only[Ajf,AK]) λ_=>?_;refine X1 (p:=λ(s:Route)=>(decide ((s.Segments.length:Int)>10))||(decide ((s.Names.length:Int)>10))) a.Routes (λj s=>rfl) λO=>?_;refine X1 (p:=λ(s:Airport)=>decide ((s.Modes.length:Int)>6)) a.Airports (λj s=>by simp only[Aiz,AK]) λR=>.ok λ_=>?_;refine⟨by omega,by omega,by omega,by omega,by omega,by omega,by omega,by omega,λx z=>?_,λx z=>?_,λx z=>?_,λx z=>?_,λx z=>?_,λx z=>?_,λx z=>?_⟩
 ·have:=A x z;simp only[DO,BS]at this;omega
 ·have:=D x z;simp only[DO,BS]at this;omega
 ·have:=O x z;simp only[DO,BS]at this;omega
 ·have:=R x z;simp only[BS]at this;omega
 ·have:=A x z;simp only[DO,BS]at this;omega
 ·have:=D x z;simp only[DO,BS]at this;omega
 ·have:=O x z;simp only[DO,BS]at this;omega
theorem A33 (a:Airspace)(r:Rule):As (Aao a r) T1:=by unfold Aao;exact AN (λ_=>.ok trivial) λ_=>AN (λ_=>.ok trivial) λ_=>AN (λ_=>.ok trivial) λ_=>AN (λ_=>.ok trivial) λ_=>AN (λ_=>.ok trivial) λ_=>AN (λ_=>.ok trivial) λ_=>.ok trivial
theorem Baq (a:Airspace):As (Afd a) T1:=by unfold Afd;refine Pu (Aiq λ_=>BO (p:=T1) ?_ λr _=>.ok trivial);unfold Ae8;refine AN (λ_=>.ok trivial) λ_=>GT (I:=T1) (J:=T1) ((Lu (λ_ _=>True) T1 a.Rules 0 () (λj x u _ _=>?_) trivial).mono λr _=>by cases r<;>trivial) (λ_ _=>.ok trivial) λ_ _=>.ok trivial;unfold Ad9;exact(A33 _ _).bind λr _=>AN (λ_=>.ok trivial) λ_=>.ok trivial
theorem A9o (a:Airspace):As (Aab a) λb=>b=true→Bd a:=by unfold Aab;refine(Bdj a).bind λr _=>BO (p:=T1) (Y7 (Pu (Bad a))) λb _=>BO (p:=λb=>b=true→Bd a) (AN (λ_=>(A9j a).bind λr h=>.ok h) λ_=>.ok λh=>by cases h) λb1 z=>?_;refine BO (p:=λD=>D=true→Bd a) (AN (λh1=>(Baq a).bind λ_ _=>.ok λ_=>z h1) λ_=>.ok λh=>by cases h) λD A=>.ok λh=>A ?_;simp only[AH]at h;exact h.1.1.1
end Go.Am
