/- Written by shrink.py from texts of ours: comments struck, what is not reached left out, names short. -/
import Derived.Test.YtcpfebjhnbjfbaaGreatDoorTf
set_option linter.unusedSimpArgs false
set_option linter.unusedVariables false
set_option linter.unusedSectionVars false
set_option linter.defProp false
set_option maxHeartbeats 4000000
set_option maxRecDepth 100000
open Go.Proofs.Tryz
namespace Go.Am
open Go
structure Bound where
 Lo:Int
 Hi:Int
 deriving DecidableEq
def B1n (x:Bound):List AV:=[(.int .i64 x.Lo),(.int .i64 x.Hi)]
noncomputable section
theorem B1a (a b:List Span):Ae5 a b=.ok (Bf8 a b):=rfl
def A2o (j:Nat)(a1:Int)(l:List Int):R (List Int):=if a1≥0 then
(if(l.length+[(j:Int)].length)*8≤Bj then .ok (l++[(j:Int)])else .bad)
else
(.ok l)
def Atn (a:Airspace)(z:Int):R ((List Int)×Int):=(Mq a).bind λr=>if(((!r.2)||(decide (z<0)))||(decide (z≥(r.1.length:Int))))then
(.ok ([],100))
else
((Mw r.1 z).bind λr1=>(eachS (λj a1=>λl=>A2o j a1 l) 0 r1 []).bind ((λl=>.ok (l,0))))
def A51 (n:Int):R Bool:=(Yw [n,1,4096]).bind λr=>.ok r
def Akc (A:Int)(z:Int):R Int:=if z≠0 then .ok (IntKind.wrap .i64 (Int.tdiv (IntKind.wrap .i64 ((IntKind.wrap .i64 (A+z))-1)) z))else .bad
def Aq8 (k:T157)(z:Int):R Bound:=(Akc z k.Kind.Fast).bind λr=>(Akc z k.Kind.Slow).bind λr1=>.ok ({Lo:=r,Hi:=r1}:Bound)
def A2b (k:Kind)(n:Int):R (Bound×Int):=(Ae1 k).bind λe=>if(e !=0)then
(.ok (({Lo:=0,Hi:=0}:Bound),e))
else
((A51 n).bind λr=>if r then
((Aq8 ({Kind:=k}:T157) n).bind λr1=>.ok (r1,0))
else
(.ok (({Lo:=0,Hi:=0}:Bound),1)))
def Axb (l:List Span)(s:Span):R Bool:=if s.From≥s.To then
(.ok true)
else
((if((decide (s.From≥0))&&(decide (s.To≤1440)))then(W5 [s] l).bind λr=>R.ok ((r.length:Int)==0)else R.ok false).bind (λ(b:Bool)=>.ok b))
def Alb (a:Airspace)(j:Nat):R (Unit ⊕ Bool):=(Atn a (j:Int)).bind λz=>if((z.2!=0)||((z.1.length:Int)!=(a.Configs.length:Int)))then
(.ok (.inr (false)))
else
(.ok (.inl ()))
def Al5 (a3:Leg)(A:Kind):R (Unit ⊕ Bool):=(A2b A a3.Length).bind λz=>if(((z.2!=0)||(decide (z.1.Lo<1)))||(decide (z.1.Hi<z.1.Lo)))then
(.ok (.inr (false)))
else
(.ok (.inl ()))
def Ao9 (r:Bool)(r2:(Tables×Int))(a3:Leg):R (Unit ⊕ Bool):=(Ab5 a3.Minutes).bind λz=>if((z.length:Int)==0)then
(.ok (.inr (false)))
else
((each (λ_ A=>λ_=>Al5 a3 A) 0 r2.1.Kinds ()).bind (alt (λ_=>.ok (.inl ())) (λr=>.ok (.inr (r)))))
def Aby (r:Bool)(r2:(Tables×Int))(a2:Way):R (Unit ⊕ Bool):=(each (λ_ a3=>λ_=>Ao9 r r2 a3) 0 a2.Legs ()).bind (alt (λ_=>.ok (.inl ())) (λr=>.ok (.inr (r))))
def Aor (z:List Span):R (Unit ⊕ Bool):=(Axb z ({From:=0,To:=1440}:Span)).bind λA=>if A then
(.ok (.inr (false)))
else
(.ok (.inl ()))
def Aa4 (r:Bool)(z:Kind):R (Unit ⊕ Bool):=(each (λ_ A=>λ_=>Aor A) 0 z.Curfews ()).bind (alt (λ_=>.ok (.inl ())) (λr=>.ok (.inr (r))))
def Ajn (a:Airspace):R Bool:=(Acu).bind λr=>if r then
((Aab a).bind λr1=>if r1 then
((N6 a).bind λr2=>if(r2.2!=0)then
((Ky r2.1).bind λA=>.ok (A==140))
else
((Ky r2.1).bind λr4=>if(((r4 !=0)||(r2.1.Volumes !=(a.Volumes.length:Int)))||((r2.1.Ways.length:Int)!=(a.Routes.length:Int)))then
(.ok false)
else
((Vz a).bind λz=>if((z.2!=0)||((z.1.length:Int)!=r2.1.Volumes))then
(.ok false)
else
((each (λj _=>λ_=>Alb a j) 0 a.Configs ()).bind (alt (λ_=>(each (λ_ a2=>λ_=>Aby r r2 a2) 0 r2.1.Ways ()).bind (alt (λ_=>(each (λ_ D=>λ_=>Aa4 r D) 0 r2.1.Kinds ()).bind (alt (λ_=>.ok true) (λr=>.ok r))) (λr=>.ok r))) (λr=>.ok r))))))
else
(.ok true))
else
(.ok false)
end
end Go.Am
namespace Go.Am
open Go Go.Proofs Go.Proofs.Tryz
attribute [local irreducible] WR WO WP WU Nu
instance B1c (a vfrom):CP prog 13 [.A (Aj a),.int .i64 vfrom] (Atn a vfrom) (λp=>AV.tup [.K p.1,.int .i64 p.2]):=by
 refine ci 44 2 func13 (Atn.eq_1 _ _) λh0 ids z X=>go ?_;intro g r _;refine Bo O (λR=>?_) (λR=>?_)
 ·refine go ?_;exact rt (hz:=by exact .tupL (.cons (.emp _) .s1))
 refine go ?_;intro r1 _ _;refine Ck 1<|Kl (g0:=0) [29,30] 31 1 (λl=>l) (λl v=>[(4,v)]) (λl v g1=>[none,Ccu v g1 1 rJ l]) .nil ?_ ?_
 ·rintro j a1 l v g1 S _ A W Y;refine Ae (A2o.eq_1 _ _ _)<|go ?_;refine E4 O (λD=>?_) (λD=>?_)
  ·refine A4<|Ao 2 [] [(39,.I j),(38,v)]<|Ch (e:=rJ) (L:=[(j:Int)]) (st:=1) (rows:=[[.I j]]) O Byu.eq Dn.eq O O O O O (.cons (AC _) .nil) (λx=>Dw x) O O<|Cf λU=>Ce (e:=rJ) (L:=l) (L2:=[(j:Int)]) (v:=v) (g:=g1) (st:=1) (j:=1) z O O O O A O (B7 O) Byu.eq Byu.eq O Dn.eq O O O U λv1 Z V=>gc
  exact gc
 rintro l v g1 A;refine go ?_;exact rt (hz:=by exact .tupL (.cons (Ca A (z.at O O) (z.out O) (λx=>Dw x)) .s1))
instance B7p (n):CP prog 75 [.int .i64 n] (A51 n) AV.bool:=by refine ci 6 0 func75 (A51.eq_1 _) λh0 ids z A=>go ?_;refine Ch (e:=rJ) (L:=[n,1,4096]) (st:=1) (rows:=[[.I n],[.I 1],[.I 4096]]) O Byu.eq Dn.eq O O O O O (.cons (AC _) (.cons (AC _) (.cons (AC _) .nil))) (λx=>Dw x) O O<|gc
instance Bnh (length speed):CP prog 151 [.int .i64 length,.int .i64 speed] (Akc length speed) (.int .i64):=by refine ci 11 0 func151 (Akc.eq_1 _ _) λh0 ids z A=>Ah<|Cm (.I 0)<|Ad<|Ah<|Ao 5 [] [(9,.I speed),(8,.I (wi ((wi (length+speed))-1)))]<|Cf λhz=>Au (.I (wi (Int.tdiv (wi ((wi (length+speed))-1)) speed))) O (Bb O O (Bgi O hz))<|gc
instance By6 (k length):CP prog 76 [.A (B5h k),.int .i64 length] (Aq8 k length) (λx=>(AV.agg (B1n x))):=by refine ci 16 2 func76 (Aq8.eq_1 _ _) λh0 ids z D=>Ah<|Ip 0 (.A (B5h k)) λg=>D9 1 H4.eq λg1=>Ad<|Bv ?_;refine Ai<|Bx [0,0,2,6,15,0,0,64,192,511,1023,2047] [pR 0,pR 1,pR 2,pR 3,pR 5,pR 6,pR 7,pR 8,pE 4,pE 9,pR 10,pE 11] D2<|Be [0,0] [(5,.I length),(6,.q ids 0 g),(7,.ptr (ix ids 0) g 0 1),(8,.I k.Kind.Fast),(10,.I length),(11,.q ids 0 g),(12,.q ids 0 g),(13,.I k.Kind.Slow)]<|Ll ((Bnh length k.Kind.Fast) _) (hpd:=(A9 [0])) λr _=>?_;refine go ?_;intro r1 _;refine Cv O (λ_ _=>O) (λK A=>Bi (Iz (v:=(.A [.I r,.I r1])) z O O O O H4.eq O O O O O) (A _ _ Bh ?_));clear A K;refine go ?_;exact rt (hr:=by exact(Aw (Ar z O O O H4.eq O) A0)) (hz:=by exact .aggL .s2)
instance B2f (k n):CP prog 15 [.A (Gi k),.int .i64 n] (A2b k n) (λp=>AV.tup [.A (B1n p.1),.int .i64 p.2]):=by
 refine ci 20 2 func15 (A2b.eq_1 _ _) λh0 ids z S=>go ?_;intro g g1 e _;refine Bo O (λD=>?_) (λD=>?_)
 ·refine go ?_;exact rt (hr:=by exact(Aw (Ar z O O O H4.eq O) (Ht A0))) (hz:=by exact .tupL (.cons (.aggL .s2) .s1))
 refine go ?_;intro r _;refine N8 O (λA=>?_) (λA=>?_)
 ·refine A8<|Ah<|Ao 3 [0] [(18,.I n),(17,.A [.I k.Slow,.I k.Fast,.I k.Places,.I k.Weight,.I k.Longest,.L 1 (rL 2 Ax) k.Curfews])]<|oc (λR=>FL (.cons (.aggL (.s (.s (.s (.s .s2))))) .s1) ((By6 ({Kind:=k}:T157) n) _ R)) λr1 _=>go ?_;exact rt (hr:=by exact(Aw (Ar z O O O H4.eq O) (Ht A0))) (hz:=by exact .tupL .s2)
 refine go ?_;exact rt (hr:=by exact(Aw (Ar z O O O H4.eq O) (Ht A0))) (hz:=by exact .tupL (.cons (.aggL .s2) .s1))
instance B1r (l s):CP prog 16 [.L 2 Ax l,.A (Ax s)] (Axb l s) AV.bool:=by
 refine ci 26 1 func16 (Axb.eq_1 _ _) λh0 ids V W=>go ?_;intro g;refine E4 O (λU=>?_) (λU=>?_)
 ·exact gc
 refine A8<|Ah<|Ao 4 [0] [(13,.B (decide (s.From≥0)))]<|Oc 4 13 17 [0,3] (.B ((decide (s.From≥0))&&(decide (s.To≤1440)))) O ?_ (λz _ A=>?_) (λz _ A=>?_)
 ·refine Bp (.B ((decide (s.From≥0))&&(decide (s.To≤1440))))<|G9 7 18 25 [] .bool O ?_ (λD _ R=>?_) (λD _ R=>?_)
  ·intro b;refine Cm (.B b)<|Ad<|rt
  ·refine Ao 1 [0] [(19,.A (Ax s))]<|Bj1 (tj:=18) O O O (λ_ _=>O) (λK S=>Dd (e:=Ax) (L:=[s]) (st:=2) (rows:=[[.I s.From,.I s.To]]) Ot.eq Byj.eq O O O O O (.cons (AC _) .nil) (λx=>Gu x) O O (S _ _ ?_));clear S K;exact gc
  exact gc
 ·refine Ao 4 [0] [(17,.B (decide (s.To≤1440)))]<|Ib A (.r2 (.cons (Afb z) .nil))
 refine Ao 4 [] [(17,.B false)]<|Ib A (.r2 (.cons (Afc z) .nil))
instance Bpp (a):CP prog 3 [.A (Aj a)] (Ajn a) AV.bool:=by
 refine ci 163 7 func3 (Ajn.eq_1 _) λh0 ids hI hF=>go ?_;intro g r _;refine N8 O (λhc=>?_) (λhc=>?_)
 ·refine go ?_;intro r1 _;refine N8 O (λY=>?_) (λY=>?_)
  ·refine go ?_;intro r2 _ g1;refine Bo O (λZ=>?_) (λZ=>?_)
   ·exact gc
   refine go ?_;intro r4 _;refine Bo O (λaa=>?_) (λaa=>?_)
   ·exact gc
   refine go ?_;intro r5 _;refine Bo O (λab=>?_) (λab=>?_)
   ·exact gc
   refine go ?_;intro aj;refine Ph [1,3,73] 74 (λ_=>[]) (λ_=>[Ab g 8 [Aj a],Ab g1 6 [B9 r2.1],none,none,none,none,none]) ?_ ?_
   ·rintro j a1 _ ak _ W _;refine Ae (Alb.eq_1 _ _)<|gc
   rintro _;refine go ?_;intro _;refine Ck 1<|Ph [3,95,96] 97 (λ_=>[]) (λ_=>[none,Ab g1 6 [B9 r2.1],none,none,none,none,none]) ?_ ?_
   ·rintro j1 a2 _ z _ W _;refine Ae (Aby.eq_1 _ _ _)<|By ?_;refine Ah<|Bl (.B (decide ((j1:Int)<(r2.1.Ways.length:Int))))<|Ad<|Ai<|Fs (t:=95) (L:=r2.1.Ways) O λac=>Co O (AQ.2 (A6 z))<|A8<|Ai<|A3<|Ah<|Au (.cp (Ks a2) 0) O (Ay (Ex B0m.eq Byb.eq O z))<|Bl (.A (Ks a2))<|D9 2 Byb.eq λg2=>go ?_;intro _;refine Ck 4<|Ph [3,95,96,97,102,103] 104 (λ_=>[]) (λ_=>[none,Ab g1 6 [B9 r2.1],none,none,none,none,none]) ?_ ?_
    ·rintro j2 a3 _ A _ W _;refine Ae (Ao9.eq_1 _ _ _)<|By ?_;refine Ah<|Bl (.B (decide ((j2:Int)<(a2.Legs.length:Int))))<|Ad<|Ai<|Fs (t:=102) (L:=a2.Legs) O λad=>Co O (AQ.2 (A6 A))<|A8<|Ai<|A3<|Ah<|Au (.cp (If a3) 0) O (Ay (Ex Bxi.eq Bxq.eq O A))<|Bl (.A (If a3))<|D9 3 Bxq.eq λg3=>go ?_;intro r7 _ _;refine Bo O (λae=>?_) (λae=>?_)
     ·refine Ah<|Cm (.B false)<|Ad<|A4m<|Aud<|A4m<|Aud<|rt
     refine A8<|Ah<|Ao 2 [1] [(114,.L 6 Gi r2.1.Kinds)]<|E7 r2.1.Kinds<|Bp (.I 0)<|Ad<|A3<|Ph [3,13,95,96,97,102,103,104,114,115] 116 (λ_=>[]) (λ_=>[none,Ab g1 6 [B9 r2.1],none,Ab g3 4 [If a3],none,none,none]) ?_ ?_
     ·rintro j3 D _ R _ W _;refine Ae (Al5.eq_1 _ _)<|By ?_;refine Ah<|Bl (.B (decide ((j3:Int)<(r2.1.Kinds.length:Int))))<|Ad<|Ai<|Fs (t:=114) (L:=r2.1.Kinds) O λaf=>Co O (AQ.2 (A6 R))<|A8<|Ai<|A3<|Ah<|Au (.cp (Gi D) 0) O (Ay (Ex Byi.eq Byg.eq O R))<|Bl (.A (Gi D))<|D9 4 Byg.eq λg4=>Gk (.A (Gi D)) ?_;refine Ad<|Bv ?_;refine Ah<|Ao 3 [4,3] [(123,.I a3.Length),(121,.A (Gi D))]<|oc ((B2f D a3.Length) _) λr8 _=>Ao 3 [] [(126,.I r8.2),(125,.A (B1n r8.1))]<|D9 5 H4.eq λg5=>go ?_;refine Bo O (λag=>?_) (λag=>?_)
      ·refine Ah<|Cm (.B false)<|Ad<|A4m<|Aud<|A4m<|Aud<|A4m<|Aud<|rt
      refine A8<|Ci<|A4<|Ao 2 [] [(116,.I (wi ((j3:Int)+1)))]<|Ad<|Ck 48<|gc
     rintro _;refine go ?_;refine Ck 8<|gc
    rintro _;exact gc
   rintro _;refine go ?_;intro _;refine Ck 2<|Ph [145,146] 147 (λ_=>[]) (λ_=>[none,none,none,none,none,none,none]) ?_ ?_
   ·rintro j4 V _ S _ W _;refine Ae (Aa4.eq_1 _ _)<|By ?_;refine Ah<|Bl (.B (decide ((j4:Int)<(r2.1.Kinds.length:Int))))<|Ad<|Ai<|Fs (t:=145) (L:=r2.1.Kinds) O λah=>Co O (AQ.2 (A6 S))<|A8<|Ai<|A3<|Ah<|Au (.cp (Gi V) 0) O (Ay (Ex Byi.eq Byg.eq O S))<|Bl (.A (Gi V))<|D9 6 Byg.eq λg6=>go ?_;intro _;refine Ck 64<|Ph [145,146,147,152,153] 154 (λ_=>[]) (λ_=>[none,none,none,none,none,none,none]) ?_ ?_
    ·rintro j5 X _ U _ W _;refine Ae (Aor.eq_1 _)<|By ?_;refine Ah<|Bl (.B (decide ((j5:Int)<(V.Curfews.length:Int))))<|Ad<|Ai<|Fs (t:=152) (L:=V.Curfews) O λai=>Co O (AQ.2 (A6 U))<|A8<|Ai<|A3<|Ah<|Au (.cp [.L 2 Ax X] 0) O (Ay (Ex B2k.eq Ot.eq O U))<|Ao 2 [] [(21,.L 2 Ax X)]<|Ad<|Ah<|Ao 2 [] [(159,.A [.I 0,.I 1440]),(158,.L 2 Ax X)]<|oc (λhb=>FL (.s (.cons (.aggL .s2) .nil)) ((B1r X ({From:=0,To:=1440}:Span)) _ hb)) λr9 _=>gc
    rintro _;exact gc
   rintro _;exact gc
  exact gc
 exact gc
end Go.Am
namespace Go.Am
open Go
def Aeg:Prop:=∀(z:Airspace) (_:Ahm.good z),Ahm.bulk z≤1048576→Ajn z=.ok true
def Af8 (l:List Span):Prop:=∀i,i<1440→Xk l i=true
variable{l:List Span}{i:Nat}
theorem Akn:Xk l i=true↔∃s∈l,inS s i=true:=by unfold Xk;exact EW
theorem Bmt{s:Span}:inS s i=true↔s.From≤(i:Int)∧(i:Int)<s.To:=by unfold inS;simp
theorem A5k{r:List Span}:Xk (l++r) i=true↔Xk l i=true∨Xk r i=true:=by unfold Xk;simp
theorem B61:¬Af8 []:=λh=>by have:=h 0 (by omega);cases this
theorem B4v(h:i<1440):Xk [({From:=0,To:=1440}:Span)] i=true:=Akn.2 ⟨_,AY.2 rfl,Bmt.2 ⟨by simp only;omega,by simp only;omega⟩⟩
theorem B34(h:Zr [({From:=0,To:=1440}:Span)] l=[]):Af8 l:=λi hi=>by
 have:=Bbz [({From:=0,To:=1440}:Span)] l i;rw[h,B4v hi,DM hi]at this;cases z:Xk l i with
 |true=>rfl
 |false=>rw[z,show Xk [] i=false from rfl]at this;exact absurd this (by decide)
theorem B2z:∀(l:List Bool) (k f:Nat),∃t rest,Hs k l (some f)=sp f t::rest
 |[],k,f=>⟨k,[],rfl⟩
 |true::l,k,f=>B2z l (k+1) f
 |false::l,k,f=>⟨k,Hs (k+1) l none,rfl⟩
theorem B1q:∀(l:List Bool) (k:Nat) (s:Span) (rest:List Span),Hs k l none=s::rest→∀i:Nat,k≤i→(i:Int)<s.From→l[i-k]?=some false
 |[],k,s,rest,h,i,_,_=>by cases h
 |true::l,k,s,rest,h,i,hk,hi=>by obtain⟨t,r2,e⟩:=B2z l (k+1) k;have h:Hs (k+1) l (some k)=s::rest:=h;rw[e]at h;injection h with h _;subst h;simp only[sp]at hi;omega
 |false::l,k,s,rest,h,i,hk,hi=>by
  rcases Nat.eq_or_lt_of_le hk with rfl|z
  ·simp
  ·have:=B1q l (k+1) s rest h i z hi;rw[show i-k=i-(k+1)+1 by omega];simpa using this
variable{rest:List Span}
theorem B48{r:Span}(h:Zr [({From:=0,To:=1440}:Span)] l=r::rest):∃f:Nat,r.From=(f:Int)∧f<1440∧Xk l f=false∧∀i,i<f→Xk l i=true:=by
 obtain⟨f,h1,h2,A⟩:=Bat h;refine⟨f,h1,h2,A,λi hi=>?_⟩;have:=B1q _ 0 r rest h i (CA _) (by omega);have z:i<1440:=by omega
 simp only[FM,BV,DY z,BB,AW,B4v z,DH,Bool.not_eq_false']at this;exact this
theorem B68{s:List Span}{r:Span}{f:Nat}(hf:r.From=(f:Int)):As (eachS (λ_ a=>Ct λY D=>Ahh (r::rest) a Y D) 0 s (0,0)) λv=>
  (v=(0,0)∨∃x∈s,v=(x.From,x.To)∧x.From≤(f:Int)∧(f:Int)<x.To)∧∀x∈s,x.From≤(f:Int)→(f:Int)<x.To→x.To≤v.2:=by
 refine(My (λk (v:Int×Int)=>(v=(0,0)∨∃x∈s,v=(x.From,x.To)∧x.From≤(f:Int)∧(f:Int)<x.To)∧∀(i:Nat) x,i<k→s[i]?=some x→x.From≤(f:Int)→(f:Int)<x.To→x.To≤v.2) s 0 (0,0) (λj a v O U=>?_) ⟨.inl rfl,λi x hi=>absurd hi (DZ _)⟩).mono λv U=>⟨U.1,λx O=>by obtain⟨j,Z⟩:=DJ.1 O;exact U.2 j x (by have:=A6 Z;omega) Z⟩
 obtain⟨Y,D⟩:=v
 obtain⟨h1,h2⟩:=U
 simp only[AG]at h2 ⊢
 simp only[Ct]
 unfold Ahh
 rw[A65]
 simp only[R.ok_bind]
 have A:¬(a.From≤(f:Int)∧a.To>(if D>(f:Int)then D else(f:Int)))→(∀(i:Nat) x,i<j+1→s[i]?=some x→x.From≤(f:Int)→(f:Int)<x.To→x.To≤D):=λhn i x hi z V W=>by
  rcases BZ i j with h'|h'
  ·exact h2 i x h' z V W
  ·have:i=j:=by omega
   subst this
   rw[O]at z;cases z
   have X:¬a.To>(if D>(f:Int)then D else(f:Int)):=λh=>hn ⟨V,h⟩
   split at X<;>omega
 refine AN (λg1=>?_) λg1=>by unfold Sp;simp only[AK]at g1;exact AN (λh=>by cases h) λ_=>.ok ⟨h1,A λh=>g1 (by rw[hf];exact h.1)⟩
 simp only[AK]at g1
 rw[hf]at g1
 unfold Sp
 refine AN (λS=>.ok ?_) λS=>.ok ⟨h1,A λh=>S (by rw[hf];exact DM h.2)⟩
 simp only[AK]at S
 rw[hf]at S
 have hT:(f:Int)<a.To∧D<a.To∨((f:Int)<a.To∧D≤(f:Int)):=by split at S<;>omega
 refine⟨.inr ⟨a,AP O,rfl,g1,by omega⟩,λi x hi z V W=>?_⟩
 rcases BZ i j with h'|h'
 ·have:=h2 i x h' z V W;simp only at this ⊢;omega
 ·have:i=j:=by omega
  subst this
  rw[O]at z;cases z
  exact DW _
theorem B2r (c s:List Span)(hc:c.length≤100000):As (Zn c s) λn=>
  -1≤n∧n≤1440∧(0≤n→∃S,Brs S s∧(S.length:Int)=n∧Af8 (c++S))∧∀S,Brs S s→Af8 (c++S)→0≤n∧n≤(S.length:Int):=by
 unfold Zn P4
 rw[if_pos (Zl (by omega))]
 simp only[R.ok_bind]
 refine BO (p:=λn=> -1≤n∧n≤1440∧(0≤n→∃S,Brs S s∧(S.length:Int)=n∧Af8 (c++S))∧∀S,Brs S s→Af8 (c++S)→0≤n∧n≤(S.length:Int)) (Aa1 (λs=>unc s.2) (λt=>∃P:List Span,t.1=(P.length:Int)∧t.2=c++P∧Brs P s∧P.length+unc t.2≤1440∧t.2.length+unc t.2≤200000∧∀S,Brs S s→Af8 (c++S)→∃O,Brs O s∧Af8 (t.2++O)∧P.length+O.length≤S.length) _ (λt ht=>?_) 1440 _ (A2r _) ⟨[],rfl,by simp,(λx V=>absurd V (by simp)),by simp only[DB];have:=A2r c;omega,by simp only;have:=A2r c;omega,λS h1 h2=>⟨S,h1,h2,by simp⟩⟩) λn hn=>.ok hn
 obtain⟨n,l1⟩:=t
 obtain⟨P,rfl,X,hP,hm,hl,hS⟩:=ht
 simp only[Ct]
 simp only at hm hl X hS
 subst X
 unfold W0
 rw[Asf]
 simp only[R.ok_bind]
 cases U:Zr [({From:=0,To:=1440}:Span)] (c++P)with
 |nil=>simp only[DB];refine CS rfl (.ok ⟨by omega,by omega,λ_=>⟨P,hP,rfl,B34 U⟩,λS h1 h2=>?_⟩);obtain⟨O,_,_,h3⟩:=hS S h1 h2;exact⟨by omega,by omega⟩
 |cons r rest=>
  obtain⟨f,ab,Y,Z,ac⟩:=B48 U;refine AN (λh=>absurd h (by simp;omega)) λ_=>?_;refine(B68 ab).bind λv hv=>?_;obtain⟨vF,vT⟩:=v;obtain⟨D,aa⟩:=hv;simp only at aa;have V:∀O,Brs O s→Af8 (c++P++O)→∃x∈O,x.From≤(f:Int)∧(f:Int)<x.To∧x.To≤vT:=λO h1 h2=>by
   rcases A5k.1 (h2 f Y)with h|h
   ·rw[Z]at h;cases h
   ·obtain⟨x,V,hi⟩:=Akn.1 h;obtain⟨q1,q2⟩:=Bmt.1 hi;exact⟨x,V,q1,q2,aa x (h1 x V) q1 q2⟩
  simp only[Ct];refine AN (λh0=>.ok ⟨by omega,by omega,λh=>absurd h (by decide),λS h1 h2=>?_⟩) λh0=>?_
  ·simp only[BN]at h0;obtain⟨O,g1,g2,_⟩:=hS S h1 h2;obtain⟨x,_,_,q2,q3⟩:=V O g1 g2;omega
  ·simp only[BN]at h0;rcases D with D|⟨y,hy,D,ad,ae⟩
   ·injection D with _ D;exact absurd D h0
   injection D with e1 e2;subst e1 e2;have af:unc (c++P++[y])<unc (c++P):=Bkp Y Z (Bmt.2 ⟨ad,ae⟩);refine CS (Zl (by simp only[AB];omega)) (.ok ⟨⟨P++[y],?_,by simp,λx V=>?_,?_,?_,λS h1 h2=>?_⟩,af⟩)
   ·simp only[AJ,AB];rw[Ok (by omega) (by omega)];omega
   ·rcases BG.1 V with h|h
    ·exact hP x h
    ·rw[AY.1 h];exact hy
   ·show(P++[y]).length+unc (c++P++[y])≤1440;simp only[AJ,AB];omega
   ·show(c++P++[y]).length+unc (c++P++[y])≤200000;simp only[AJ,AB]at hl ⊢;omega
   ·obtain⟨O,g1,g2,g3⟩:=hS S h1 h2;obtain⟨x,ag,q1,q2,q3⟩:=V O g1 g2;obtain⟨A,B,rfl⟩:=List.append_of_mem ag;refine⟨A++B,λz hz=>g1 z (by rcases BG.1 hz with h|h<;>simp[h]),λi hi=>?_,?_⟩
    ·by_cases hc:Xk (c++P) i=true
     ·exact A5k.2 (.inl (A5k.2 (.inl hc)))
     ·rcases A5k.1 (g2 i hi)with h|h
      ·exact absurd h hc
      ·have ah:f≤i:=by
        rcases BZ i f with h'|h'
        ·exact absurd (ac i h') hc
        ·exact h'
       obtain⟨z,hz,W⟩:=Akn.1 h
       obtain⟨z1,z2⟩:=Bmt.1 W
       rcases BG.1 hz with h|h
       ·exact A5k.2 (.inr (Akn.2 ⟨z,by simp[h],W⟩))
       ·rcases AM.1 h with h|h
        ·subst h;exact A5k.2 (.inl (A5k.2 (.inr (Akn.2 ⟨_,AY.2 rfl,Bmt.2 ⟨by simp only;omega,by simp only;omega⟩⟩))))
        ·exact A5k.2 (.inr (Akn.2 ⟨z,by simp[h],W⟩))
    ·simp only[AJ,AF,AB,DB]at g3 ⊢;omega
def Aq2 (l:List Rule)(i:Int):Span:=((l[i.toNat]?).map (·.Hours)).getD {From:=0,To:=0}
theorem Bok {l:List Rule}{s:List Int}(A:Uf l s)(R:s.length≤100000):K8 s l=.ok (s.map (Aq2 l)):=by unfold K8;have:As (eachS (λ_ a=>λD=>Z2 l a D) 0 s []) λr=>r=(s.take (0+s.length)).map (Aq2 l):=My (λk (r:List Span)=>r=(s.take k).map (Aq2 l)) s 0 [] (λj a r z hr=>by have S:=A6 z;obtain⟨h1,h2⟩:=A a (AP z);rw[AG]at hr ⊢;unfold Z2;refine FE h1 h2 λy O=>CS (Zl (by rw[hr];simp only[AL,CM,AB];omega)) (.ok ?_);rw[hr,EE,z];simp only[Option.toList_some,EF,BA,HE];congr 2;unfold Aq2;rw[O];rfl) rfl;obtain⟨r,h,hr⟩:=this;rw[h,hr,AG,EI];rfl
theorem B45 {l:List Rule}{s:List Int}(hs:Uf l s)(hn:s.length≤1000):As (Aan l s) λset=>set≠[]↔Af8 (s.map (Aq2 l)):=by
  unfold Aan;rw[Bok hs (by omega)];simp only[R.ok_bind];refine(B2r [] (s.map (Aq2 l)) (by simp)).bind λmany hm=>?_;obtain⟨m1,m2,m3,m4⟩:=hm;have X:Af8 (s.map (Aq2 l))→0≤many:=λh=>(m4 _ (λx z=>z) h).1;refine AN (λh0=>.ok ⟨λh=>absurd rfl h,λh=>by have:=X h;omega⟩) λh0=>?_;obtain⟨S,Y,ag,A⟩:=m3 (by omega);have A:Af8 S:=A;have V:Af8 (s.map (Aq2 l)):=λi hi=>by obtain⟨x,z,O⟩:=Akn.1 (A i hi);exact Akn.2 ⟨x,Y x z,O⟩
  have Z:S≠[]:=λe=>B61 (e▸A);obtain⟨p,pa,S',p1,p2,p3,p4⟩:=pick _ S Y Z;have ab:Af8 ([pa]++S'):=λi hi=>by
    obtain⟨x,z,O⟩:=Akn.1 (A i hi);rcases p4 x z with h|h
    · exact Akn.2 ⟨x,by simp[h],O⟩
    · exact Akn.2 ⟨x,by simp[h],O⟩
  refine BO (p:=λset=>set≠[]) (Aa1 (λt=>many.toNat-t.2.length) (λt=>t.1.length≤1000∧Uf l t.1∧Uf l t.2∧(t.2.length:Int)≤many∧(t.2=[]→t.1=s)) (λset=>set≠[]) (λt ht=>?_) many.toNat (s,[]) (by simp) ⟨hn,hs,(λx z=>absurd z (by simp)),by simp only[DB];omega,λ_=>rfl⟩) λr hr=>.ok ⟨λ_=>V,λ_=>hr⟩;obtain⟨s2,set⟩:=t;obtain⟨t1,t2,t3,t4,t5⟩:=ht;simp only at t1 t2 t3 t4 t5;simp only[Ct];unfold Vh;refine AN (λah=>?_) λaa=>.ok λe=>?_
  · refine GT (I := λ(v : List Int × List Int) => v.2 ≠ []) (J := λ(e : List Int × List Int) => e.1.length ≤ 1000 ∧ Uf l e.1 ∧ Uf l e.2 ∧ e.2.length = set.length + 1) ((Lu (λk (v : List Int × List Int) => v = (s2, set) ∧ (set = [] → k ≤ p)) (λ(e : List Int × List Int) => e.1.length ≤ 1000 ∧ Uf l e.1 ∧ Uf l e.2 ∧ e.2.length = set.length + 1) s2 0 (s2, set) (λj a v z hv => ?_) ⟨rfl, λ_ => CA _⟩).mono λr hr => by
        cases r with
        |inl v=>
          refine λe=>?_
          have e:set=[]:=by rw[hr.1]at e;exact e
          have h1:=hr.2 e
          rw[t5 e]at h1
          have h2:=A6 p1
          rw[AL]at h2
          omega
        |inr e=>exact hr) (λv hv=>.ok hv) λe he=>?_
    · obtain⟨hv,hk⟩:=hv
      subst hv
      have hj:j<s2.length:=A6 z
      simp only[Ct,AG]at hk ⊢
      unfold Aen Rl
      rw[if_pos (Zl (by omega))]
      simp only[R.ok_bind]
      have hw:IntKind.wrap .i64 ((j:Int)+1)=((j+1:Nat):Int):=by rw[Ok (by omega) (by omega)];omega
      have U:Uf l (set++[a]):=λx W=>by
        rcases BG.1 W with h|h
        · exact t3 x h
        · rw[AY.1 h];exact t2 a (AP z)
      have D:Uf l (s2.drop (j+1)):=λx W=>t2 x (BW W)
      have hdl:(s2.drop (j+1)).length≤1000:=by rw[BL];omega
      rw[hw]
      simp only[AX]
      refine CS (Zl (by simp only[AB];omega)) (CS (by omega) ?_)
      rw[Bok U (by rw[AJ,AB];omega),Bok D (by omega)]
      simp only[R.ok_bind]
      refine(B2r _ _ (by rw[AL,AJ,AB];omega)).bind λn hn=>?_
      obtain⟨n1,n2,n3,n4⟩:=hn
      refine AN (λ_=>CS (by omega) (.ok ⟨hdl,D,U,by rw[AJ,AB]⟩)) λac=>.ok ⟨rfl,λe=>?_⟩
      have ad:=hk e
      rcases Nat.eq_or_lt_of_le ad with rfl|h'
      · exfalso
        have ae:=t5 e
        subst e ae
        rw[BV,z]at p1
        simp only[BB,AW]at p1
        have:=n4 S' (λx z=>by rw[FC];exact p2 x z) (by simp only[CB,BA,HE,p1];exact ab)
        apply ac
        simp only[CB,AB,AH,AK]
        rw[Ok (by omega) (by omega)]
        exact⟨by omega,by omega⟩
      · omega
    · obtain⟨s4,af⟩:=e
      obtain⟨e1,e2,e3,e4⟩:=he
      simp only at e1 e2 e3 e4
      simp only[Ct]
      unfold Zi
      refine .ok ⟨⟨e1,e2,e3,by simp only;omega,λe=>?_⟩,by simp only;omega⟩
      simp only at e
      rw[e]at e4;simp at e4
  · have hl:S.length=0:=by rw[e]at aa;simp only[DB]at aa;omega
    exact Z (BP hl)
def Blb (a:Airspace)(c p:Int):List Span:=(a.Rules.filter λr=>((r.Kind==1)&&(r.Class==c))&&(r.Airport==p)).map (·.Hours)
theorem B4c (s t:List Int):As (Qg s t) λr=>r=[]→s=[]∧t=[]:=by
 unfold Qg;have z:s≠[]→t≠[]→∀b,As (G7 s t b) λr=>r=[]→s=[]∧t=[]:=λh1 h2 b=>by unfold G7;exact AN (λ_=>.ok λh=>absurd h h1) λ_=>.ok λh=>absurd h h2
 cases s with
 |nil=>exact AN (λh=>absurd h (by simp)) λ_=>by unfold G7;exact AN (λh=>by cases h) λ_=>.ok λh=>⟨rfl,h⟩
 |cons x s=>
  refine AN (λ_=>?_) λh=>absurd (by simp<;>omega) h;cases t with
  |nil=>exact AN (λ_=>by unfold G7;exact AN (λ_=>.ok λh=>by(cases h)) λh=>absurd rfl h) λh=>absurd rfl h
  |cons y t=>refine AN (λh=>absurd h (by simp<;>omega)) λ_=>(Asj _ _).bind λ_ _=>(A0f _ _).bind λ_ _=>(Bld _).bind λ_ _=>z (by simp) (by simp) _
theorem B7e (a:Airspace)(c p:Nat)(U:a.Rules.length≤64):As (eachS (λR S=>λs=>Acw c p R S s) 0 a.Rules []) λs=>Uf a.Rules s∧s.length≤1000∧s.map (Aq2 a.Rules)=Blb a c p:=by
 refine(My (λk (s:List Int)=>Uf a.Rules s∧s.length≤k∧s.map (Aq2 a.Rules)=((a.Rules.take k).filter λr=>((r.Kind==1)&&(r.Class==(c:Int)))&&(r.Airport==(p:Int))).map (·.Hours)) a.Rules 0 [] (λj r s z A=>?_) ⟨(λx z=>absurd z (by simp)),AI _,rfl⟩).mono λs A=>⟨A.1,by have:=A.2.1;omega,by rw[A.2.2,AG,EI];rfl⟩;have V:=A6 z;obtain⟨h1,h2,O⟩:=A;rw[AG]at h2 O ⊢;have e:a.Rules.take (j+1)=a.Rules.take j++[r]:=by rw[EE,z];rfl
 rw[e,List.filter_append,EF,←O];unfold Acw;refine AN (λD=>CS (Zl (by simp only[AB];omega)) (.ok ⟨λx z=>?_,?_,?_⟩)) λD=>.ok ⟨h1,by omega,?_⟩
 ·rcases BG.1 z with h|h
  ·exact h1 x h
  ·rw[AY.1 h];omega
 ·rw[AJ,AB];omega
 ·rw[EF,List.filter_cons_of_pos (by exact D)];simp only[BA,HE,List.filter_nil];congr 2;unfold Aq2;rw[AX,z];rfl
 ·rw[List.filter_cons_of_neg (by exact D)];simp
theorem B4d (a:Airspace):As (Xz a) λr=>(Tv a=.ok 0→r.2=0)∧(r.2=0→r.1=[]→∀c p:Nat,c<a.Classes.length→p<a.Airports.length→¬Af8 (Blb a c p)):=by
 unfold Xz;obtain⟨e,hc,he⟩:=Aop a;rw[hc,R.ok_bind];refine AN (λh=>.ok ⟨λh0=>absurd (by injection h0) (by simpa using h),λh0=>absurd (by simpa using h0) (by simpa using h)⟩) λh=>?_;have O:=he (by simpa using h);unfold Wy;simp only[R.ok_bind];have hj:∀o,As (O9 a o) λr=>((R.ok e:R Int)=.ok 0→r.2=0)∧(r.2=0→r.1=[]→∀c p:Nat,c<a.Classes.length→p<a.Airports.length→¬Af8 (Blb a c p)):=λo=>by
  unfold O9;refine BO (p:=λ(z:List Int)=>z=[]→∀c p:Nat,c<a.Classes.length→p<a.Airports.length→¬Af8 (Blb a c p)) ((My (λk (z:List Int)=>z=[]→∀c p:Nat,c<k→p<a.Airports.length→¬Af8 (Blb a c p)) a.Classes 0 o (λj x z hx h2=>?_) (λ_ c p h=>absurd h (DZ _))).mono λz h2=>by rwa[AG]at h2) λz h2=>.ok ⟨λ_=>rfl,λ_=>h2⟩;rw[AG]at h2 ⊢;unfold Ack;refine BO (p:=λ(A:List Int)=>A=[]→z=[]∧∀p:Nat,p<a.Airports.length→¬Af8 (Blb a j p)) ((My (λk (A:List Int)=>A=[]→z=[]∧∀p:Nat,p<k→¬Af8 (Blb a j p)) a.Airports 0 z (λU x1 A aa D=>?_) (λh=>⟨h,λp h=>absurd h (DZ _)⟩)).mono λA D=>by rwa[AG]at D) λA D=>.ok λe c p hc hp=>?_
  ·rw[AG]at D ⊢;unfold Ada;refine(B7e a j U O).bind λs V=>(B45 V.1 V.2.1).bind λr3 S=>(B4c r3 A).bind λr4 W=>.ok λe=>?_;rw[V.2.2]at S;obtain⟨X,Y⟩:=W e;obtain⟨Y,Z⟩:=D Y;refine⟨Y,λp hp=>?_⟩;rcases BZ p U with h'|h'
   ·exact Z p h'
   ·have:p=U:=by omega
    subst this
    exact λhf=>absurd X (S.2 hf)
  ·obtain⟨X,Z⟩:=D e;rcases BZ c j with h'|h'
   ·exact h2 X c p h' hp
   ·have:c=j:=by omega
    subst this
    exact Z p hp
 refine BO (p:=T1) (Ba4 a.Rules.length (by omega) _ λx y hx hy=>As.np (Bea a x y hx hy)) λr _=>?_;cases r with
 |inl u=>exact hj _
 |inr o=>exact hj _
variable{a:Airspace}
theorem B5e{c:Int}(h:Tv a=.ok 0)(z:0≤c∧c<(a.Classes.length:Int)):Tx a c=.ok 0:=by unfold Tx;rw[h,R.ok_bind,if_neg (by decide),if_neg (by simp<;>omega)]
theorem B5m(h:Tv a=.ok 0)(c p:Nat)(z:c<a.Classes.length)(hp:p<a.Airports.length):X6 a c p=.ok (Bf8 (Blb a c p) [],0):=by
 have D:a.Rules.length≤64:=by obtain⟨e,O,h1⟩:=Aop a;rw[h]at O;cases O;exact h1 rfl
 unfold X6;rw[B5e h (by omega),R.ok_bind,if_neg (by decide),if_neg (by simp<;>omega)];have:As (eachS (λ_ a1=>λl=>Acq c p a1 l) 0 a.Rules []) λs=>s=Blb a c p:=(My (λk (s:List Span)=>s.length≤k∧s=((a.Rules.take k).filter λr=>((r.Kind==1)&&(r.Class==(c:Int)))&&(r.Airport==(p:Int))).map (·.Hours)) a.Rules 0 [] (λj r s S A=>by
  have V:=A6 S;obtain⟨h2,U⟩:=A;rw[AG]at h2 U ⊢;have e:a.Rules.take (j+1)=a.Rules.take j++[r]:=by rw[EE,S];rfl
  rw[e,List.filter_append,EF,←U];unfold Acq;refine AN (λz=>CS (Zl (by simp only[AB];omega)) (.ok ⟨?_,?_⟩)) λz=>.ok ⟨by omega,?_⟩
  ·rw[AJ,AB];omega
  ·rw[List.filter_cons_of_pos (by exact z)];rfl
  ·rw[List.filter_cons_of_neg (by exact z)];simp) ⟨AI _,rfl⟩).mono λs A=>by rw[A.2,AG,EI];rfl
 obtain⟨s,h1,h2⟩:=this;rw[h1,h2,R.ok_bind];unfold Ab5;rw[B1a];rfl
theorem B2s(a b:List Span)(h:i<1440):Xk (Bf8 a b) i=(Xk a i||Xk b i):=by unfold Bf8;rw[Ajm _ 0 none i (λf hf=>by cases hf)];simp only[CA,FH,DH,FM,FR];rw[CF,BV,DY h];simp[h]
variable{d:List Int}
theorem Ge.of_set{j:Nat}{v:Int}(h:Ge (d.set j v) i):Ge d i∨i=j:=by
 by_cases e:j=i
 ·exact .inr e.symm
 ·obtain⟨w,h1,h2⟩:=h;rw[EP e]at h1;exact .inl ⟨w,h1,h2⟩
variable{x:Nat}
theorem B5v{n M:Nat}{l:Dv}{s:List Int×List Int}(hl:l.length=n)(hn:n≤32)(hM:M≤1000)(hs:Srch n M s)(h1:x<n)(hx:Ge s.1 x):
  As (Pg l (x:Int) (λa2 z_=>R.np ((Ct λl3 l4=>Ir (x:Int) a2 l3 l4) z_)) s) λt=>Srch n M t∧Nx l x s.1 s.2 n t:=by
 unfold Pg
 refine BO (p:=λt=>Srch n M t∧Nx l x s.1 s.2 n t) ((My (λk t=>Srch n M t∧Nx l x s.1 s.2 k t) l 0 s (λj a t Z ht=>?_) ⟨hs,λi h=>h,λi h=>.inl h,λv h=>h,λv h=>.inl h,λj h=>absurd h (DZ _)⟩).mono λt ht=>by rwa[AG,hl]at ht) λt ht=>.ok ht
 have ab:j<l.length:=A6 Z
 rw[AG]at ht ⊢
 obtain⟨Y,z⟩:=ht
 unfold Oq
 have V:¬E l x j→As (O2 t) λt=>Srch n M t∧Nx l x s.1 s.2 (j+1) t:=λhE=>.ok ⟨Y,z.up,z.new,z.que,z.bac,λi hi A=>by
  rcases BZ i j with h'|h'
  ·exact z.all i h' A
  ·have:i=j:=by omega
   subst this;exact absurd A hE⟩
 refine AN (λS=>FE (by omega) (by omega) λp hp=>?_) λS=>V λh=>S (by simp only[ID,ne_eq];intro e;exact h.1 (by omega))
 rw[AX]at hp
 have W:x≠j:=λe=>by subst e;simp at S
 obtain⟨b,hb,_⟩:=Bcz p a
 rw[hb,R.ok_bind]
 cases b with
 |false=>refine AN (λh=>by cases h) λ_=>V λh=>?_;obtain⟨_,p',q',g1,g2,g3⟩:=h;rw[hp]at g1;rw[Z]at g2;cases g1;cases g2;rw[hb]at g3;cases g3
 |true=>
  refine AN (λ_=>?_) λh=>absurd rfl h;have hE:E l x j:=⟨W,p,a,hp,Z,hb⟩;obtain⟨d,q⟩:=t;obtain⟨u,D,hS⟩:=Bi0 (a1:=(x:Int)) (a2:=(j:Int)) hn hM Y ⟨by omega,by omega⟩ ⟨by omega,by omega⟩;refine BO (p:=λw=>w=u) (As.np ⟨u,D,rfl⟩) λw hw=>?_;subst hw;refine .ok ⟨hS,?_⟩;simp only[Ct]at D;unfold Ir at D;have X:=Y.len;simp only at X;have O:j<d.length:=by omega
  rw[Zo (AA O),R.ok_bind]at D;by_cases h0:d[j]≥0
  ·rw[if_pos h0]at D;cases D;refine⟨z.up,z.new,z.que,z.bac,λi hi A=>?_⟩;rcases BZ i j with h'|h'
   ·exact z.all i h' A
   ·have:i=j:=by omega
    subst this;exact⟨_,AA O,h0⟩
  ·rw[if_neg h0]at D;obtain⟨v,U,ac⟩:=z.up x hx;simp only at U;rw[Zo U,R.ok_bind]at D;split at D
   ·cases D;have aa:=Y.val v (AP U);simp only at aa;have hw:IntKind.wrap .i64 (v+1)=v+1:=Ok (by omega) (by omega);rw[hw,AX];refine⟨λi h=>(z.up i h).set (by omega),λi h=>?_,λv h=>GF _ (z.que v h),λy hy=>?_,λi hi A=>?_⟩
    ·rcases h.of_set with h|h
     ·rcases z.new i h with h|h
      ·exact .inl h
      ·exact .inr ⟨h.1,GF _ h.2⟩
     ·subst h;exact .inr ⟨hE,HA _ (AY.2 rfl)⟩
    ·rcases BG.1 hy with h|h
     ·rcases z.bac y h with h|h
      ·exact .inl h
      ·exact .inr (h.set (by omega))
     ·rw[AY.1 h,AX];exact .inr ⟨v+1,by simp only;rw[AZ O],by omega⟩
    ·rcases BZ i j with h'|h'
     ·exact(z.all i h' A).set (by omega)
     ·have:i=j:=by omega
      subst this
      exact⟨v+1,by simp only;rw[AZ O],by omega⟩
   ·cases D
theorem B2q (l:Dv)(x:Nat)(h1:x<l.length)(h2:l.length≤32):As (Mw l (x:Int)) (Fnd l x):=by
 unfold Mw;refine(A60 l.length (by omega) h2).bind λr hr=>?_;subst hr;refine FE (by omega) (by simp;omega) λa _=>?_;rw[AX];have hc:neg ((List.replicate l.length (-1)).set x 0)≤l.length:=by unfold neg;refine BT HD (by simp)
 have ac:neg ((List.replicate l.length (-1:Int)).set x 0)+1=l.length:=by
  unfold neg;have hi:x<(List.replicate l.length (-1:Int)).length:=by simpa using h1
  rw[List.countP_set hi];simp[List.countP_replicate];omega
 have U:Ge ((List.replicate l.length (-1:Int)).set x 0) x:=⟨0,by rw[AZ (by simpa using h1)],DW _⟩;have z:∀i,Ge ((List.replicate l.length (-1:Int)).set x 0) i→i=x:=λi h=>by
  rcases h.of_set with⟨v,h,h0⟩|h
  ·have:=AP h;simp only[HU]at this;omega
  ·exact h
 refine BO (p:=Fnd l x) (Aa1 (λs=>2*neg s.1+s.2.length) (λs=>Srch l.length 1000 s∧Ge s.1 x∧(∀v∈s.2,Ge s.1 v.toNat)∧(∀i j,Ge s.1 i→E l i j→(i:Int)∈s.2∨Ge s.1 j)∧∀i,Ge s.1 i→Rch l x i) (Fnd l x) (λs O=>?_) 1000 _ ?_ ?_) λd hd=>.ok hd
 ·obtain⟨d,q⟩:=s;obtain⟨O,s1,s2,Z,Y⟩:=O;simp only at s1 s2 Z Y;simp only[Ct];unfold Mi;refine AN (λA=>?_) λA=>.ok ⟨O.len,λv D=>(O.val v D).1,s1,λi j hi hE=>?_,Y⟩
  ·cases q with
   |nil=>simp at A
   |cons y q=>
    have hq:=O.que y (by simp);obtain⟨w,rfl⟩:=CE hq.1;have V:=s2 _ (by simp:((w:Nat):Int)∈((w:Nat):Int)::q);rw[AX]at V;refine FE (DW 0) (by simp) λa1 W=>?_;simp only[Int.toNat_zero,DL,AW]at W;subst W;refine CS ⟨by omega,by simp only[AF];omega⟩ ?_;unfold Vl;simp only[R.ok_bind];have X:=O.mes;simp only[AF]at X;have aa:Srch l.length (2*neg d+q.length) (d,(((w:Nat):Int)::q).drop 1):=⟨O.len,O.val,λx hx=>O.que x (by simp only;exact BW hx),by simp⟩;refine(B5v rfl h2 (by omega) aa (by omega) V).bind λt ht=>?_;obtain⟨d',q'⟩:=t;obtain⟨ht,S⟩:=ht;have ab:(((w:Nat):Int)::q).drop 1=q:=rfl;rw[ab]at S;refine .ok ⟨⟨⟨ht.len,ht.val,ht.que,?_⟩,S.up _ s1,λv D=>?_,λi j hi hE=>?_,λi hi=>?_⟩,?_⟩
    ·have:=ht.mes;simp only at this ⊢;omega
    ·rcases S.bac v D with h|h
     ·exact S.up _ (s2 v (BC _ h))
     ·exact h
    ·simp only at hi ⊢;rcases S.new i hi with h|h
     ·rcases Z i j h hE with h'|h'
      ·rcases AM.1 h' with e|h'
       ·have:i=w:=by omega
        subst this
        exact .inr (S.all j (by obtain⟨_,_,_,_,hj,_⟩:=hE;exact A6 hj) hE)
       ·exact .inl (S.que _ h')
      ·exact .inr (S.up _ h')
     ·exact .inl h.2
    ·rcases S.new i hi with h|h
     ·exact Y i h
     ·exact(Y w V).cons h.1
    ·have:=ht.mes;simp only[AF]at this ⊢;omega
  ·cases q with
   |nil=>
    rcases Z i j hi hE with h|h
    ·cases h
    ·exact h
   |cons y q=>exact absurd (by simp only[AF];omega) A
 ·simp only[AB];omega
 ·refine⟨⟨by simp,λv D=>?_,λq hq=>by simp at hq;omega,?_⟩,U,λv D=>?_,λi j hi hE=>?_,λi hi=>?_⟩
  ·simp only at D ⊢;rcases GJ D with D|rfl
   ·simp only[HU]at D;omega
   ·omega
  ·simp only[AB];omega
  ·simp only[AY]at D;subst D;rw[AX];exact U
  ·rw[z i hi];exact .inl (by simp)
  ·rw[z i hi];exact .nil
theorem B55 (l:List Int):As (Kr l (-1)) λv=>v<0↔(-1:Int)∉l:=by
 unfold Kr;refine GT (I:=λ_=>(-1:Int)∉l) (J:=λv=>0≤v∧(-1:Int)∈l) ((Lu (λk _=>(-1:Int)∉l.take k) (λv=>0≤v∧(-1:Int)∈l) l 0 () (λj a s z A=>?_) (by simp)).mono λr hr=>?_) (λ_ h=>.ok ⟨λ_=>h,λ_=>by decide⟩) λv h=>.ok ⟨λh'=>by omega,λh'=>absurd h.2 h'⟩
 ·rw[AG]at A ⊢;unfold Hu;refine AN (λh=>.ok ⟨by omega,?_⟩) λh=>.ok ?_
  ·simp only[BN]at h;exact AP (by rw[z,←h])
  ·simp only[BN]at h;show(-1:Int)∉l.take (j+1);rw[EE,z,BG,not_or];exact⟨A,λD=>by simp at D;exact h (by omega)⟩
 ·cases r with
  |inl u=>show(-1:Int)∉l;have:(-1:Int)∉l.take (0+l.length):=hr;rwa[AG,EI]at this
  |inr e=>exact hr
theorem Fnd.ge_all{l:Dv}(h:Fnd l x d):((-1:Int)∉d)↔∀i,i<l.length→Ge d i:=by
 constructor
 ·intro z i hi;have hi':i<d.length:=by rw[h.len];exact hi
  refine⟨d[i],AA hi',?_⟩;have h1:=h.low d[i] (BR hi');by_cases e:d[i]= -1
  ·exact absurd (e▸BR hi') z
  ·omega
 ·intro O z;obtain⟨j,A⟩:=DJ.1 z;obtain⟨v,D,h0⟩:=O j (by rw[←h.len];exact A6 A);rw[A]at D;cases D;omega
variable{α:Type}{b:Nat→α→Unit→R (Unit ⊕ Int)}{F:α→R Bool}
theorem B54(f:α→Bool)(z:∀j a,b j a ()=(F a).bind λr=>if r then .ok (.inr ((j:Int)))else .ok (.inl ()))(l:List α)(A:∀a,F a=.ok (f a)):
  ((each b 0 l ()).bind (alt (λ_=>.ok (-1)) (λr=>.ok r))).bind (λr=>.ok (decide (r≥0)))=.ok (l.any f):=by
 have key:∀(l:List α) (k:Nat),(∃j:Nat,each b k l ()=.ok (.inr (j:Int))∧l.any f=true)∨(each b k l ()=.ok (.inl ())∧l.any f=false):=by
  intro l;induction l with
  |nil=>intro k;exact .inr ⟨rfl,rfl⟩
  |cons a l D=>
   intro k;rw[Abg,z,A,R.ok_bind];cases h:f a with
   |true=>exact .inl ⟨k,rfl,by simp[h]⟩
   |false=>
    rcases D (k+1)with⟨j,h1,h2⟩|⟨h1,h2⟩
    ·exact .inl ⟨j,h1,by simp[h2]⟩
    ·exact .inr ⟨h1,by simp[h,h2]⟩
 rcases key l 0 with⟨j,h1,h2⟩|⟨h1,h2⟩
 ·rw[h1,h2];show R.ok (decide ((j:Int)≥0))=_;rw[DM (by omega)]
 ·rw[h1,h2];rfl
theorem Bgq(f:α→Bool)(z:∀j a,b j a ()=(F a).bind λr=>if r then .ok (.inr ((j:Int)))else .ok (.inl ()))(l:List α)(A:∀a,F a=.ok (!f a)):
  (((each b 0 l ()).bind (alt (λ_=>.ok (-1)) (λr=>.ok r))).bind (λr=>.ok (decide (r≥0)))).bind (λr=>.ok (!r))=.ok (l.all f):=by
 rw[B54 (λa=>!f a) z l A,R.ok_bind]
 congr 1
 induction l with
 |nil=>rfl
 |cons a l D=>simp only[HV,CU,Bool.not_or,Bool.not_not,D]
theorem Bzy (n a b:Int):Hj n a b=.ok (inB n a b):=rfl
theorem A5m {c d:Bool}{m:R Bool}(h:m=.ok d):(if c=true then m else R.ok false)=.ok (c&&d):=by
 cases c with
 |true=>rw[if_pos rfl,h];rfl
 |false=>rfl
theorem B12 (l:List Span):T4 l=.ok (if l.all A2d then 0 else 50):=by
 unfold T4 Jl L9;rw[B54 (F:=Y5) (λs=>!A2d s) (λ_ _=>rfl) l λs=>by unfold Y5 A2d;rw[Bool.not_not],R.ok_bind];have:(l.any λs=>!A2d s)=!l.all A2d:=by
  induction l with
  |nil=>rfl
  |cons a l z=>simp only[HV,CU,Bool.not_and,z]
 rw[this];cases l.all A2d<;>rfl
theorem B46 (g:Leg)(t:Tables):P1 g t=.ok (B3p t g):=by
 unfold P1;have e:∀b:Bool,((if b=true then(0:Int)else 50)==0)=b:=λb=>by cases b<;>rfl
 simp only[Bzy,B12,R.ok_bind,e,A5m (rfl:R.ok (inB g.Volume 0 (IntKind.wrap .i64 (t.Volumes-1)))=_),A5m (rfl:R.ok (inB g.Length 1 4096)=_),A5m (rfl:R.ok (g.Minutes.all A2d)=_)];rfl
theorem B5p (l:List Way)(t:Tables):Nr l t=.ok (l.all (B1d t)):=by unfold Nr Ki Ni;refine Bgq (F:=λw=>Ny w t) (B1d t) (λ_ _=>rfl) l λw=>?_;show Ny w t=_;unfold Ny Uu Mr R8 Kd Na;rw[Bgq (F:=λg=>Ns g t) (B3p t) (λ_ _=>rfl) w.Legs λg=>by show Ns g t=_;unfold Ns;rw[B46];rfl];simp only[Bzy,R.ok_bind,A5m (rfl:R.ok (inB w.To 0 (IntKind.wrap .i64 ((t.Modes.length:Int)-1)))=_),A5m (rfl:R.ok (inB (w.Legs.length:Int) 1 8)=_),A5m (rfl:R.ok (w.Legs.all (B3p t))=_)];rfl
def A86:List (Int×Int×Int)→List Int
 |[]=>[]
 |(x,lo,hi)::l=>x::lo::hi::A86 l
theorem Bzw:∀l,(A86 l).length=3*l.length
 |[]=>rfl
 |(x,lo,hi)::l=>by simp only[A86,AF,Bzw l];omega
theorem B23:∀(l:List (Int×Int×Int)) (k:Nat) (x lo hi:Int),l[k]?=some (x,lo,hi)→(A86 l)[3*k]?=some x∧(A86 l)[3*k+1]?=some lo∧(A86 l)[3*k+2]?=some hi
 |[],k,x,lo,hi,h=>by simp at h
 |(y,a,b)::l,0,x,lo,hi,h=>by simp at h;obtain⟨rfl,rfl,rfl⟩:=h;exact⟨rfl,rfl,rfl⟩
 |(y,a,b)::l,k+1,x,lo,hi,h=>by have:=B23 l k x lo hi (by simpa using h);rw[show 3*(k+1)=3*k+1+1+1 by omega];simpa[A86]using this
theorem B02 (ts:List (Int×Int×Int))(z:ts.length≤100):∀(n k:Nat),k+n=ts.length→loop (λi=>Acx (A86 ts) i) ((3*k:Nat):Int)=.ok (if(ts.drop k).all ok3 then .inl ()else .inr false)
 |0,k,h=>by rw[Ms];unfold Acx;rw[Ok (by omega) (by omega),if_neg (by rw[Bzw];omega),DG (by omega)];rfl
 |n+1,k,h=>by
  have hk:k<ts.length:=by omega
  obtain⟨g1,A,g3⟩:=B23 ts k ts[k].1 ts[k].2.1 ts[k].2.2 (AA hk);have D:=B02 ts z n (k+1) (by omega);rw[EO hk,CU];rw[Ms];unfold Acx;have O:IntKind.wrap .i64 (((3*k:Nat):Int)+1)=((3*k+1:Nat):Int):=by rw[Ok (by omega) (by omega)];omega
  have S:IntKind.wrap .i64 (((3*k:Nat):Int)+2)=((3*k+2:Nat):Int):=by rw[Ok (by omega) (by omega)];omega
  have U:IntKind.wrap .i64 (((3*k:Nat):Int)+3)=((3*(k+1):Nat):Int):=by rw[Ok (by omega) (by omega)];omega
  rw[O,S,if_pos (by rw[Bzw];omega),Zo g1,R.ok_bind,Zo A,R.ok_bind];unfold Pe;rw[U,Zo g3];simp only[R.ok_bind,ok3];by_cases h1:ts[k].1<ts[k].2.1
  ·simp only[DM h1,if_true,GH,HN,AE,if_false];rfl
  ·simp only[ER h1,if_false,Bool.not_false,DH,AE];by_cases h2:ts[k].1>ts[k].2.2
   ·simp only[DM h2,if_true,GH,HN,AE,if_false];rfl
   ·simp only[ER h2,if_false,Bool.not_false,DH,AE];exact D
theorem B1w (ts:List (Int×Int×Int))(z:ts.length≤100):Yw (A86 ts)=.ok (ts.all ok3):=by unfold Yw;rw[show(0:Int)=((3*0:Nat):Int)from rfl,B02 ts z ts.length 0 (AG _),DQ];cases ts.all ok3<;>rfl
theorem B43 (k:Kind):Ae1 k=.ok (if Bk1 k then 0 else 120):=by
 unfold Ae1 V2 Er E6;have e:∀b:Bool,((if b=true then(0:Int)else 50)!=0)=!b:=λb=>by cases b<;>rfl
 rw[show([k.Slow,1,64,k.Fast,k.Slow,64,k.Places,1,8,k.Weight,1,8,k.Longest,0,60,(k.Curfews.length:Int),0,16]:List Int)=A86 [(k.Slow,1,64),(k.Fast,k.Slow,64),(k.Places,1,8),(k.Weight,1,8),(k.Longest,0,60),((k.Curfews.length:Int),0,16)]from rfl,B1w _ (by simp)];rw[Bgq (F:=Nt) (λl=>l.all A2d) (λ_ _=>rfl) k.Curfews λl=>by unfold Nt;rw[B12,R.ok_bind,e]];simp only[R.ok_bind];unfold Bk1;generalize [(k.Slow,1,64),(k.Fast,k.Slow,64),(k.Places,1,8),(k.Weight,1,8),(k.Longest,0,60),((k.Curfews.length:Int),0,16)].all ok3=b;generalize (k.Curfews.all λl=>l.all A2d)=c;cases b<;>cases c<;>cases((Int.tmod k.Longest 10)!=0)<;>rfl
theorem B4e (l:List Kind)(t:Tables):L3 l t=.ok (l.all λk=>Bk1 k&&((k.Curfews.length:Int)==(t.Modes.length:Int))):=by unfold L3 Ji Ml;refine Bgq (F:=λw=>Lv w t) (λk=>Bk1 k&&((k.Curfews.length:Int)==(t.Modes.length:Int))) (λ_ _=>rfl) l λk=>?_;show Lv k t=_;unfold Lv Ul;rw[B43];cases Bk1 k<;>rfl
variable{t:Tables}
theorem B6w(h:Ky t=.ok 0):Valid t:=by
 unfold Ky at h;obtain⟨r,_,h⟩:=R.ok_of h;obtain⟨b,_,h⟩:=R.ok_of h;obtain⟨b1,_,h⟩:=R.ok_of h;split at h
 ·cases h
 obtain⟨S,_,h⟩:=R.ok_of h;obtain⟨U,D,h⟩:=R.ok_of h;obtain⟨V,O,h⟩:=R.ok_of h;split at h
 ·cases h
 rename_i z;split at O
 ·cases O;exact absurd rfl z
 rename_i A;rw[B4e,R.ok_bind]at O;cases O;split at D
 ·cases D;exact absurd rfl A
 rw[B5p,R.ok_bind]at D;cases D;simp only[Bool.not_eq_true,DO,Bool.not_eq_false']at A z;exact⟨AS.1 A.1,λk hk=>by have:=AS.1 z k hk;rw[AH]at this;exact this.1⟩
theorem B6r{w:Way}(h:B1d t w=true):∀g∈w.Legs,(1≤g.Length∧g.Length≤4096)∧g.Minutes≠[]∧∀s∈g.Minutes,0≤s.From∧s.From<s.To∧s.To≤1440:=by intro g z;unfold B1d at h;simp only[AH,AS]at h;have:=h.2 g z;unfold B3p inB at this;simp only[AH,AK,AS]at this;obtain⟨⟨⟨_,h1⟩,h2⟩,A⟩:=this;refine⟨by omega,λe=>by rw[e]at h2;simp at h2,λs D=>?_⟩;have:=A s D;unfold A2d at this;simp only[CR,DO,BS]at this;omega
theorem B7x(h:Sr a=.ok 0)(z:P0 a=.ok 0):∃l,Mq a=.ok (l,true)∧l.length=a.Configs.length∧1≤l.length∧l.length≤32∧∃d,Fnd l 0 d∧∀i,i<l.length→Ge d i:=by
 unfold Sr at h;obtain⟨r,hr,h⟩:=R.ok_of h;have h2:r.2=true:=by
  cases U:r.2 with
  |true=>rfl
  |false=>rw[U,if_neg (by decide)]at h;cases h
 obtain⟨l,b⟩:=r;simp only at h2;subst h2;obtain⟨Y,A,V⟩:=Ao6 a;rw[hr]at A;cases A;obtain⟨h1,h2,W⟩:1≤l.length∧l.length≤32∧l.length=a.Configs.length:=V rfl;refine⟨l,hr,W,h1,h2,?_⟩;obtain⟨d,D,S⟩:=B2q l 0 (by omega) h2;have D:Mw l 0=.ok d:=D;refine⟨d,S,S.ge_all.1 ?_⟩;unfold P0 Wo at z;rw[hr,R.ok_bind,if_pos rfl,D,R.ok_bind]at z;obtain⟨v,X,O⟩:=B55 d;rw[X,R.ok_bind]at z;refine O.1 ?_;rcases Int.lt_or_le v 0 with h'|h'
 ·exact h'
 ·rw[if_pos h']at z;cases z
theorem B52(h:Sr a=.ok 0)(z:P0 a=.ok 0)(j:Nat)(X:j<a.Configs.length):As (Atn a (j:Int)) λr=>r.2=0∧r.1.length=a.Configs.length:=by obtain⟨l,U,V,h1,h2,Y,D,A⟩:=B7x h z;unfold Atn;rw[U,R.ok_bind,if_neg (by simp only[GH,FR,BQ,AK];omega)];refine(B2q l j (by omega) h2).bind λd O=>?_;have W:=D.all A O (by omega);refine BO (p:=λ(r:List Int)=>r.length=d.length) ((My (λk (r:List Int)=>r.length=k) d 0 [] (λi v s hi z=>?_) rfl).mono λs z=>by rwa[AG]at z) λs z=>.ok ⟨rfl,by rw[z,O.len,V]⟩;rw[AG]at z ⊢;have hi':=A6 hi;have S:=O.len;unfold A2o;obtain⟨w,hw,h0⟩:=W i (by omega);rw[hi]at hw;cases hw;refine CS h0 (CS (Zl (by simp only[AB];omega)) (.ok ?_));rw[AJ,AB,z]
theorem B8z(h:Xk l i=true):l≠[]:=λe=>by rw[e]at h;cases h
theorem B5x(z:l≠[])(h:∀s∈l,0≤s.From∧s.From<s.To∧s.To≤1440):∃r,Ab5 l=.ok r∧r≠[]:=by
 refine⟨Bf8 l [],by unfold Ab5;rw[B1a];rfl,?_⟩;cases l with
 |nil=>exact absurd rfl z
 |cons s l=>
  obtain⟨h1,h2,D⟩:=h s BM;obtain⟨f,hf⟩:=CE h1;have A:f<1440:=by omega
  refine B8z (i:=f) ?_;rw[B2s _ _ A];have:Xk (s::l) f=true:=Akn.2 ⟨s,BM,Bmt.2 ⟨by omega,by omega⟩⟩;rw[this];rfl
theorem B6n {k:Kind}{n:Int}(hk:Bk1 k=true)(h1:1≤n)(h2:n≤4096):As (A2b k n) λr=>r.2=0∧1≤r.1.Lo∧r.1.Lo≤r.1.Hi:=by
 have z:(1≤k.Slow∧k.Slow≤64)∧k.Slow≤k.Fast∧k.Fast≤64:=by unfold Bk1 at hk;simp only[AH,CU,ok3,CR,BS]at hk;omega
 have A:∀s:Int,1≤s→s≤64→Akc n s=.ok ((n+s-1)/s):=λs D O=>by unfold Akc;rw[if_pos (by omega)];have S:IntKind.wrap .i64 (n+s)=n+s:=Ok (by omega) (by omega);have U:IntKind.wrap .i64 (n+s-1)=n+s-1:=Ok (by omega) (by omega);rw[S,U,Int.tdiv_eq_ediv_of_nonneg (by omega)];have V:0≤(n+s-1)/s:=Int.ediv_nonneg (by omega) (by omega);have W:(n+s-1)/s≤n+s-1:=Int.ediv_le_self _ (by omega);rw[Ok (by omega) (by omega)]
 unfold A2b;rw[B43,hk,R.ok_bind,if_pos rfl,if_neg (by decide)];unfold A51;rw[show([n,1,4096]:List Int)=A86 [(n,1,4096)]from rfl,B1w _ (by simp)];simp only[R.ok_bind];rw[if_pos (by simp only[CU,List.all_nil,ok3,FD,AH,CR,BS];omega)];unfold Aq8;simp only;rw[A k.Fast (by omega) (by omega),A k.Slow (by omega) (by omega)];refine .ok ⟨rfl,?_,?_⟩
 ·show 1≤(n+k.Fast-1)/k.Fast;rw[Int.le_ediv_iff_mul_le (by omega)];omega
 ·show(n+k.Fast-1)/k.Fast≤(n+k.Slow-1)/k.Slow;have e:∀s:Int,1≤s→(n+s-1)/s=(n-1)/s+1:=λs z=>by rw[show n+s-1=(n-1)+1*s by omega,Int.add_mul_ediv_right _ _ (by omega)]
  rw[e _ (by omega),e _ (by omega)];have:(n-1)/k.Fast≤(n-1)/k.Slow:=by rw[Int.le_ediv_iff_mul_le (by omega)];have D:=Int.ediv_mul_le (n-1) (b:=k.Fast) (by omega);have O:0≤(n-1)/k.Fast:=Int.ediv_nonneg (by omega) (by omega);exact Int.le_trans (HG z.2.1 O) D
  omega
theorem B5j(h:¬Af8 l):Axb l {From:=0,To:=1440}=.ok false:=by
 unfold Axb;rw[if_neg (by decide),if_pos (by decide),Asf,R.ok_bind];have:Zr [({From:=0,To:=1440}:Span)] l≠[]:=λe=>h (B34 e);cases z:Zr [({From:=0,To:=1440}:Span)] l with
 |nil=>exact absurd z this
 |cons a l=>show R.ok (((a::l).length:Int)==0)=_;rw[show(((a::l).length:Int)==0)=false from by simp<;>omega]
theorem B2d{β:Type}{b:Nat→α→List β→R (List β)}{F:Nat→α→R β}{c:Nat}{p:β→Prop}(S:∀j a y,b j a y=(F j a).bind λr=>if(y.length+[r].length)*c≤Bj then .ok (y++[r])else .bad){l:List α}(U:∀j a,l[j]?=some a→∀r,F j a=.ok r→p r){y:List β}(h:eachS b 0 l []=.ok y):y.length=l.length∧∀x∈y,p x:=by
 have key:∀(l':List α) (k:Nat) (s y:List β),(∀j a,l'[j]?=some a→l[k+j]?=some a)→eachS b k l' s=.ok y→(∀x∈s,p x)→y.length=s.length+l'.length∧∀x∈y,p x:=by
  intro l';induction l' with
  |nil=>intro k s y _ h D;rw[Anw]at h;cases h;exact⟨rfl,D⟩
  |cons a l' V=>
   intro k s y z h D;rw[Ic,S]at h;obtain⟨s',h1,h2⟩:=R.ok_of h;obtain⟨r,W,O⟩:=R.ok_of h1;split at O
   ·cases O;obtain⟨g1,X⟩:=V (k+1) _ y (λj x A=>by rw[show k+1+j=k+(j+1)by omega];exact z (j+1) x (by simpa using A)) h2 (λx A=>by
     rcases BG.1 A with h|h
     ·exact D x h
     ·rw[AY.1 h];exact U k a (by simpa using z 0 a rfl) r W)
    exact⟨by rw[g1];simp only[AJ,AF,DB];omega,X⟩
   ·cases O
 have:=key l 0 [] y (λj a h=>by rwa[AG]) h (λx A=>by cases A);exact⟨by rw[this.1];simp,this.2⟩
theorem Aw0{ε:Type}{b:Nat→α→Unit→R (Unit ⊕ ε)}:∀(l:List α) (k:Nat),(∀j a,l[j]?=some a→b (k+j) a ()=.ok (.inl ()))→each b k l ()=.ok (.inl ())
 |[],k,_=>rfl
 |a::l,k,h=>by rw[Abg,show b k a ()=.ok (.inl ())from h 0 a rfl];exact Aw0 l (k+1) λj x z=>by rw[show k+1+j=k+(j+1)by omega];exact h (j+1) x (by simpa using z)
theorem B5w (a:Airspace)(h:LowOk a):As (N6 a) λr=>r.2≠0→r.1=Au7:=by
 have S:∀e,As (Fb e) (Sm T1 λr=>r.1=Au7):=λe=>by unfold Fb;exact AN (λ_=>.ok rfl) λ_=>.ok trivial
 obtain⟨r,hr,_⟩:=Bbp a h;refine⟨r,hr,?_⟩;unfold N6 Zb at hr;rw[R.ok_bind]at hr;rcases At5 hr with⟨u,g,z⟩|⟨e,g,z⟩
 ·obtain⟨r1,_,z⟩:=R.ok_of z;obtain⟨r2,_,z⟩:=R.ok_of z;obtain⟨W,_,z⟩:=R.ok_of z;obtain⟨r4,_,z⟩:=R.ok_of z;obtain⟨X,_,z⟩:=R.ok_of z;obtain⟨Y,_,z⟩:=R.ok_of z;split at z
  ·cases z;exact λ_=>rfl
  ·cases z;exact λh=>absurd rfl h
 ·cases z;have:r.1=Au7:=Bkk (P:=λ(r:Tables×Int)=>r.1=Au7) (λj x t e A=>by
   have D:∀{m:R Int},m.bind Fb=.ok (.inr e)→e.1=Au7:=λ{m} U=>by obtain⟨v,_,V⟩:=R.ok_of U;obtain⟨w,hw,O⟩:=S v;rw[V]at hw;cases hw;exact O
   have A:Z5 a x=.ok (.inr e):=A;unfold Z5 at A;repeat' (split at A)
   all_goals first|exact D A|cases A) _ _ _ _ g
  exact λ_=>this
theorem B5o(h:Qc a=.ok 0): ∃ l,Vz a=.ok (l,0)∧l.length=a.Volumes.length:=by
 unfold Qc at h
 obtain⟨r,hr,h⟩:=R.ok_of h
 split at h
 ·rename_i z
  injection h with h
  rw [h] at z
  exact absurd z (by decide)
 ·rename_i z
  obtain⟨v,A,h⟩:=R.ok_of h
  cases h
  unfold Pr at A
  split at A
  ·rename_i D
   refine⟨r.1,?_,by simp only [BN] at D; omega⟩
   rw [hr]
   have:r.2=0:=by simpa using z
   rw [← this]
  ·cases A
theorem law_AirspaceFlown (hs:Acu=.ok true):Aeg:=by
 intro a _ _;unfold Ajn;rw[hs,R.ok_bind,if_pos rfl];obtain⟨b,hb,U⟩:=A9o a;rw[hb,R.ok_bind];cases b with
 |false=>rfl
 |true=>
  have U:=U rfl;rw[if_pos rfl];obtain⟨⟨t,e⟩,hr,hE⟩:=B5w a U.low0;simp only at hE;rw[hr,R.ok_bind];by_cases W:e=0
  ·subst W;have L:=B41 hr;have V:=B6w L.tab;have hw:=L.way;unfold Ls at hw;obtain⟨y,hw,hy⟩:=R.ok_of hw;have X:=(B2d (F:=λj x=>P8 (j:Int) x a) (c:=40) (p:=T1) (λ_ _ _=>rfl) (λ_ _ _ _ _=>trivial) hw).1;cases hy;rw[if_neg (λh=>by cases h),L.tab,R.ok_bind,if_neg (by simp[L.vol,X])];obtain⟨l,A,D⟩:=B5o L.passable;rw[A,R.ok_bind,if_neg (by simp[D,L.vol])];rw[Aw0 a.Configs 0 λj c S=>by have hj:=A6 S;unfold Alb;rw[AG];obtain⟨r,h1,h2,z⟩:=B52 L.check L.stuck j hj;rw[h1,R.ok_bind,if_neg (by simp[h2,z])]];simp only[R.ok_bind,alt];have e1:each (λ_ a2=>λ_=>Aby true (t,0) a2) 0 t.Ways ()=.ok (.inl ()):=Aw0 t.Ways 0 λj w hw=>by
    unfold Aby;rw[Aw0 w.Legs 0 λi g hg=>?_]
    ·rfl
    obtain⟨h1,h2,z⟩:=B6r (V.way w (AP hw)) g (AP hg);unfold Ao9;obtain⟨r,h4,h5⟩:=B5x h2 z;rw[h4,R.ok_bind,if_neg (by simpa using h5),Aw0 t.Kinds 0 λi k hk=>?_]
    ·rfl
    unfold Al5;obtain⟨r,h6,h7,h8,h9⟩:=B6n (V.kin k (AP hk)) h1.1 h1.2;rw[h6,R.ok_bind,if_neg (by simp only[BQ,ID,ne_eq,AK];omega)]
   have O:∀c p:Nat,c<a.Classes.length→p<a.Airports.length→¬Af8 (Blb a c p):=by
    obtain⟨r,h1,h2,z⟩:=B4d a;have h:=L.reason;unfold P3 at h;rw[h1,R.ok_bind]at h;obtain⟨v,Y,h⟩:=R.ok_of h;cases h;unfold Pr at Y;split at Y
    ·rename_i A;simp only[BN]at A;exact z (h2 L.rules) (BP (by omega))
    ·cases Y
   have hk:=L.kin;unfold Kv at hk;obtain⟨y2,hk,Z⟩:=R.ok_of hk;have aa:=(B2d (F:=λj x=>Qa (j:Int) x a) (c:=64) (p:=λk=>∀l∈k.Curfews,¬Af8 l) (λ_ _ _=>rfl) (λj c S r hr=>by have hr:Qa (j:Int) c a=.ok r:=hr;unfold Qa at hr;obtain⟨r1,_,hr⟩:=R.ok_of hr;obtain⟨r2,_,hr⟩:=R.ok_of hr;obtain⟨r3,z,hr⟩:=R.ok_of hr;cases hr;unfold Li at z;obtain⟨y3,z,ab⟩:=R.ok_of z;cases ab;refine(B2d (F:=λi x=>Md (i:Int) x a (j:Int)) (c:=24) (p:=λl=>¬Af8 l) (λ_ _ _=>rfl) (λi x hx r hr=>?_) z).2;have hr:Md (i:Int) x a (j:Int)=.ok r:=hr;unfold Md at hr;rw[B5m L.rules j i (A6 S) (A6 hx)]at hr;cases hr;intro hf;refine O j i (A6 S) (A6 hx) λm hm=>?_;have:=hf m hm;rw[B2s _ _ hm]at this;simpa[Xk]using this) hk).2;cases Z;have e2:each (λ_ a5=>λ_=>Aa4 true a5) 0 t.Kinds ()=.ok (.inl ()):=Aw0 t.Kinds 0 λj k hk=>by
    unfold Aa4;rw[Aw0 k.Curfews 0 λi l A=>?_]
    ·rfl
    unfold Aor;rw[B5j (aa k (AP hk) l (AP A))];rfl
   rw[e1,R.ok_bind];simp only[alt];rw[e2,R.ok_bind]
  ·have:=hE W;subst this;rw[if_pos (by simpa using W)];rw[show Ky Au7=.ok 140 from rfl];rfl
end Go.Am
