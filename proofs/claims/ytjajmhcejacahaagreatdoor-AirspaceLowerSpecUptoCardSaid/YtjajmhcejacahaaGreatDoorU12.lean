import Derived.Test.YtjajmhcejacahaaGreatDoorU11
set_option linter.all false
set_option maxHeartbeats 4000000
set_option maxRecDepth 100000
open Go.Proofs.Tryz
namespace Go.Am
open Go Go.Proofs Go.Proofs.Tryz
attribute [local irreducible] WR WO WP WU Nu
instance Bi7:CP prog 4 [] (Acu) AV.bool:=by
 refine ci 157 8 func4 Acu.eq_1 λh0 ids hI hF=>Ah<|Ov 1 O<|Ad<|Ah<|oc ((A8g _) _) λr _=>Ov 4 O<|D9 0 te λg=>Gk (.A (B9 r.1)) ?_;refine Ov 2 O<|Ad<|Bv ?_;refine Ah<|oc ((A8g _) _) λr1 _=>Ov 4 O<|D9 1 te λg1=>Gk (.A (B9 r1.1)) ?_;refine Ov 2 O<|Ad<|Bv ?_;refine Ah<|oc ((A8g _) _) λr2 _=>Ov 4 O<|D9 2 te λg2=>Gk (.A (B9 r2.1)) ?_;refine Ov 2 O<|Ad<|Bv ?_;refine Ah<|oc ((A8g _) _) λr3 _=>Ov 4 O<|D9 3 te λg3=>Gk (.A (B9 r3.1)) ?_;refine Ov 2 O<|Ad<|Bv ?_;refine Ah<|Ov 1 O<|oc (λhb=>FO (.cons (.aggL (.cons (.emp _) (.cons (.emp _) (.cons (.emp _) (.cons (.emp _) (.cons (.emp _) (.cons (.emp _) (.cons (.emp _) (.cons (.emp _) .nil))))))))) .nil) ((Arv _) _ hb)) λr4 _=>Ov 3 O<|D9 4 te λg4=>Gk (.A (B9 r4.1)) ?_;refine Ov 1 O<|Ad<|Bv ?_;refine Ah<|Zm 1 [0] O<|oc ((Aq0 r.1 0 0) _) λz _=>Ov 5 O<|Ad<|Ah<|Ov 1 O<|oc (λhb=>FO (.cons (.aggL (.s (.cons (.emp _) (.cons (.emp _) (.cons (.emp _) (.cons (.emp _) (.cons (.emp _) .nil))))))) .s2) ((Aq0 _ 0 0) _ hb)) λr6 _=>Ov 5 O<|Ad<|Ah<|Zm 1 [0] O<|oc ((Af1 r.1) _) λr7 _=>Ov 3 O<|O0 (j:=5) (row:=(rU (G3 32 0))) hI O O O O te (Wm (λ_=>O) _).symm ((Oz (λx=>Dw x) O) _) λg5=>Cw (Hm hI O O O te O O O (((Oz (λx=>Dw x) O) _).1) O)<|Ov 1 O<|Ad ?_;refine Bv ?_;refine Ah<|Ov 1 O<|Be3 Gu [({From:=0,To:=600}:Span)]<|Ov 1 O<|Ad<|Ah<|Be3 Ot [0]<|Ov 1 O<|Ch (e:=Br) (L:=[({Name:=[],Names:=[],Volumes:=[0],Radar:=4,Procedural:=2}:Sector)]) O te te O O O O O (.cons (.s (.cons (.emp _) (.s .s2))) .nil) (λx=>Vs x) O O<|Be3 Ot [0]<|Ov 1 O<|Ch (e:=Bz) (L:=[({Name:=[],Names:=[],Sectors:=[0]}:Config)]) O te te O O O O O (.cons (.s (.cons (.emp _) .s1)) .nil) (λx=>Vp x) O O<|Ov 2 O<|Be3 A1z [({Segment:=0,Volume:=0,Length:=50,Minutes:=[({From:=0,To:=600}:Span)]}:Leg)]<|Ov 1 O<|Be3 Azs [({From:=0,To:=1,Legs:=[({Segment:=0,Volume:=0,Length:=50,Minutes:=[({From:=0,To:=600}:Span)]}:Leg)]}:Way)]<|Be3 Ot [9]<|Be3 Ot [3]<|Be3 (e:=(rL 1 rJ)) (λx=>Ate x) [[9],[3]] ?_;refine Ov 1 O<|Be3 Gu [({From:=0,To:=300}:Span)]<|Ch (e:=(rL 2 Ax)) (L:=[[],[({From:=0,To:=300}:Span)]]) O te te O O O O O (.cons (.cons (.emp _) .nil) (.cons (AB _) .nil)) (λx=>Ate x) O O<|Ov 1 O<|Be3 Awg [({Slow:=5,Fast:=10,Places:=2,Weight:=3,Longest:=60,Curfews:=[[],[({From:=0,To:=300}:Span)]]}:Kind)]<|Ov 1 O<|D9 6 te λg6=>Gk (.A [.I 1,.L 5 Br [({Name:=[],Names:=[],Volumes:=[0],Radar:=4,Procedural:=2}:Sector)],.L 3 Bz [({Name:=[],Names:=[],Sectors:=[0]}:Config)],.L 3 Ks [({From:=0,To:=1,Legs:=[({Segment:=0,Volume:=0,Length:=50,Minutes:=[({From:=0,To:=600}:Span)]}:Leg)]}:Way)],.L 1 (rL 1 rJ) [[9],[3]],.L 6 Gi [({Slow:=5,Fast:=10,Places:=2,Weight:=3,Longest:=60,Curfews:=[[],[({From:=0,To:=300}:Span)]]}:Kind)]]) ?_;refine Ad<|Bv ?_;refine Ah<|Zm 1 [6] O<|oc (λhb=>FO (.cons (.aggL (.s (.s (.s (.s .s2))))) .nil) ((Af1 _) _ hb)) λr8 _=>Ov 3 O<|O0 (j:=7) (row:=(rU (G3 32 0))) hI O O O O te (Wm (λ_=>O) _).symm ((Oz (λx=>Dw x) O) _) λg7=>Cw (Hm hI O O O te O O O (((Oz (λx=>Dw x) O) _).1) O)<|Ov 1 O<|Ad<|Bv ?_;refine Ah<|Ov 3 O<|Oc 3 94 97 [1,6,8,9,12,14,15,16,18,19,20,22,23,24] (.B ((r.2.2==0)&&(r.2.1==0))) O ?_ (λad _ hJ=>?_) (λad _ hJ=>?_)
 .refine Ov 1 O<|G9 4 98 102 [1,6,8,9,12,14,15,16,18,19,20,23,24] .bool O ?_ (λau _ ae=>?_) (λau _ ae=>?_)
  .intro b;refine Ov 1 O<|Oc 3 103 106 [1,8,9,12,14,15,16,18,19,20,23,24] (.B (b&&(r1.2.2==100))) O ?_ (λaf _ ag=>?_) (λaf _ ag=>?_)
   .refine Ov 1 O<|Oc 3 107 110 [1,8,12,14,15,16,18,19,20,23,24] (.B ((b&&(r1.2.2==100))&&(r2.2.2==80))) O ?_ (λah _ ai=>?_) (λah _ ai=>?_)
    .refine Ov 1 O<|Oc 3 111 114 [1,12,14,15,16,18,19,20,23,24] (.B (((b&&(r1.2.2==100))&&(r2.2.2==80))&&(r2.2.1==6))) O ?_ (λaj _ ak=>?_) (λaj _ ak=>?_)
     .refine Ov 1 O<|Oc 3 115 118 [1,14,15,16,18,19,20,23,24] (.B ((((b&&(r1.2.2==100))&&(r2.2.2==80))&&(r2.2.1==6))&&(r3.2.2==110))) O ?_ (λA _ al=>?_) (λA _ al=>?_)
      .refine Ov 1 O<|Oc 3 119 122 [1,15,16,18,19,20,23,24] (.B (((((b&&(r1.2.2==100))&&(r2.2.2==80))&&(r2.2.1==6))&&(r3.2.2==110))&&(r4.2==100))) O ?_ (λD _ am=>?_) (λD _ am=>?_)
       .refine Ov 1 O<|Oc 2 123 125 [1,15,18,19,20,23,24] (.B ((((((b&&(r1.2.2==100))&&(r2.2.2==80))&&(r2.2.1==6))&&(r3.2.2==110))&&(r4.2==100))&&z.2)) O ?_ (λG _ an=>?_) (λG _ an=>?_)
        .refine Ov 1 O<|Oc 3 126 129 [1,18,19,20,23,24] (.B (((((((b&&(r1.2.2==100))&&(r2.2.2==80))&&(r2.2.1==6))&&(r3.2.2==110))&&(r4.2==100))&&z.2)&&(z.1==0))) O ?_ (λS _ ao=>?_) (λS _ ao=>?_)
         .refine Ov 1 O<|Oc 3 130 133 [1,19,20,23,24] (.B ((((((((b&&(r1.2.2==100))&&(r2.2.2==80))&&(r2.2.1==6))&&(r3.2.2==110))&&(r4.2==100))&&z.2)&&(z.1==0))&&(!r6.2))) O ?_ (λU _ ap=>?_) (λU _ ap=>?_)
          .refine Ov 1 O<|Oc 3 134 137 [1,19,23,24] (.B (((((((((b&&(r1.2.2==100))&&(r2.2.2==80))&&(r2.2.1==6))&&(r3.2.2==110))&&(r4.2==100))&&z.2)&&(z.1==0))&&(!r6.2))&&(r7.2==0))) O ?_ (λV _ W=>?_) (λV _ W=>?_)
           .refine Ov 1 O<|Oc 3 138 141 [1,19,23] (.B ((((((((((b&&(r1.2.2==100))&&(r2.2.2==80))&&(r2.2.1==6))&&(r3.2.2==110))&&(r4.2==100))&&z.2)&&(z.1==0))&&(!r6.2))&&(r7.2==0))&&(r8.2==0))) O ?_ (λX _ Y=>?_) (λX _ Y=>?_)
            .refine Ov 1 O<|Oc 4 142 146 [1] (.B (((((((((((b&&(r1.2.2==100))&&(r2.2.2==80))&&(r2.2.1==6))&&(r3.2.2==110))&&(r4.2==100))&&z.2)&&(z.1==0))&&(!r6.2))&&(r7.2==0))&&(r8.2==0))&&(r7.1==r8.1))) O ?_ (λZ _ aa=>?_) (λZ _ aa=>?_)
             .refine Ov 1 O<|G9 4 147 151 [] .bool O ?_ (λaq _ ab=>?_) (λaq _ ab=>?_)
              .intro b1;refine Ov 1 O<|G9 4 152 156 [] .bool O ?_ (λar _ ac=>?_) (λar _ ac=>?_)
               .intro b2;refine Ov 1 O<|Ad<|rt
               .refine F5 (.A [.I 0,.emp,.emp,.emp,.emp,.emp]) O O O (Ai4 (A6y te Bp2.eq O))<|oc (λhb=>FO (.cons (.aggL (.s (.cons (.emp _) (.cons (.emp _) (.cons (.emp _) (.cons (.emp _) (.cons (.emp _) .nil))))))) .nil) ((Ahn _) _ hb)) λav _=>Ov 2 O<|A6m (ac (av==140))
               refine Ov 4 O<|A6m (ac false)
              .refine Zm 1 [0] O<|oc ((Ahn r.1) _) λaw _=>Ov 2 O<|A6m (ab (aw==0))
              refine Ov 4 O<|A6m (ab false)
             .refine Zm 2 [5,7] O<|F5 (.B (r7.1==r8.1)) O O O (Bb (Boz O O) O (Bhb Byb.eq Ln.eq))<|Ov 1 O<|wj aa (Afb Z)
             refine Ov 4 O<|wj aa (Afc Z)
            .refine Ov 3 O<|wj Y (Afb X)
            refine Ov 3 O<|wj Y (Afc X)
           .refine Ov 3 O<|wj W (Afb V)
           refine Ov 3 O<|wj W (Afc V)
          .refine Ov 3 O<|wj ap (Afb U)
          refine Ov 3 O<|wj ap (Afc U)
         .refine Ov 3 O<|wj ao (Afb S)
         refine Ov 3 O<|wj ao (Afc S)
        .refine Ov 2 O<|wj an (Afb G)
        refine Ov 2 O<|wj an (Afc G)
       .refine Ov 3 O<|wj am (Afb D)
       refine Ov 3 O<|wj am (Afc D)
      .refine Ov 3 O<|wj al (Afb A)
      refine Ov 3 O<|wj al (Afc A)
     .refine Ov 3 O<|wj ak (Afb aj)
     refine Ov 3 O<|wj ak (Afc aj)
    .refine Ov 3 O<|wj ai (Afb ah)
    refine Ov 3 O<|wj ai (Afc ah)
   .refine Ov 3 O<|wj ag (Afb af)
   refine Ov 3 O<|wj ag (Afc af)
  .refine Zm 2 [0,6] O<|oc (λhb=>FO (.s (.cons (.aggL (.s (.s (.s (.s .s2))))) .nil)) ((Ahe r.1 _) _ hb)) λr9 _=>Ov 1 O<|A6m (ae r9)
  refine Ov 4 O<|A6m (ae false)
 .refine Ov 3 O<|wj hJ (Afb ad)
 refine Ov 3 O<|wj hJ (Afc ad)
instance Bjh (l):CP prog 81 [.L 1 rS l] (N1 l) AV.bool:=by
 refine ci 19 0 func81 (N1.eq_1 _) λh0 ids z A=>go ?_;refine Ph [0] 3 (λ_=>[]) (λ_=>[]) ?_ ?_
 .intro j a _ D _ W _;refine Ae (Afx.eq_1 _)<|gc
 intro _;exact gc
instance Boy (a):CP prog 14 [.A (Aj a)] (Aom a) AV.bool:=by
 refine ci 178 1 func14 (Aom.eq_1 _) λh0 ids hI hF=>go ?_;intro g _;refine Bo O (λU=>?_) (λU=>?_)
 .exact gc
 refine go ?_;refine Ui [1] 4 (λx=>[(3,.I x)]) (λx=>[Ab g 8 [Aj a]]) ?_ ?_
 .intro j a1 x V _ W _;refine Ae (Axp.eq_1 ..)<|gc
 intro x;refine go ?_;intro _;refine Ph [1] 5 (λA=>[(3,.I A)]) (λA=>[Ab g 8 [Aj a]]) ?_ ?_
 .intro j1 a2 A X _ W _;refine Ae (Azn.eq_1 ..)<|gc
 intro A;refine go ?_;intro _;refine Ph [1] 6 (λD=>[(3,.I D)]) (λD=>[Ab g 8 [Aj a]]) ?_ ?_
 .intro j2 a3 D Y _ W _;refine Ae (Axg.eq_1 ..)<|gc
 intro D;refine go ?_;intro _;refine Ui [1] 7 (λG=>[(3,.I G)]) (λG=>[Ab g 8 [Aj a]]) ?_ ?_
 .intro j3 a4 G Z _ W _;refine Ae (Ayf.eq_1 ..)<|gc
 intro G;refine go ?_;intro _;refine Ph [1] 8 (λS=>[(3,.I S)]) (λS=>[Ab g 8 [Aj a]]) ?_ ?_
 .intro j4 a5 S aa _ W _;refine Ae (Azf.eq_1 ..)<|gc
 intro S;refine go ?_;intro _;refine Ui [1] 9 (λz=>[(3,.I z)]) (λz=>[Ab g 8 [Aj a]]) ?_ ?_
 .intro j5 a6 z ab _ W _;refine Ae (Axd.eq_1 ..)<|gc
 intro z;exact gc
instance Bk3 (a):CP prog 15 [.A (Aj a)] (Af5 a) AV.bool:=by
 refine ci 51 1 func15 (Af5.eq_1 _) λh0 ids D G=>go ?_;intro g;refine Ph [1] 3 (λ_=>[]) (λ_=>[Ab g 8 [Aj a]]) ?_ ?_
 .intro j a1 _ z _ W _;refine Ae (Aiv.eq_1 _)<|gc
 intro _;refine go ?_;intro _;refine Ph [1] 4 (λ_=>[]) (λ_=>[Ab g 8 [Aj a]]) ?_ ?_
 .intro O a2 _ A _ W _;refine Ae (Aka.eq_1 _)<|gc
 intro _;exact gc
instance Bpc (a):CP prog 16 [.A (Aj a)] (Aop a) AV.bool:=by
 refine ci 175 1 func16 (Aop.eq_1 _) λh0 ids X Y=>go ?_;intro g _;refine Bo O (λz=>?_) (λz=>?_)
 .exact gc
 refine go ?_;refine Ph [1] 3 (λ_=>[]) (λ_=>[Ab g 8 [Aj a]]) ?_ ?_
 .intro j a1 _ A _ W _;refine Ae (Aql.eq_1 _)<|gc
 intro _;refine go ?_;intro _;refine Ph [1] 4 (λ_=>[]) (λ_=>[Ab g 8 [Aj a]]) ?_ ?_
 .intro Z a2 _ D _ W _;refine Ae (Azl.eq_1 _)<|gc
 intro _;refine go ?_;intro _;refine Ph [1] 5 (λ_=>[]) (λ_=>[Ab g 8 [Aj a]]) ?_ ?_
 .intro j2 a3 _ G _ W _;refine Ae (Axo.eq_1 _)<|gc
 intro _;refine go ?_;intro _;refine Ph [1] 6 (λ_=>[]) (λ_=>[Ab g 8 [Aj a]]) ?_ ?_
 .intro j3 a4 _ S _ W _;refine Ae (Aqd.eq_1 _)<|gc
 intro _;refine go ?_;intro _;refine Ph [1] 7 (λ_=>[]) (λ_=>[Ab g 8 [Aj a]]) ?_ ?_
 .intro j4 a5 _ U _ W _;refine Ae (Ax2.eq_1 _)<|gc
 intro _;refine go ?_;intro _;refine Ph [1] 8 (λ_=>[]) (λ_=>[Ab g 8 [Aj a]]) ?_ ?_
 .intro j5 a6 _ V _ W _;refine Ae (Aqt.eq_1 _)<|gc
 intro _;exact gc
instance Bok (a r):CP prog 182 [.A (Aj a),.A (Bk r)] (Acp a r) AV.bool:=by
 refine ci 104 2 func182 (Acp.eq_1 ..) λh0 ids Z hF=>go ?_;intro g g1;refine Bo O (λY=>?_) (λY=>?_)
 .exact gc
 refine go ?_;refine Bo O (λS=>?_) (λS=>?_)
 .exact gc
 refine go ?_;refine Bo O (λU=>?_) (λU=>?_)
 .exact gc
 refine go ?_;refine Bo O (λV=>?_) (λV=>?_)
 .exact gc
 refine go ?_;refine Bo O (λW=>?_) (λW=>?_)
 .exact gc
 refine go ?_;refine Bo O (λX=>?_) (λX=>?_)
 .refine Ah<|Zm 4 [1] O<|Oc 4 93 97 [3] (.B ((decide (r.N>=0))&&(decide (r.N<=60)))) O ?_ (λz _ A=>?_) (λz _ A=>?_)
  .refine Ov 1 O<|Oc 5 98 103 [] (.B (((decide (r.N>=0))&&(decide (r.N<=60)))&&((Int.tmod r.N 10)==0))) O ?_ (λD _ G=>?_) (λD _ G=>?_)
   .exact gc
   .refine Zm 2 [1] O<|F5 (.I (Int.tmod r.N 10)) O O O (Bb O O (Amc O (by decide)))<|gc
   exact gc
  .refine Zm 4 [1] O<|wj A (Afb z)
  refine Ov 4 O<|wj A (Afc z)
 exact gc
instance Bof (a):CP prog 82 [.A (Aj a)] (My a) (.I):=by
 refine ci 23 1 func82 (My.eq_1 _) λh0 ids D G=>go ?_;intro g _;refine E4 O (λz=>?_) (λz=>?_)
 .exact gc
 refine go ?_;refine Ph [1] 3 (λ_=>[]) (λ_=>[Ab g 8 [Aj a]]) ?_ ?_
 .intro j a1 _ A _ W _;refine Ae (An3.eq_1 ..)<|gc
 intro _;exact gc
instance Bo2 (a):CP prog 17 [.A (Aj a)] (Aor a) AV.bool:=by refine ci 30 1 func17 (Aor.eq_1 _) λh0 ids z A=>gc
instance Bnz (a):CP prog 5 [.A (Aj a)] (Agr a) AV.bool:=by refine ci 35 1 func5 (Agr.eq_1 _) λh0 ids z A=>gc
instance Bhc (l n):CP prog 265 [.K l,.I n] (Aeo l n) AV.bool:=by
 refine ci 18 0 func265 (Aeo.eq_1 ..) λh0 ids z A=>go ?_;refine Ph [0,1] 5 (λ_=>[]) (λ_=>[]) ?_ ?_
 .intro j a _ D _ W _;refine Ae (Afr.eq_1 ..)<|gc
 intro _;exact gc
instance A77 (l below):CP prog 204 [.K l,.I below] (U9 l below) AV.bool:=by
 refine ci 35 0 func204 (U9.eq_1 ..) λh0 ids S U=>go ?_;refine Ph [0,1] 5 (λ_=>[]) (λ_=>[]) ?_ ?_
 .intro j a _ G _ W _;refine Ae (Aja.eq_1 ..)<|By ?_;refine Ai<|Ah<|Ov 2 O<|E7 l<|Ov 1 O<|Ad<|Fs (t:=0) (L:=l) O λD=>Co O (AT.2 (A6 G))<|A8<|Ai<|A3<|Ai<|jn (λx=>Pm x) [0,1,5] (λx=>[(34,.B x)]) (λx=>[]) ?_ λ_=>?_
  .intro x;refine Ae (Pm.eq_1 _)<|gc
  refine go ?_;refine On (λA=>?_) (λA=>?_)
  .refine U2 (t:=17) A O<|gc
  refine U2 (t:=17) A O<|go ?_;refine On (λz=>?_) (λz=>?_)
  .refine U2 (t:=25) z O<|gc
  refine U2 (t:=25) z O<|gc
 intro _;exact gc
instance A8p (a c):CP prog 205 [.A (Aj a),.A (Bz c)] (Adj a c) AV.bool:=by
 refine ci 45 2 func205 (Adj.eq_1 ..) λh0 ids S U=>go ?_;intro g g1 _ r _;refine N8 O (λA=>?_) (λA=>?_)
 .refine go ?_;refine Ph [2,3] 5 (λ_=>[]) (λ_=>[Ab g 8 [Aj a],Ab g1 3 [Bz c]]) ?_ ?_
  .intro j a1 _ D _ W _;refine Ae (Ai2.eq_1 ..)<|go ?_;intro z;refine Ui [2,3,5] 7 (λn=>[(6,.I n)]) (λn=>[Ab g 8 [Aj a],Ab g1 3 [Bz c]]) ?_ ?_
   .intro V a2 n G _ W _;refine Ae (Adb.eq_1 ..)<|gc
   intro n;exact gc
  intro _;exact gc
 exact gc
instance Bcj (a):CP prog 99 [.A (Aj a)] (N4 a) (.I):=by
 refine ci 76 1 func99 (N4.eq_1 _) λh0 ids U V=>go ?_;intro g _;refine Bo O (λG=>?_) (λG=>?_)
 .exact gc
 refine go ?_;refine Ph [1] 3 (λ_=>[]) (λ_=>[Ab g 8 [Aj a]]) ?_ ?_
 .intro j a1 _ A _ W _;refine Ae (Ama.eq_1 ..)<|By ?_;refine Ai<|Ah<|Zm 3 [0] O<|E7 a.Sectors<|Ov 1 O<|Ad<|Fs (t:=35) (L:=a.Sectors) O λD=>Co O (AT.2 (A6 A))<|A8<|Ai<|A3<|Ai<|jn (λx=>Abf x) [1,3] (λx=>[(60,.B x)]) (λx=>[Ab g 8 [Aj a]]) ?_ λ_=>?_
  .intro x;refine Ae (Abf.eq_1 _)<|gc
  refine go ?_;refine On (λz=>?_) (λz=>?_)
  .refine U2 (t:=48) z O<|gc
  refine U2 (t:=48) z O<|gc
 intro _;refine go ?_;intro _;refine Ph [1] 4 (λ_=>[]) (λ_=>[Ab g 8 [Aj a]]) ?_ ?_
 .intro X a2 _ S _ W _;refine Ae (Al9.eq_1 ..)<|gc
 intro _;exact gc
instance Awm (a config volume):CP prog 335 [.A (Aj a),.I config,.I volume] (Afd a config volume) (λp=>AV.tup [.I p.1,.B p.2]):=by
 refine ci 63 1 func335 (Afd.eq_1 ..) λh0 ids X Y=>go ?_;intro g;refine Bo O (λU=>?_) (λU=>?_)
 .refine go ?_;exact rz
 refine go ?_;intro a1 hz V;refine Ph [2,3,8] 9 (λ_=>[]) (λ_=>[Ab g 8 [Aj a]]) ?_ ?_
 .intro j a2 _ D _ W _;refine Ae (Xc.eq_1 ..)<|By ?_;refine Ai<|Ah<|Ov 2 O<|E7 a1.Sectors<|Ov 1 O<|Ad<|Fs (t:=8) (L:=a1.Sectors) O λS=>Co O (AT.2 (A6 D))<|A8<|Ai<|A3<|Ai<|jn (λx=>Q2 a2 x) [2,3,8,9] (λx=>[(58,.B x)]) (λx=>[Ab g 8 [Aj a]]) ?_ λ_=>?_
  .intro x;refine Ae (Q2.eq_1 ..)<|By ?_;refine Bo O (λG=>?_) (λG=>?_)
   .refine go ?_;exact rz
   exact gc
  refine go ?_;refine On (λz=>?_) (λz=>?_)
  .refine U2 (t:=36) z O<|go ?_;refine On (λA=>?_) (λA=>?_)
   .refine U2 (t:=46) A O<|gc
   refine U2 (t:=46) A O<|gc
  refine U2 (t:=36) z O<|gc
 intro _;refine go ?_;intro _;exact rz
instance Bje (a config v w):CP prog 321 [.A (Aj a),.I config,.I v,.I w] (Th a config v w) AV.bool:=by refine ci 30 1 func321 (Th.eq_1 ..) λh0 ids z A=>gc
instance Boe (a vfrom vto):CP prog 294 [.A (Aj a),.I vfrom,.I vto] (Aco a vfrom vto) AV.bool:=by
 refine ci 34 1 func294 (Aco.eq_1 ..) λh0 ids D G=>go ?_;intro g;refine Ph [1,2,3] 7 (λ_=>[]) (λ_=>[Ab g 8 [Aj a]]) ?_ ?_
 .intro j a1 _ z _ W _;refine Ae (Am5.eq_1 ..)<|By ?_;refine Ai<|Ah<|Zm 3 [0] O<|E7 a.Volumes<|Ov 1 O<|Ad<|Fs (t:=11) (L:=a.Volumes) O λA=>Co O (AT.2 (A6 z))<|A8<|Ai<|A3<|Ah<|Ov 1 O<|Ad<|jn (π:=Unit) (λ_=>Ae7) [1,2,3,7] (λ_=>[]) (λ_=>[Ab g 8 [Aj a]]) ?_ λ_=>?_
  .intro _;refine Ae (Ae7.eq_1)<|gc
  refine A3<|lpL [1,2,3,7] (λw=>[(8,.I w)]) (λw=>[Ab g 8 [Aj a]]) ?_;intro w W _;refine Ae (Anq.eq_1 ..)<|gc
 intro _;exact gc
instance A7c (a vfrom vto):CP prog 266 [.A (Aj a),.I vfrom,.I vto] (Akq a vfrom vto) AV.bool:=by
 refine ci 67 1 func266 (Akq.eq_1 ..) λh0 ids S U=>go ?_;intro g r _;refine Bo O (λz=>?_) (λz=>?_)
 .exact gc
 refine go ?_;intro a1 hz A a2 D G;refine jn (λx=>Ut a vfrom vto a1 a2 x) [1,2,3,53] (λx=>[(54,.B x)]) (λx=>[Ab g 8 [Aj a]]) ?_ λ_=>?_
 .intro x;refine Ae (Ut.eq_1 ..)<|gc
 exact gc
def Aw7 (a:Airspace)(U:Int):Vv prog 206 [(.A (Aj a)),(.I U)] (Py a U) 1 rJ:=by
 refine Gq 2 func206 O (by decide) O O λh0 ids S=>D8 (Ae (Py.eq_1 ..) ?_);refine Ah<|Ip 1 (.A (Aj a)) λg=>go ?_;refine Aj7 O te te<|go ?_;refine Kl (g0:=0) [1,2] 6 0 (λd=>d) (λd v=>[(5,v)]) (λd v g1=>[Ccu v g1 1 rJ d,Ab g 8 [Aj a],none]) .nil ?_ ?_
 .intro j a1 d v g1 al _ vH W hW;refine Ae (Ad9.eq_1 _)<|By ?_;refine Ai<|Ah<|Zm 3 [1] O<|E7 a.Configs<|Ov 1 O<|Ad<|Fs (t:=13) (L:=a.Configs) O λam=>Co O (AT.2 (A6 al))<|A8<|Ai<|A3<|A4<|Ov 1 O<|Bgg Ot 0 [33] O λv1 g2 ba=>gc
 intro d v g1 vH;refine By ?_;refine Ai<|Ah<|Zm 3 [1] O<|E7 a.Configs<|Ov 1 O<|Ad<|Eb O (CF _)<|Di O<|Ah<|Ov 2 O<|Tp λa2 hz aa=>Au _ O (Ay (Rb S O vH O te te O hz aa))<|Cw (Xw S O O vH O aa te O O O O O O) ?_;have an:=GG (i:=(Int.toNat U)) (y:=0) vH;have bb:=BO (a:=0) (A6 aa);refine go ?_;refine Blu (e:=rJ) (L:=[U]) (j:=2) S O O O O te te O O O O O (.cons (AB _) .nil) (λx=>Dw x) O O O λv2 g3 ao=>Ov 1 O<|Ad<|Bv ?_;refine Ai<|Ah<|Ov 1 O<|Ad<|Ra (λd3=>Vx d3) (λd3=>λfr h=>Av v (ix ids 0) g1 d3.length/\fr=Ac [(5,v)]/\h=hp h0 ids [Ccu v g1 1 rJ d3,none,none]) ?_ λap=>?_
 .rintro d3 fr h ⟨ae,rfl,rfl⟩;refine Ae (Vx.eq_1 _)<|go ?_;exact Gg func206 S O O ae O
 refine A3<|Gh [2,5,7,8] ?_;refine Ko (P:=prog) _ _ (un3 λq d1 D=>λfr h=>∃(v3:AV),∃(g4:Nat),Av v (ix ids 0) g1 d1.length/\Av v3 (ix ids 2) g4 D.length/\fr=Ac [(2,.q ids 1 g),(5,v),(7,v3),(8,.I q)]/\h=hp h0 ids [Ccu v g1 1 rJ d1,Ab g 8 [Aj a],Ccu v3 g4 1 rJ D]) (0,d.set (Int.toNat U) 0,[U]) ?_ ?_
 .exact⟨v2,g3,an,ao,O,O⟩
 rintro bc aq ⟨q,d1,D⟩ fr h ⟨v3,g4,af,ar,rfl,rfl⟩;refine Ae (m':=Pn a q d1 D) O (Ae (Pn.eq_1 ..) ?_);refine go ?_;intro _;refine E4 O (λhc=>?_) (λhc=>?_)
 .refine go ?_;refine Gh [2,5,7,8,9] ?_;refine Ld (P:=prog) a.Configs _ _ (λj1=>Ct λd2 z=>λfr h=>∃(Y:AV),∃(Z:Nat),Av v (ix ids 0) g1 d2.length/\Av Y (ix ids 2) Z z.length/\fr=Ac [(2,.q ids 1 g),(5,v),(7,Y),(8,.I q),(9,.I j1)]/\h=hp h0 ids [Ccu v g1 1 rJ d2,Ab g 8 [Aj a],Ccu Y Z 1 rJ z]) (d1,D) ?_ ?_ ?_
  .exact⟨v3,g4,af,ar,O,O⟩
  .rintro j1 a3 ab W ag ⟨d2,z⟩ fr h ⟨Y,Z,G,V,rfl,rfl⟩;refine Ae (m':=Mk a q j1 d2 z) O (Ae (Mk.eq_1 ..) ?_);refine Ai<|Ah<|Zm 3 [1] O<|E7 a.Configs<|Ov 1 O<|Ad<|Fs (t:=34) (L:=a.Configs) O λX=>Co O (AT.2 (A6 ab))<|A8<|Ai<|A3<|Ai<|Ra (Ct λx A=>Mp q d2 j1 x A) (Ct λx A=>λfr h=>Av Y (ix ids 2) Z A.length/\fr=Ac [(2,.q ids 1 g),(5,v),(7,Y),(8,.I q),(9,.I j1),(52,.B x)]/\h=hp h0 ids [Ccu v g1 1 rJ d2,Ab g 8 [Aj a],Ccu Y Z 1 rJ A]) ?_ λhJ=>?_
   .rintro⟨x,A⟩ fr h ⟨ac,rfl,rfl⟩;refine Ae (Mp.eq_1 ..)<|Bo O (λau=>?_) (λau=>?_)
    .refine Ah<|Ov 5 O<|Tp λa6 av ah=>Au _ O (Ay (Rb S O ac O te te O av ah))<|Au _ O (A7 (Ajg S O ac O ah te O))<|Tp λa7 aw ai=>Au _ O (Ay (Rb S O G O te te O aw ai))<|Au _ O (A7 (Ajg S O G O ai te O))<|Ov 1 O<|Tp λa8 ax ad=>Au _ O (Ay (Rb S O G O te te O ax ad))<|Cw (Xw S O O G O ad te O O O O O O) ?_;have ay:=GG (i:=(Int.toNat (j1:Int))) (y:=(IntKind.wrap .i64 (a7+1))) G;have bd:=BO (a:=(IntKind.wrap .i64 (a7+1))) (A6 ad);refine Ad<|Bv ?_;refine A4<|Ov 2 O<|Bgg Ot 2 [(j1:Int)] O λv5 g6 aj=>go ?_;exact D1 (Z4 (ag _ _ _ ⟨v5,g6,ay,aj,O,O⟩)) (.r4 (.cons (Vf (A6 ab) X) .nil))
    refine go ?_;exact D1 (Z4 (ag _ _ _ ⟨Y,Z,G,ac,O,O⟩)) (.r4 (.cons (Vf (A6 ab) X) .nil))
   refine Ajf [0,1,2,3,4,5,6,7,8,9,10,11,12,13] ?_;refine Avn 2 O<|Ap5 λa4 az a0=>Az _ O O (Ay (Rb S O G O te te O az a0))<|go ?_;refine On (λhb=>?_) (λhb=>?_)
   .refine U2 (t:=44) hb O<|Au7 4 [1] O<|Ap5 λa5 a9 ak=>Jr (.ptr (ix ids 2) Z (Int.toNat q) 0) O O O O (Ay (Rb S O V O te te O a9 ak))<|Jr (.I a5) O O O O (A7 (Ajg S O V O ak te O))<|D7 _ O (C6 O O) O O O ((A7c a _ a5) _) (λv _ _ _=>Gz func206 S) Bh λr _=>go ?_;exact D1 (hJ (r,z) _ _ ⟨V,O,O⟩)
   refine U2 (t:=44) hb O<|Avn 8 O<|Fp<|D1 (hJ (false,z) _ _ ⟨V,O,O⟩)
  rintro⟨d2,z⟩ fr h ⟨Y,Z,G,V,rfl,rfl⟩;refine go ?_;intro _;exact D1 (Hl (aq _ _ _ ⟨Y,Z,G,V,O,O⟩))
 refine Di O<|N7<|Ck 6<|D1 (ap _ _ _ ⟨af,O,O⟩)
instance Biy (a:Airspace)(z:Int):CP prog 206 [(.A (Aj a)),(.I z)] (Py a z) (λ(x:List Int)=>(AV.sl 1 (List.map rJ x))):=(Aw7 a z).cp (λx=>Dw x)
instance Bne (a):CP prog 100 [.A (Aj a)] (Acg a) (λp=>AV.tup [.I p.1,.I p.2.1,.B p.2.2.1,.I p.2.2.2]):=by
 refine ci 36 1 func100 (Acg.eq_1 _) λh0 ids V X=>go ?_;intro g r _;refine Bo O (λD=>?_) (λD=>?_)
 .refine go ?_;exact rz
 refine go ?_;refine Ph [1] 6 (λ_=>[]) (λ_=>[Ab g 8 [Aj a]]) ?_ ?_
 .intro j a1 _ G _ W _;refine Ae (Anh.eq_1 ..)<|go ?_;intro z d _;refine Ph [1,6,7] 8 (λ_=>[]) (λ_=>[Ab g 8 [Aj a]]) ?_ ?_
  .intro Y a2 _ S _ W _;refine Ae (Amh.eq_1 ..)<|go ?_;intro _ a3 hz U;refine Bo O (λA=>?_) (λA=>?_)
   .refine go ?_;exact rz
   exact gc
  intro _;exact gc
 intro _;refine go ?_;intro _;exact rz
def A3w (l:List Rule)(z:List Int):Vv prog 268 [(.L 8 Bk l),(.K z)] (Ae8 l z) 8 Bk:=by
 refine Gq 0 func268 O (by decide) O O λh0 ids U=>D8 (Ae (Ae8.eq_1 ..) ?_);refine go ?_;refine Aj7 O te te<|go ?_;refine Kl (g0:=0) [0,1] 6 0 (λout=>out) (λout v=>[(5,v)]) (λout v g=>[Ccu v g 8 Bk out]) .nil ?_ ?_
 .intro j a out v g D _ G W X;refine Ae (Aix.eq_1 ..)<|By ?_;refine Ai<|Ah<|Ov 2 O<|E7 z<|Ov 1 O<|Ad<|Fs (t:=1) (L:=z) O λS=>Co O (AT.2 (A6 D))<|A8<|Ai<|A3<|A4<|Ov 4 O<|Au _ O (Ay (Ex te te O D))<|Ov 1 O<|Tp λa1 hz A=>Au _ O (Ay (Ajb te te O hz A))<|Ov 1 O<|Bgg Abp 0 [a1] O λv1 g1 V=>gc
 intro out v g G;refine go ?_;intro _;exact Gg func268 U O O G O
instance Bos (l:List Rule)(z:List Int):CP prog 268 [(.L 8 Bk l),(.K z)] (Ae8 l z) (λ(x:List Rule)=>(AV.sl 8 (List.map Bk x))):=(A3w l z).cp (λx=>Abp x)
instance Bor (a y):CP prog 295 [.A (Bk a),.A (Bk y)] (Aux a y) AV.bool:=by refine ci 58 2 func295 (Aux.eq_1 ..) λh0 ids z A=>gc
def Apj (l:List Span):Vv prog 297 [(.L 2 Ax l)] (Nm l) 1 rB:=by
 refine Gq 0 func297 O (by decide) O O λh0 ids V=>D8 (Ae (Nm.eq_1 _) ?_);refine go ?_;intro X;refine Bhq (y:=(false:Bool)) (e:=rB) (j:=0) V O O O O te te O O X.1 X.2.1 X.2.2 O O O O O λv g vH=>go ?_;refine Gh [0,3,4] ?_;refine Ld (P:=prog) l _ _ (λj=>λout=>λfr h=>Av v (ix ids 0) g out.length/\fr=Ac [(0,.L 2 Ax l),(3,v),(4,.I j)]/\h=hp h0 ids [Ccu v g 1 rB out]) (List.replicate (Int.toNat 1440) false) ?_ ?_ ?_
 .exact⟨vH,O,O⟩
 .rintro j a ha W hW out fr h ⟨G,rfl,rfl⟩;refine Ae (m':=Lx a out) O (Ae (Lx.eq_1 ..) ?_);refine go ?_;intro U;refine Au _ O (A03 O)<|Ov 1 O<|Ad<|Ra (λz=>Aby z) (λz=>λfr h=>Av v (ix ids 0) g z.length/\fr=Ac [(0,.L 2 Ax l),(3,v),(4,.I j)]/\h=hp h0 ids [Ccu v g 1 rB z]) ?_ λhJ=>?_
  .rintro z fr h ⟨Y,rfl,rfl⟩;refine Ae (Aby.eq_1 _)<|go ?_;exact D1 (Z4 (hW _ _ _ ⟨Y,O,O⟩)) (.r2 (.o (ic ha U)))
  refine A3<|Gh [0,3,4,5] ?_;refine Ko (P:=prog) _ _ (Ct λm A=>λfr h=>Av v (ix ids 0) g A.length/\fr=Ac [(0,.L 2 Ax l),(3,v),(4,.I j),(5,.I m)]/\h=hp h0 ids [Ccu v g 1 rB A]) ((if 0>a.From then 0 else a.From),out) ?_ ?_
  .exact⟨G,O,O⟩
  rintro ab Z ⟨m,A⟩ fr h ⟨D,rfl,rfl⟩;refine Ae (m':=Jo a m A) O (Ae (Jo.eq_1 ..) ?_);refine go ?_;refine Au _ O (Bap O)<|go ?_;refine E4 O (λhc=>?_) (λhc=>?_)
  .refine A8<|Ai<|A3<|A4<|Ov 2 O<|Tp λa1 hz S=>Au _ O (Ay (Rb V O D O te te O hz S))<|Cw (Xw V O O D O S te O O O O O O) ?_;have aa:=GG (i:=(Int.toNat m)) (y:=true) D;have ac:=BO (a:=true) (A6 S);refine go ?_;exact D1 (Hl (Z _ _ _ ⟨aa,O,O⟩))
  refine Di O<|N7<|D1 (hJ _ _ _ ⟨D,O,O⟩)
 rintro out fr h ⟨G,rfl,rfl⟩;refine go ?_;intro _;exact Gg func297 V O O G O
instance A0w (l:List Span):CP prog 297 [(.L 2 Ax l)] (Nm l) (λ(x:List Bool)=>(AV.sl 1 (List.map rB x))):=(Apj l).cp (λx=>A6f x)
def A2o (D:List Bool):Vv prog 298 [(.L 1 rB D)] (Xa D) 2 Ax:=by
 refine Gq 0 func298 O (by decide) O O λh0 ids G=>D8 (Ae (Xa.eq_1 _) ?_);refine go ?_;refine Aj7 O te te<|go ?_;refine Kl (g0:=0) [0] 4 0 (λout=>out) (λout v=>[(3,v)]) (λout v g=>[Ccu v g 2 Ax out]) .nil ?_ ?_
 .intro j a out v g ha _ z W hW;refine Ae (J9.eq_1 ..)<|go ?_;intro Y;refine N8 O (λhc=>?_) (λhc=>?_)
  .refine A8<|Ah<|Ov 1 O<|Au _ O (D4 (Av.len z te))<|Ov 1 O<|Ad<|Ah<|Ov 3 O<|G9 9 22 31 [0,3,4,5] .bool O ?_ (λS _ Z=>?_) (λS _ Z=>?_)
   .intro b;refine Ad<|Bo O (λU=>?_) (λU=>?_)
    .refine A4<|Ov 5 O<|Tp λa2 V A=>Au _ O (Ay (Rb G O z O te te O V A))<|Ov 1 O<|Cw (Xw (y:={a2 with To:=(wi ((j:Int)+1))}) G O O z O A te O O O O O O) ?_;have aa:=GG (i:=(Int.toNat (IntKind.wrap .i64 ((out.length:Int)-1)))) (y:={a2 with To:=(IntKind.wrap .i64 ((j:Int)+1))}) z;have ab:=BO (a:={a2 with To:=(IntKind.wrap .i64 ((j:Int)+1))}) (A6 A);exact gc
    refine A4<|Ov 5 O<|Bgg Gu 0 [({From:=(j:Int),To:=(wi ((j:Int)+1))}:Span)] O λv1 g1 ac=>gc
   .refine Ov 3 O<|Tp λa1 hz X=>F5 (.ptr (ix ids 0) g (Int.toNat (wi ((out.length:Int)-1))) 0) O O O (Ay (Rb G O z O te te O hz X))<|gc
   refine Ov 9 O<|A6m (Z false)
  exact gc
 intro out v g z;refine go ?_;intro _;exact Gg func298 G O O z O
instance Bon (z:List Bool):CP prog 298 [(.L 1 rB z)] (Xa z) (λ(x:List Span)=>(AV.sl 2 (List.map Ax x))):=(A2o z).cp (λx=>Gu x)
instance A1q (l):CP prog 272 [.L 2 Ax l] (Ak4 l) (λx=>(AV.sl 2 (List.map Ax x))):=by refine ci 6 0 func272 (Ak4.eq_1 _) λh0 ids z A=>gc
instance Bbt (l):CP prog 296 [.L 2 Ax l] (Ar7 l) AV.bool:=by
 refine ci 16 0 func296 (Ar7.eq_1 _) λh0 ids G S=>Ah<|Ov 1 O<|Ad<|Ah<|Ov 1 O<|oc ((A1q l) _) λr _=>Ov 1 O<|Ad<|Ah<|Ov 1 O<|E7 r<|Ov 2 O<|G9 6 9 15 [] .bool O ?_ (λz _ A=>?_) (λz _ A=>?_)
 .intro b;exact gc
 .refine go ?_;intro a hz D;refine F5 (.B ((a.From==0)&&(a.To==1440))) O O O (Bb (Bhd O O) O Bhn)<|gc
 exact gc
instance Bb5 (l):CP prog 267 [.L 8 Bk l] (Ac7 l) AV.bool:=by
 refine ci 83 1 func267 (Ac7.eq_1 _) λh0 ids hI hF=>go ?_;refine Ph [0] 3 (λ_=>[]) (λ_=>[none]) ?_ ?_
 .intro j a _ ha _ W _;refine Ae (Af9.eq_1 ..)<|go ?_;intro ad;refine Aj7 O te te<|go ?_;refine Gh [0,3,4,5] ?_;refine Ast (P:=prog) l _ _ (λY=>λz=>λfr h=>∃(v:AV),∃(g:Nat),Av v (ix ids 0) g z.length/\fr=Ac [(0,.L 8 Bk l),(3,.I j),(4,v),(5,.I Y)]/\h=hp h0 ids [Ccu v g 2 Ax z]) [] ?_ ?_ ?_
  .exact⟨.emp,0,.nil,O,O⟩
  .rintro Y a1 D W V z fr h ⟨v,g,Z,rfl,rfl⟩;refine Ae (m':=Om j a Y a1 z) O (Ae (Om.eq_1 ..) ?_);refine Ai<|Ah<|Ov 2 O<|E7 l<|Ov 1 O<|Ad<|Fs (t:=0) (L:=l) O λA=>Co O (AT.2 (A6 D))<|A8<|Ai<|A3<|Ai<|Ai<|jn (λx=>Oo a z a1 x) [0,3,4,5] (λx=>[(32,.B x)]) (λx=>[Ccu v g 2 Ax z]) ?_ λ_=>?_
   .intro x;refine Ae (Oo.eq_1 ..)<|By ?_;refine Bo O (λhc=>?_) (λhc=>?_)
    .exact gc
    refine A8<|Ai<|jn (λX=>Ju z a1 X) [0,3,4,5] (λX=>[(72,.B X)]) (λX=>[Ccu v g 2 Ax z]) ?_ λ_=>?_
    .intro X;refine Ae (Ju.eq_1 ..)<|By ?_;refine Bo O (λaa=>?_) (λaa=>?_)
     .refine A4<|Ov 3 O<|Au _ O (Ay (Ex te te O D))<|Ov 2 O<|Bgg Gu 0 [a1.Hours] O λv1 g1 ab=>go ?_;exact D1 (Avz (V _ _ _ ⟨v1,g1,ab,O,O⟩)) (.r2 (.r (.cons (Vf (A6 D) A) .nil)))
     refine go ?_;exact D1 (Avz (V _ _ _ ⟨v,g,Z,O,O⟩)) (.r2 (.r (.cons (Vf (A6 D) A) .nil)))
    refine go ?_;refine On (λG=>?_) (λG=>?_)
    .refine U2 (t:=39) G O<|go ?_;refine On (λS=>?_) (λS=>?_)
     .refine U2 (t:=47) S O<|go ?_;refine On (λU=>?_) (λU=>?_)
      .refine U2 (t:=60) U O<|gc
      refine U2 (t:=60) U O<|gc
     refine U2 (t:=47) S O<|gc
    refine U2 (t:=39) G O<|gc
   refine go ?_;refine On (λhb=>?_) (λhb=>?_)
   .refine U2 (t:=22) hb O<|gc
   refine U2 (t:=22) hb O<|gc
  rintro z fr h ⟨v,g,Z,rfl,rfl⟩;refine go ?_;intro _;refine oc (FN (Bbt z) (EW (.cons (Ca Z (hI.at O O) O (λx=>Gu x)) .nil)) (λ_ _=>(.bool _))) λr1 _=>Ad<|Bo O (λac=>?_) (λac=>?_)
  .exact gc
  refine go ?_;refine Ck 1<|gc
 intro _;exact gc
theorem A04 (D:(List Rule)->(List Int)->Int->R ((List Int)×Bool))(G:∀(l:List Rule) (begin:List Int) (many:Int),CP prog 207 [(.L 8 Bk l),(.L 1 (rI .i64) begin),(.I many)] (D l begin many) (λ(p:((List Int)×Bool))=>AV.tup [(.L 1 (rI .i64) p.1),(.bool p.2)]))(l begin many):CP prog 207 [.L 8 Bk l,.K begin,.I many] (Ro D l begin many) (λp=>AV.tup [.K p.1,.B p.2]):=by
 refine ci 52 1 func207 (Ro.eq_1 ..) λh0 ids A Z=>go ?_;intro _;refine Bo O (λX=>?_) (λX=>?_)
 .refine go ?_;intro r _ r1 _;exact rz
 refine go ?_;intro _;refine jn (λz=>Ua l begin many D z) [0,1,2] (λz=>[(8,.I z)]) (λz=>[none]) ?_ λ_=>?_
 .intro z;refine Ae (Ua.eq_1 ..)<|By ?_;refine Ai<|Ah<|Ov 2 O<|Ad<|jn (π:=Unit) (λ_=>Aml) [] (λ_=>[]) (λ_=>[none]) ?_ λ_=>?_
  .intro _;refine Ae (Aml.eq_1)<|go ?_;exact rz
  refine A3<|lpL [0,1,2] (λi=>[(9,.I i)]) (λi=>[none]) ?_;intro i W _;refine Ae (An1.eq_1 ..)<|go ?_;intro _;refine E4 O (λS=>?_) (λS=>?_)
  .refine A8<|Ai<|A3<|Ah<|Ov 1 O<|Aj7 O te te<|Ov 1 O<|Cf λY=>Ce (e:=rJ) (L:=([]:List Int)) (L2:=begin) (v:=.emp) (g:=0) (st:=1) (j:=0) A O O O O .nil O (B7 O) te te O te O O O (by simpa using Y) λv g vH=>Ov 1 O<|Bgg Ot 0 [i] O λv1 g1 U=>Ov 1 O<|Bb7 [(0,.L 8 Bk l),(1,.K begin),(2,.I many),(9,.I i),(39,.L 8 Bk l),(45,.K (begin++[i])),(46,.I many)] (Drops.sub (.drop .nil) A.len) (.s (.s (.s (.s (.s (.cons (Ca U (A.at O O) (A.at O O) (λx=>Dw x)) .s1)))))) O O<|go ?_;intro r2 _;refine Bo O (λV=>?_) (λV=>?_)
   .refine go ?_;exact rz
   exact gc
  refine Di O<|N7<|gc
 exact gc
theorem A1a:∀(n:Nat) (l:List Rule) (begin:List Int) (many:Int),CP prog 207 [(.L 8 Bk l),(.K begin),(.I many)] (M7 n l begin many) (λ(p:((List Int)×Bool))=>AV.tup [(.K p.1),(.B p.2)]):=by
 intro n;induction n with
 |zero=>intro l begin many;exact⟨λh z=>absurd rfl z⟩
 |succ n A=>intro l begin many;exact A04 (M7 n) A l begin many
instance A3i (l:List Rule)(begin:List Int)(many:Int):CP prog 207 [(.L 8 Bk l),(.K begin),(.I many)] (An6 l begin many) (λ(p:((List Int)×Bool))=>AV.tup [(.K p.1),(.B p.2)]):=A1a Aot l begin many
instance Bm3 (a):CP prog 101 [.A (Aj a)] (Aaf a) (λp=>AV.tup [.K p.1,.I p.2]):=by
 refine ci 29 1 func101 (Aaf.eq_1 _) λh0 ids S U=>go ?_;intro g e _;refine Bo O (λD=>?_) (λD=>?_)
 .refine go ?_;exact rz
 refine A8<|Ai<|Ah<|Ov 1 O<|Ad<|jn (π:=Unit) (λ_=>Aj5) [] (λ_=>[]) (λ_=>[none]) ?_ λ_=>?_
 .intro _;refine Ae (Aj5.eq_1)<|go ?_;exact rz
 refine A3<|lpL [1] (λn=>[(5,.I n)]) (λn=>[Ab g 8 [Aj a]]) ?_;intro n W _;refine Ae (Alf.eq_1 ..)<|go ?_;intro _;refine E4 O (λz=>?_) (λz=>?_)
 .refine go ?_;refine oc (λG=>FO (.s (.cons (.emp _) .s1)) ((A3i a.Rules _ n) _ G)) λr _=>go ?_;refine Bo O (λA=>?_) (λA=>?_)
  .refine go ?_;exact rz
  exact gc
 refine Di O<|N7<|A07<|Ck 1<|gc
instance Boj (a n):CP prog 269 [.A (Aj a),.I n] (Ah6 a n) AV.bool:=by
 refine ci 35 1 func269 (Ah6.eq_1 ..) λh0 ids S U=>go ?_;intro g;refine On (λD=>?_) (λD=>?_)
 .refine U2 (t:=7) D O<|go ?_;refine On (λz=>?_) (λz=>?_)
  .refine U2 (t:=14) z O<|go ?_;intro a1 hz G;refine On (λA=>?_) (λA=>?_)
   .refine U2 (t:=23) A O<|gc
   refine U2 (t:=23) A O<|gc
  refine U2 (t:=14) z O<|gc
 refine U2 (t:=7) D O<|gc
instance Bol (a b):CP prog 270 [.L 2 Ax a,.L 2 Ax b] (Acl a b) (λx=>(AV.sl 2 (List.map Ax x))):=by
 refine ci 34 1 func270 (Acl.eq_1 ..) λh0 ids A hF=>Ah<|Ov 1 O<|Ad<|Ah<|Ov 1 O<|Aon (j:=0) [.L 2 Ax a] A O O O O O O ((Apj a) _ _ (A.at O O)) (λv _=>Es func270 A) λr _ v g W=>Ov 1 O<|Ad<|Bv ?_;refine Ah<|Ov 1 O<|oc ((A0w b) _) λy _=>Ov 1 O<|Ad<|Ai<|Ah<|Ov 1 O<|Ad<|Ra (λG=>Ti G) (λG=>λfr h=>Av v (ix ids 0) g G.length/\fr=Ac [(5,v)]/\h=hp h0 ids [Ccu v g 1 rB G]) ?_ λS=>?_
 .rintro G fr h ⟨U,rfl,rfl⟩;refine Ae (Ti.eq_1 _)<|go ?_;refine Bb7 [(32,.L 1 rB G)] (Drops.sub (.drop .nil) A.len) (.cons (Ca U (A.at O O) (A.at O O) (λx=>A6f x)) .nil) O O<|gc
 refine A3<|Gh [5,6,7] ?_;refine Ko (P:=prog) _ _ (Ct λm x=>λfr h=>Av v (ix ids 0) g x.length/\fr=Ac [(5,v),(6,.L 1 rB y),(7,.I m)]/\h=hp h0 ids [Ccu v g 1 rB x]) (0,r) ?_ ?_
 .exact⟨W,O,O⟩
 rintro vW X ⟨m,x⟩ fr h ⟨z,rfl,rfl⟩;refine Ae (m':=Jj y m x) O (Ae (Jj.eq_1 ..) ?_);refine go ?_;intro _;refine E4 O (λY=>?_) (λY=>?_)
 .refine A8<|Ai<|A3<|A4<|Ov 4 O<|Tp λa1 hz D=>Au _ O (Ay (Rb A O z O te te O hz D))<|go ?_;intro b1;refine Au _ O (Ay (Rb A O z O te te O hz D))<|Cw (Xw A O O z O D te O O O O O O) ?_;have V:=GG (i:=(Int.toNat m)) (y:=b1) z;have Z:=BO (a:=b1) (A6 D);refine go ?_;exact D1 (Hl (X _ _ _ ⟨V,O,O⟩))
 refine Di O<|N7<|D1 (S _ _ _ ⟨z,O,O⟩)
instance Bjv (a segment):CP prog 208 [.A (Aj a),.I segment] (Up a segment) (λp=>AV.tup [.L 2 Ax p.1,.I p.2]):=by
 refine ci 33 2 func208 (Up.eq_1 ..) λh0 ids V W=>go ?_;intro g r _;refine N8 O (λD=>?_) (λD=>?_)
 .refine go ?_;intro a1 hz G g1 _;refine jn (λz=>Oj a a1 z) [2,6] (λz=>[(7,.L 2 Ax z)]) (λz=>[Ab g 8 [Aj a],Ab g1 5 [C3 a1]]) ?_ λ_=>?_
  .intro z;refine Ae (Oj.eq_1 ..)<|go ?_;intro a2 S U r1 _;exact rz
  refine Bo O (λA=>?_) (λA=>?_)
  .refine go ?_;refine Be3 Gu [({From:=0,To:=1440}:Span)]<|gc
  exact gc
 refine go ?_;exact rz
end Go.Am
