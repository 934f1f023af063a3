import Derived.Test.YtjajmhcejacahaaGreatDoorU12
set_option linter.all false
set_option maxHeartbeats 4000000
set_option maxRecDepth 100000
open Go.Proofs.Tryz
namespace Go.Am
open Go Go.Proofs Go.Proofs.Tryz
attribute [local irreducible] WR WO WP WU Nu
instance Bjg (a):CP prog 102 [.A (Aj a)] (Zq a) (λp=>AV.tup [.K p.1,.I p.2]):=by
 refine ci 57 3 func102 (Zq.eq_1 _) λh0 ids X hF=>go ?_;intro g _ hl;refine Bhq (y:=(false:Bool)) (e:=rB) (j:=1) X O O O O te te O O hl.1 hl.2.1 hl.2.2 O O O O O λv g1 vH=>go ?_;refine Gh [1,4,5] ?_;refine Ast (P:=prog) a.Segments _ _ (λj=>λA=>λfr h=>Av v (ix ids 1) g1 A.length/\fr=Ac [(1,.q ids 0 g),(4,v),(5,.I j)]/\h=hp h0 ids [Ab g 8 [Aj a],Ccu v g1 1 rB A,none]) (List.replicate (Int.toNat (a.Volumes.length:Int)) false) ?_ ?_ ?_
 .exact⟨vH,O,O⟩
 .rintro j a1 S W hW A fr h ⟨D,rfl,rfl⟩;refine Ae (m':=Kt a j a1 A) O (Ae (Kt.eq_1 ..) ?_);refine go ?_;intro G r _;refine Bo O (λhc=>?_) (λhc=>?_)
  .refine go ?_;exact rz
  refine go ?_;intro _;refine E4 O (λab=>?_) (λab=>?_)
  .refine A4<|Zm 4 [0] O<|Au _ O (Ay (Ex te te O S))<|Ov 2 O<|Tp λa2 hz U=>Au _ O (Ay (Rb X O D O te te O hz U))<|Cw (Xw X O O D O U te O O O O O O) ?_;have ac:=GG (i:=(Int.toNat a1.Volume)) (y:=true) D;have aj:=BO (a:=true) (A6 U);refine go ?_;exact D1 (Avz (hW _ _ _ ⟨ac,O,O⟩)) (.r2 (.cons (Vf (A6 S) G) .nil))
  refine go ?_;exact D1 (Avz (hW _ _ _ ⟨D,O,O⟩)) (.r2 (.cons (Vf (A6 S) G) .nil))
 rintro A fr h ⟨D,rfl,rfl⟩;refine go ?_;intro _;refine Aj7 O te te<|Ov 1 O<|Ad<|Ai<|Ah<|Ov 1 O<|Ad<|Ra (λl1=>M4 l1) (λl1=>λfr h=>∃(v3:AV),∃(g4:Nat),Av v3 (ix ids 2) g4 l1.length/\fr=Ac [(8,v3)]/\h=hp h0 ids [none,none,Ccu v3 g4 1 rJ l1]) ?_ λhJ=>?_
 .rintro l1 fr h ⟨v3,g4,ad,rfl,rfl⟩;refine Ae (M4.eq_1 _)<|go ?_;exact rt (hz:=by exact .tupL (.cons (Ca ad (X.at O O) (X.out O) (λx=>Dw x)) .s1))
 refine A3<|Ck 1<|Gh [4,8,9] ?_;refine Ko (P:=prog) _ _ (un3 λi1 z l=>λfr h=>∃(v1:AV),∃(Y:Nat),Av v (ix ids 1) g1 z.length/\Av v1 (ix ids 2) Y l.length/\fr=Ac [(4,v),(8,v1),(9,.I i1)]/\h=hp h0 ids [none,Ccu v g1 1 rB z,Ccu v1 Y 1 rJ l]) (0,A,[]) ?_ ?_
 .exact⟨.emp,0,D,.nil,O,O⟩
 rintro ak Z ⟨i1,z,l⟩ fr h ⟨v1,Y,V,aa,rfl,rfl⟩;refine Ae (m':=Fc i1 z l) O (Ae (Fc.eq_1 ..) ?_);refine go ?_;intro _;refine E4 O (λae=>?_) (λae=>?_)
 .refine A8<|Ai<|A3<|Ah<|Ov 2 O<|Tp λa3 af ag=>Au _ O (Ay (Rb X O V O te te O af ag))<|go ?_;refine Bo O (λah=>?_) (λah=>?_)
  .refine A4<|Ov 2 O<|Bgg Ot 2 [i1] O λv2 g3 ai=>go ?_;exact D1 (Hl (Z _ _ _ ⟨v2,g3,V,ai,O,O⟩))
  refine go ?_;exact D1 (Hl (Z _ _ _ ⟨v1,Y,V,aa,O,O⟩))
 refine Di O<|N7<|Ck 2<|D1 (hJ _ _ _ ⟨v1,Y,aa,O,O⟩)
instance A60 (a route):CP prog 104 [.A (Aj a),.I route] (Aeg a route) (λp=>AV.tup [.L 4 If p.1,.I p.2]):=by
 refine ci 69 2 func104 (Aeg.eq_1 ..) λh0 ids Y hF=>Ah<|Ip 0 (.A (Aj a)) λg=>Ov 2 O<|Ad<|Bv ?_;refine Ai<|Ah<|Ov 3 O<|Oc 6 13 19 [1,2] (.B ((decide (route<0))||(decide (route>=(a.Routes.length:Int))))) O ?_ (λz _ G=>?_) (λz _ G=>?_)
 .refine Ad<|Bo O (λZ=>?_) (λZ=>?_)
  .refine go ?_;exact rz
  refine go ?_
  refine Aj7 O te te<|Ov 1 O<|Ad<|Ai<|Ah<|Ov 1 O<|Ad<|Ra (λl1=>Ait l1) (λl1=>λfr h=>∃(v2:AV),∃(g3:Nat),Av v2 (ix ids 1) g3 l1.length/\fr=Ac [(6,v2)]/\h=hp h0 ids [none,Ccu v2 g3 4 If l1]) ?_ λS=>?_
  .rintro l1 fr h ⟨v2,g3,U,rfl,rfl⟩;refine Ae (Ait.eq_1 _)<|go ?_;exact rt (hz:=by exact .tupL (.cons (Ca U (Y.at O O) (Y.out O) (λx=>A1z x)) .s1))
  refine A3<|Gh [1,2,6,7] ?_
  refine Ko (P:=prog) _ _ (Ct λi l=>λfr h=>∃(v:AV),∃(g1:Nat),Av v (ix ids 1) g1 l.length/\fr=Ac [(1,.I route),(2,.q ids 0 g),(6,v),(7,.I i)]/\h=hp h0 ids [Ab g 8 [Aj a],Ccu v g1 4 If l]) (0,[]) ?_ ?_
  .exact⟨.emp,0,.nil,O,O⟩
  rintro vW hW ⟨i,l⟩ fr h ⟨v,g1,vH,rfl,rfl⟩
  refine Ae (m':=Jq a route i l) O (Ae (Jq.eq_1 ..) ?_)
  refine go ?_
  intro a1 hz aa _
  refine E4 O (λV=>?_) (λV=>?_)
  .refine go ?_;intro a2 ab ac r _;refine Bo O (λW=>?_) (λW=>?_)
   .refine go ?_;exact rz
   refine A8<|Ajf [0,1,2,3,4,5,6,7,8,9,10,11,12,13,14,15,16,17,18] ?_;refine Au7 5 [0] O<|Ap5 λa3 A D=>Az _ O O (Ay (Ajb te te O A D))<|Au7 5 [0] O<|Az _ O O (Ay (Ajb te te O A D))<|Avn 4 O<|Arc A1z [({Segment:=a2,Volume:=a3.Volume,Length:=a3.Length,Minutes:=r.1}:Leg)] O (A9 [])<|Da λhl=>Avk 1 O O O (λ_ _=>Bh) λv1 g2 X=>go ?_;exact D1 (Hl (hW _ _ _ ⟨v1,g2,X,O,O⟩))
  refine Di O<|N7<|A07<|Ck 1<|D1 (S _ _ _ ⟨v,g1,vH,O,O⟩)
 .refine Ov 6 O<|wj G (Ava z)
 refine Zm 3 [0] O<|F5 (.I (a.Routes.length:Int)) O O O (D4 (Jy te))<|Ov 2 O<|wj G (Av1 z)
instance Bk5 (a):CP prog 103 [.A (Aj a)] (Ab8 a) (λp=>AV.tup [.K p.1,.I p.2]):=by
 refine ci 49 2 func103 (Ab8.eq_1 _) λh0 ids U hF=>go ?_;intro g;refine Aj7 O te te<|go ?_;refine Gh [1,4,5] ?_;refine Ast (P:=prog) a.Routes _ _ (λj=>λl=>λfr h=>∃(v:AV),∃(g1:Nat),Av v (ix ids 1) g1 l.length/\fr=Ac [(1,.q ids 0 g),(4,v),(5,.I j)]/\h=hp h0 ids [Ab g 8 [Aj a],Ccu v g1 1 rJ l]) [] ?_ ?_ ?_
 .exact⟨.emp,0,.nil,O,O⟩
 .rintro j a1 A W V l fr h ⟨v,g1,D,rfl,rfl⟩;refine Ae (m':=Lo a j l) O (Ae (Lo.eq_1 ..) ?_);refine go ?_;intro z r _;refine Bo O (λX=>?_) (λX=>?_)
  .refine go ?_;exact rz
  refine go ?_;refine Ui [1,4,5,6] 9 (λblocked=>[(8,.B blocked)]) (λblocked=>[Ab g 8 [Aj a],Ccu v g1 1 rJ l]) ?_ ?_
  .intro j1 a2 blocked Y _ W _;refine Ae (Ajm.eq_1 ..)<|gc
  intro blocked;refine go ?_;intro _;refine Bo O (λG=>?_) (λG=>?_)
  .refine A4<|Ov 2 O<|Bgg Ot 1 [(j:Int)] O λv1 Z S=>go ?_;exact D1 (Avz (V _ _ _ ⟨v1,Z,S,O,O⟩)) (.r2 (.cons (Vf (A6 A) z) .nil))
  refine go ?_;exact D1 (Avz (V _ _ _ ⟨v,g1,D,O,O⟩)) (.r2 (.cons (Vf (A6 A) z) .nil))
 rintro l fr h ⟨v,g1,D,rfl,rfl⟩;refine go ?_;intro _;exact rt (hz:=by exact .tupL (.cons (Ca D (U.at O O) (U.out O) (λx=>Dw x)) .s1))
instance Bku (a):CP prog 37 [.A (Aj a)] (Aik a) (.I):=by refine ci 65 1 func37 (Aik.eq_1 _) λh0 ids z A=>gc
instance Bmv (a kind class1 otherwise):CP prog 271 [.A (Aj a),.I kind,.I class1,.I otherwise] (Ads a kind class1 otherwise) (.I):=by
 refine ci 42 1 func271 (Ads.eq_1 ..) λh0 ids A D=>go ?_;intro g;refine Ph [1,2,3,4] 9 (λ_=>[]) (λ_=>[Ab g 8 [Aj a]]) ?_ ?_
 .intro j a1 _ z _ W _;refine Ae (Asd.eq_1 ..)<|gc
 intro _;exact gc
instance Bmw (a class1):CP prog 209 [.A (Aj a),.I class1] (Aqj a class1) (λp=>AV.tup [.I p.1,.I p.2]):=by
 refine ci 24 1 func209 (Aqj.eq_1 ..) λh0 ids D G=>go ?_;intro g e _;refine Bo O (λA=>?_) (λA=>?_)
 .refine go ?_;exact rz
 refine go ?_;refine Bo O (λz=>?_) (λz=>?_)
 .refine go ?_;exact rz
 refine go ?_;intro r _;exact rz
instance Bkp (a class1):CP prog 210 [.A (Aj a),.I class1] (Apc a class1) (λp=>AV.tup [.I p.1,.I p.2]):=by
 refine ci 28 1 func210 (Apc.eq_1 ..) λh0 ids G S=>go ?_;intro g e _;refine Bo O (λD=>?_) (λD=>?_)
 .refine go ?_;exact rz
 refine go ?_;refine Bo O (λz=>?_) (λz=>?_)
 .refine go ?_;exact rz
 refine go ?_;intro r _;refine Bo O (λA=>?_) (λA=>?_)
 .refine go ?_;exact rz
 refine go ?_;intro r1 _;exact rz
instance A1f (a class1 airport):CP prog 211 [.A (Aj a),.I class1,.I airport] (Aq2 a class1 airport) (λp=>AV.tup [.L 2 Ax p.1,.I p.2]):=by
 refine ci 82 2 func211 (Aq2.eq_1 ..) λh0 ids z Y=>go ?_;intro g e _;refine Bo O (λV=>?_) (λV=>?_)
 .refine go ?_;exact rz
 refine go ?_;refine Bo O (λA=>?_) (λA=>?_)
 .refine go ?_;exact rz
 refine go ?_;refine Aj7 O te te<|go ?_;refine Kl (g0:=0) [1,2,3] 10 1 (λl=>l) (λl v=>[(9,v)]) (λl v g1=>[Ab g 8 [Aj a],Ccu v g1 2 Ax l]) .nil ?_ ?_
 .intro j a1 l v g1 D _ U W Z;refine Ae (As0.eq_1 ..)<|go ?_;intro G;refine Bo O (λS=>?_) (λS=>?_)
  .refine A4<|Zm 4 [0] O<|Au _ O (Ay (Ex te te O D))<|Ov 2 O<|Bgg Gu 1 [a1.Hours] O λv1 g2 X=>gc
  exact gc
 intro l v g1 U;refine go ?_;intro _;refine Bb7 [(80,.L 2 Ax l)] (Drops.sub (.keep (.drop .nil)) z.len) (.cons (Ca U (z.at O O) (z.at O O) (λx=>Gu x)) .nil) O O<|go ?_;intro r _;exact rz
instance A69 (a class1):CP prog 105 [.A (Aj a),.I class1] (Awi a class1) (λx=>(AV.agg (Gi x))):=by
 refine ci 57 5 func105 (Awi.eq_1 ..) λh0 ids z X=>go ?_;intro g g1 a1 hz V Y g3 r _ r1 _;refine Ck 4<|Kl (g0:=0) [1,2,4,6] 7 4 (λl=>l) (λl v=>[]) (λl v A=>[Ab g 8 [Aj a],Ab g1 6 [[.I 0,.I 0,.I 0,.I 0,.I 0,.emp]],none,Ab g3 6 [[.I a1.Slow,.I a1.Fast,.I a1.Places,.I r.1,.I r1.1,v]],Ccu v A 1 (rL 2 Ax) l]) .nil ?_ ?_
 .intro j a2 l v A D _ G W Z;refine Ae (Aw3.eq_1 ..)<|By ?_;refine Ai<|Ah<|Zm 3 [0] O<|E7 a.Airports<|Ov 1 O<|Ad<|Fs (t:=38) (L:=a.Airports) O λS=>Co O (AT.2 (A6 D))<|A8<|Ai<|A3<|Ah<|Zm 3 [0] O<|oc ((A1f a class1 _) _) λr2 _=>Ov 5 O<|Ad<|A4<|Zm 3 [3] O<|Bgg (e:=(rL 2 Ax)) (λx=>Ate x) 4 [r2.1] O λv1 g5 U=>?_;refine Ov 1 O<|Cw (De U z O O O O te O O O)<|gc
 intro l v A G;refine go ?_;intro _;refine Cw (Iz z O O O O te O O O O (Bc O (Bc O (Bc O (Bc O (Bc O (Bc (EA G) Rm)))))))<|go ?_;exact rt (hr:=by exact(Aw (Ar z O O O te O) A0)) (hz:=by exact .aggL (.s (.s (.s (.s (.s (.cons (Ca G (z.at O O) (z.out O) (λx=>Ate x)) .nil)))))))
instance Bm1 (a):CP prog 38 [.A (Aj a)] (Zx a) (λx=>(AV.agg (B9 x))):=by
 refine ci 147 10 func38 (Zx.eq_1 _) λh0 ids z hF=>go ?_;intro g g1 _ g2;refine Kl (g0:=0) [1,2,3] 4 4 (λl=>l) (λl v=>[]) (λl v g3=>[Ab g 8 [Aj a],Ab g1 6 [[.I 0,.emp,.emp,.emp,.emp,.emp]],Ab g2 6 [[.I (a.Volumes.length:Int),v,.emp,.emp,.emp,.emp]],none,Ccu v g3 5 Br l,none,none,none,none,none]) .nil ?_ ?_
 .intro j a1 l v g3 ah _ vH W hW;refine Ae (Asf.eq_1 ..)<|By ?_;refine Ai<|Ah<|Zm 3 [0] O<|E7 a.Sectors<|Ov 1 O<|Ad<|Fs (t:=20) (L:=a.Sectors) O λan=>Co O (AT.2 (A6 ah))<|A8<|Ai<|A3<|Ah<|Zm 3 [0] O<|Au _ O (Ay (Ex te te O ah))<|Ov 1 O<|D9 3 te λg4=>Gk (.A (Br a1)) ?_;refine Ad<|Bv ?_;refine A4<|Zm 9 [2,3,3,3] O<|Ch (e:=Br) (L:=[({Name:=[],Names:=[],Volumes:=a1.Volumes,Radar:=a1.Radar,Procedural:=a1.Procedural}:Sector)]) O te te O O O O O (.cons (.s (.cons (.emp _) (.s .s2))) .nil) (λx=>Vs x) O O<|Cf λhl=>Ce (j:=4) z O O O O vH O (B7 O) te te O te O O O hl λv1 g5 ao=>Ov 1 O<|Cw (De ao z O O O O te O O O)<|go ?_;refine Ck 8<|Hx hW
 intro l v g3 vH;refine go ?_;intro _;refine Kl (g0:=0) [1,2,3] 6 5 (λl1=>l1) (λl1 v2=>[]) (λl1 v2 g6=>[Ab g 8 [Aj a],Ab g1 6 [[.I 0,.emp,.emp,.emp,.emp,.emp]],Ab g2 6 [[.I (a.Volumes.length:Int),v,v2,.emp,.emp,.emp]],none,Ccu v g3 5 Br l,Ccu v2 g6 3 Bz l1,none,none,none,none]) .nil ?_ ?_
 .intro j1 a2 l1 v2 g6 ai _ aa W az;refine Ae (Aj9.eq_1 ..)<|By ?_;refine Ai<|Ah<|Zm 3 [0] O<|E7 a.Configs<|Ov 1 O<|Ad<|Fs (t:=44) (L:=a.Configs) O λap=>Co O (AT.2 (A6 ai))<|A8<|Ai<|A3<|Ajf [0,1,2,3,4,5,6,7,8,9,10,11,12] ?_;refine Au7 5 [2,0] O<|Az (.cp (Bz a2) 0) O O (Ay (Ex te te O ai))<|Avn 3 O<|Cz O O (λ_ _=>O) (λK A=>Dd (e:=Bz) (L:=[({Name:=[],Names:=[],Sectors:=a2.Sectors}:Config)]) (st:=3) (rows:=[[.str [],.emp,.K a2.Sectors]]) te te O O O O O (.cons (.s (.cons (.emp _) .s1)) .nil) (λx=>Vp x) O O (A _ _ (A9 [2]) ?_));clear A K;refine Da λa0=>Avk 5 O O O (λ_ _=>Bh) λv3 g7 aq=>Avn 1 O<|Cv O (λ_ _=>O) (λK A=>Bi (De aq z O O O O te O O O) (A _ _ Bh ?_));clear A K;exact gc
 intro l1 v2 g6 aa;refine go ?_;intro _;refine Kl (g0:=0) [1,2,3] 7 6 (λX=>X) (λX D=>[]) (λX D g8=>[Ab g 8 [Aj a],Ab g1 6 [[.I 0,.emp,.emp,.emp,.emp,.emp]],Ab g2 6 [[.I (a.Volumes.length:Int),v,v2,D,.emp,.emp]],none,Ccu v g3 5 Br l,Ccu v2 g6 3 Bz l1,Ccu D g8 3 Ks X,none,none,none]) .nil ?_ ?_
 .intro j2 a3 X D g8 ab _ ac W a7;refine Ae (Asp.eq_1 ..)<|By ?_;refine Ai<|Ah<|Zm 3 [0] O<|E7 a.Routes<|Ov 1 O<|Ad<|Fs (t:=63) (L:=a.Routes) O λar=>Co O (AT.2 (A6 ab))<|A8<|Ai<|A3<|Ah<|Zm 2 [0] O<|oc ((A60 a _) _) λr _=>Ov 5 O<|Ad<|Ajf [0,1,2,3,4,5,6,7,8,9,10,11,12,13,14,15,16,17,18,19] ?_;refine Au7 5 [2,0] O<|Az (.cp (Ed a3) 0) O O (Ay (Ex te te O ab))<|Au7 5 [0] O<|Az (.cp (Ed a3) 0) O O (Ay (Ex te te O ab))<|Avn 4 O<|Arc Azs [({From:=a3.From,To:=a3.To,Legs:=r.1}:Way)] O (A9 [2])<|Da λa8=>Avk 6 O O O (λ_ _=>Bh) λv5 g9 au=>Avn 1 O<|Cv O (λ_ _=>O) (λK A=>Bi (De au z O O O O te O O O) (A _ _ Bh ?_));clear A K;exact gc
 intro X D g8 ac;refine go ?_;intro _;refine Kl (g0:=0) [1,2,3] 10 8 (λY=>Y) (λY V=>[]) (λY V G=>[Ab g 8 [Aj a],Ab g1 6 [[.I 0,.emp,.emp,.emp,.emp,.emp]],Ab g2 6 [[.I (a.Volumes.length:Int),v,v2,D,V,.emp]],none,Ccu v g3 5 Br l,Ccu v2 g6 3 Bz l1,Ccu D g8 3 Ks X,none,Ccu V G 1 (rL 1 rJ) Y,none]) .nil ?_ ?_
 .intro j3 a4 Y V G ad _ ae W a9;refine Ae (Ase.eq_1 ..)<|go ?_;intro av;refine Aj7 O te te<|go ?_;refine Kl (g0:=0) [1,2,3,10] 12 7 (λZ=>Z) (λZ v7=>[(11,v7)]) (λZ v7 af=>[Ab g 8 [Aj a],Ab g1 6 [[.I 0,.emp,.emp,.emp,.emp,.emp]],Ab g2 6 [[.I (a.Volumes.length:Int),v,v2,D,V,.emp]],none,Ccu v g3 5 Br l,Ccu v2 g6 3 Bz l1,Ccu D g8 3 Ks X,Ccu v7 af 1 rJ Z,Ccu V G 1 (rL 1 rJ) Y,none]) .nil ?_ ?_
  .intro j4 a5 Z v7 af aj _ ak W ba;refine Ae (Arp.eq_1 ..)<|By ?_;refine Ai<|Ah<|Zm 4 [0] O<|Au _ O (Ay (Ex te te O ad))<|Ov 2 O<|E7 a4.Modes<|Ov 1 O<|Ad<|Fs (t:=107) (L:=a4.Modes) O λaw=>Co O (AT.2 (A6 aj))<|A8<|Ai<|A3<|A4<|Zm 4 [0] O<|Au _ O (Ay (Ex te te O ad))<|Ov 3 O<|Au _ O (Ay (Ex te te O aj))<|Ov 2 O<|Bgg Ot 7 [a5.Places] O λv8 bb bc=>?_;exact gc
  intro Z v7 af ak;refine By ?_;refine Ai<|Ah<|Zm 4 [0] O<|Au _ O (Ay (Ex te te O ad))<|Ov 2 O<|E7 a4.Modes<|Ov 1 O<|Ad<|Eb O (CF _)<|Di O<|A4<|Zm 3 [2] O<|Bb7 [(1,.q ids 0 g),(2,.q ids 1 g1),(3,.q ids 2 g2),(10,.I j3),(126,V),(127,.K Z)] (Drops.sub (.keep (.keep (.keep (.keep (.keep (.keep (.keep (.drop (.keep (.keep .nil)))))))))) z.len) (.s (.s (.s (.s (.s (.cons (Ca ak (z.at O O) (z.at O O) (λx=>Dw x)) .nil)))))) O O<|Bgg (e:=(rL 1 rJ)) (λx=>Ate x) 8 [Z] O λv9 bd ax=>Ov 1 O<|Cw (De ax z O O O O te O O O)<|gc
 intro Y V G ae;refine go ?_;intro _;refine Kl (g0:=0) [1,2,3] 13 9 (λl4=>l4) (λl4 S=>[]) (λl4 S ag=>[Ab g 8 [Aj a],Ab g1 6 [[.I 0,.emp,.emp,.emp,.emp,.emp]],Ab g2 6 [[.I (a.Volumes.length:Int),v,v2,D,V,S]],none,Ccu v g3 5 Br l,Ccu v2 g6 3 Bz l1,Ccu D g8 3 Ks X,none,Ccu V G 1 (rL 1 rJ) Y,Ccu S ag 6 Gi l4]) .nil ?_ ?_
 .intro j5 a6 l4 S ag ay _ U W be;refine Ae (Ari.eq_1 ..)<|By ?_;refine Ai<|Ah<|Zm 3 [0] O<|E7 a.Classes<|Ov 1 O<|Ad<|Fs (t:=133) (L:=a.Classes) O λam=>Co O (AT.2 (A6 ay))<|A8<|Ai<|A3<|Ajf [0,1,2,3,4,5,6,7,8] ?_;refine Au7 4 [2,0] O<|Ll ((A69 a (j5:Int)) _) (hpd:=(A9 [2])) λr1 _=>?_;refine Arc Awg [r1] O (A9 [2])<|Da λbf=>Avk 9 O O O (λ_ _=>Bh) λbg bh al=>Avn 1 O<|Cv O (λ_ _=>O) (λK A=>Bi (De al z O O O O te O O O) (A _ _ Bh ?_));clear A K;exact gc
 intro l4 S ag U;refine go ?_;intro _;refine Cw (Iz z O O O O te O O O O (Bc O (Bc (EA vH) (Bc (EA aa) (Bc (EA ac) (Bc (EA ae) (Bc (EA U) Rm)))))))<|go ?_;exact rt (hr:=by exact(Aw (Ar z O O O te O) A0)) (hz:=by exact .aggL (.s (.cons (Ca vH (z.at O O) (z.out O) (λx=>Vs x)) (.cons (Ca aa (z.at O O) (z.out O) (λx=>Vp x)) (.cons (Ca ac (z.at O O) (z.out O) (λx=>Azs x)) (.cons (Ca ae (z.at O O) (z.out O) (λx=>Ate x)) (.cons (Ca U (z.at O O) (z.out O) (λx=>Awg x)) .nil)))))))
instance Bhj (n least most):CP prog 107 [.I n,.I least,.I most] (Oe n least most) AV.bool:=by refine ci 15 0 func107 (Oe.eq_1 ..) λh0 ids z A=>gc
instance A9w (t):CP prog 106 [.A (B9 t)] (R0 t) (λp=>AV.tup [.A (Aj p.1),.B p.2]):=by
 refine ci 17 3 func106 (R0.eq_1 _) λh0 ids z U=>go ?_;intro g g1 r _;refine N8 O (λS=>?_) (λS=>?_)
 .refine A8<|Ai<|Ajf [0,1,3,4,5,6,2,7,8,9] ?_;refine go ?_;intro D;refine Cz O O (λ_ _=>O) (λK A=>Awp (y:=(Auw:Volume)) (e:=Ba) (j:=2) z O O O te te O O D.1 D.2.1 D.2.2 O O O (Agb _) (.s (.cons (.emp _) .nil)) O λv V G=>A _ _ (A9 [0,0]) ?_);clear A K;refine Az _ O O (Ai4 (A6y te Bou.eq (Bdz G O O (Bbm O O O O (Bbm O O O O O)))))<|Cv O (λ_ _=>O) (λK A=>Bi (Iz z O O O O te O O O O (Bc (EA G) (Bc O (Bc O (Bc O (Bc O (Bc O (Bc O (Bc O Rm))))))))) (A _ _ Bh ?_));clear A K;refine go ?_;exact rt (hr:=by exact(Aw (Ar z O O O te O) (Ht A0))) (hz:=by exact .tupL (.cons (.aggL (.cons (Ca G (z.at O O) (z.out O) (λx=>Agb x)) (.s (.s (.cons (.emp _) (.cons (.emp _) (.cons (.emp _) (.cons (.emp _) (.cons (.emp _) .nil))))))))) .s1))
 refine go ?_;exact rc
instance Bb8 (l):CP prog 108 [.K l] (Ae4 l) AV.bool:=by
 refine ci 19 0 func108 (Ae4.eq_1 _) λh0 ids z A=>go ?_;refine Ph [0] 3 (λ_=>[]) (λ_=>[]) ?_ ?_
 .intro j a _ D _ W _;refine Ae (X1.eq_1 _)<|gc
 intro _;exact gc
instance Bcn (l):CP prog 212 [.L 2 Ax l] (Ad8 l) (.I):=by
 refine ci 37 0 func212 (Ad8.eq_1 _) λh0 ids S U=>go ?_;refine Ph [0] 3 (λ_=>[]) (λ_=>[]) ?_ ?_
 .intro j a _ G _ W _;refine Ae (Aay.eq_1 _)<|By ?_;refine Ai<|Ah<|Ov 2 O<|E7 l<|Ov 1 O<|Ad<|Fs (t:=0) (L:=l) O λD=>Co O (AT.2 (A6 G))<|A8<|Ai<|A3<|Ai<|jn (λx=>Uk x) [0,3] (λx=>[(36,.B x)]) (λx=>[]) ?_ λ_=>?_
  .intro x;refine Ae (Uk.eq_1 _)<|gc
  refine go ?_;refine On (λA=>?_) (λA=>?_)
  .refine U2 (t:=16) A O<|gc
  refine U2 (t:=16) A O<|go ?_;refine On (λz=>?_) (λz=>?_)
  .refine U2 (t:=29) z O<|gc
  refine U2 (t:=29) z O<|gc
 intro _;exact gc
instance Bdj (t w):CP prog 109 [.A (B9 t),.A (Ks w)] (Ah4 t w) AV.bool:=by
 refine ci 75 3 func109 (Ah4.eq_1 ..) λh0 ids G S=>go ?_;intro g g1 _ r _ b b1;refine Bo O (λD=>?_) (λD=>?_)
 .exact gc
 refine go ?_;refine Ph [2,3] 5 (λ_=>[]) (λ_=>[Ab g 6 [B9 t],Ab g1 3 [Ks w],none]) ?_ ?_
 .intro j a _ U _ W _;refine Ae (Aa4.eq_1 ..)<|go ?_;intro z V X _ b2 Y Z;refine Bo O (λA=>?_) (λA=>?_)
  .exact gc
  refine go ?_;refine Ck 4<|gc
 intro _;exact gc
instance Bdx (k):CP prog 110 [.A (Gi k)] (Aii k) (.I):=by
 refine ci 80 1 func110 (Aii.eq_1 _) λh0 ids hI hF=>Ah<|Ip 0 (.A (Gi k)) λg=>Ov 1 O<|Ad<|Bv ?_;refine Ai<|Ah<|Zm 4 [0] O<|Oc 4 7 11 [1] (.B ((decide (k.Slow<1))||(decide (k.Slow>64)))) O ?_ (λU _ hJ=>?_) (λU _ hJ=>?_)
 .refine Ov 1 O<|Oc 6 12 18 [1] (.B (((decide (k.Slow<1))||(decide (k.Slow>64)))||(decide (k.Fast<k.Slow)))) O ?_ (λV _ X=>?_) (λV _ X=>?_)
  .refine Ov 1 O<|Oc 4 19 23 [1] (.B ((((decide (k.Slow<1))||(decide (k.Slow>64)))||(decide (k.Fast<k.Slow)))||(decide (k.Fast>64)))) O ?_ (λY _ Z=>?_) (λY _ Z=>?_)
   .refine Ov 1 O<|Oc 4 24 28 [1] (.B (((((decide (k.Slow<1))||(decide (k.Slow>64)))||(decide (k.Fast<k.Slow)))||(decide (k.Fast>64)))||(decide (k.Places<1)))) O ?_ (λaa _ ab=>?_) (λaa _ ab=>?_)
    .refine Ov 1 O<|Oc 4 29 33 [1] (.B ((((((decide (k.Slow<1))||(decide (k.Slow>64)))||(decide (k.Fast<k.Slow)))||(decide (k.Fast>64)))||(decide (k.Places<1)))||(decide (k.Places>8)))) O ?_ (λac _ ad=>?_) (λac _ ad=>?_)
     .refine Ov 1 O<|Oc 4 34 38 [1] (.B (((((((decide (k.Slow<1))||(decide (k.Slow>64)))||(decide (k.Fast<k.Slow)))||(decide (k.Fast>64)))||(decide (k.Places<1)))||(decide (k.Places>8)))||(decide (k.Weight<1)))) O ?_ (λz _ ae=>?_) (λz _ ae=>?_)
      .refine Ov 1 O<|Oc 4 39 43 [1] (.B ((((((((decide (k.Slow<1))||(decide (k.Slow>64)))||(decide (k.Fast<k.Slow)))||(decide (k.Fast>64)))||(decide (k.Places<1)))||(decide (k.Places>8)))||(decide (k.Weight<1)))||(decide (k.Weight>8)))) O ?_ (λA _ af=>?_) (λA _ af=>?_)
       .refine Ov 1 O<|Oc 4 44 48 [1] (.B (((((((((decide (k.Slow<1))||(decide (k.Slow>64)))||(decide (k.Fast<k.Slow)))||(decide (k.Fast>64)))||(decide (k.Places<1)))||(decide (k.Places>8)))||(decide (k.Weight<1)))||(decide (k.Weight>8)))||(decide (k.Longest<0)))) O ?_ (λD _ ag=>?_) (λD _ ag=>?_)
        .refine Ov 1 O<|Oc 4 49 53 [1] (.B ((((((((((decide (k.Slow<1))||(decide (k.Slow>64)))||(decide (k.Fast<k.Slow)))||(decide (k.Fast>64)))||(decide (k.Places<1)))||(decide (k.Places>8)))||(decide (k.Weight<1)))||(decide (k.Weight>8)))||(decide (k.Longest<0)))||(decide (k.Longest>60)))) O ?_ (λG _ ah=>?_) (λG _ ah=>?_)
         .refine Ov 1 O<|Oc 5 54 59 [1] (.B (((((((((((decide (k.Slow<1))||(decide (k.Slow>64)))||(decide (k.Fast<k.Slow)))||(decide (k.Fast>64)))||(decide (k.Places<1)))||(decide (k.Places>8)))||(decide (k.Weight<1)))||(decide (k.Weight>8)))||(decide (k.Longest<0)))||(decide (k.Longest>60)))||((Int.tmod k.Longest 10)!=0))) O ?_ (λS _ ai=>?_) (λS _ ai=>?_)
          .refine go ?_;refine Bo O (λhc=>?_) (λhc=>?_)
           .exact gc
           refine go ?_;refine Ph [1] 3 (λ_=>[]) (λ_=>[Ab g 6 [Gi k]]) ?_ ?_
           .intro j a _ ha _ W _;refine Ae (Ab6.eq_1 _)<|gc
           intro _;exact gc
          .refine Ov 5 O<|wj ai (Ava S)
          refine Zm 2 [0] O<|F5 (.I (Int.tmod k.Longest 10)) O O O (Bb O O (Amc O (by decide)))<|Ov 2 O<|wj ai (Av1 S)
         .refine Ov 4 O<|wj ah (Ava G)
         refine Zm 4 [0] O<|wj ah (Av1 G)
        .refine Ov 4 O<|wj ag (Ava D)
        refine Zm 4 [0] O<|wj ag (Av1 D)
       .refine Ov 4 O<|wj af (Ava A)
       refine Zm 4 [0] O<|wj af (Av1 A)
      .refine Ov 4 O<|wj ae (Ava z)
      refine Zm 4 [0] O<|wj ae (Av1 z)
     .refine Ov 4 O<|wj ad (Ava ac)
     refine Zm 4 [0] O<|wj ad (Av1 ac)
    .refine Ov 4 O<|wj ab (Ava aa)
    refine Zm 4 [0] O<|wj ab (Av1 aa)
   .refine Ov 4 O<|wj Z (Ava Y)
   refine Zm 4 [0] O<|wj Z (Av1 Y)
  .refine Ov 6 O<|wj X (Ava V)
  refine Zm 6 [0,0] O<|wj X (Av1 V)
 .refine Ov 4 O<|wj hJ (Ava U)
 refine Zm 4 [0] O<|wj hJ (Av1 U)
instance Bdi (t):CP prog 39 [.A (B9 t)] (Ue t) (.I):=by
 refine ci 126 2 func39 (Ue.eq_1 _) λh0 ids hI hF=>go ?_;intro g r _ g1 b;refine Bo O (λV=>?_) (λV=>?_)
 .exact gc
 refine go ?_;refine Ck 2<|Ph [1] 5 (λ_=>[]) (λ_=>[Ab g 6 [B9 t],none]) ?_ ?_
 .intro j a _ X _ W _;refine Ae (Aci.eq_1 _)<|By ?_;refine Ai<|Ah<|Zm 3 [0] O<|E7 t.Sectors<|Ov 1 O<|Ad<|Fs (t:=41) (L:=t.Sectors) O λG=>Co O (AT.2 (A6 X))<|A8<|Ai<|A3<|Ai<|jn (λx=>Af8 x) [1,5] (λx=>[(69,.B x)]) (λx=>[Ab g 6 [B9 t],none]) ?_ λ_=>?_
  .intro x;refine Ae (Af8.eq_1 _)<|gc
  refine go ?_;intro r2 _;refine On (λz=>?_) (λz=>?_)
  .refine U2 (t:=54) z O<|gc
  refine U2 (t:=54) z O<|gc
 intro _;refine go ?_;intro _;refine Ph [1] 6 (λ_=>[]) (λ_=>[Ab g 6 [B9 t],none]) ?_ ?_
 .intro j1 a1 _ Y _ W _;refine Ae (Ac5.eq_1 _)<|gc
 intro _;refine go ?_;intro _;refine Ph [1] 7 (λ_=>[]) (λ_=>[Ab g 6 [B9 t],none]) ?_ ?_
 .intro j2 a2 _ Z _ W _;refine Ae (Abc.eq_1 ..)<|gc
 intro _;refine go ?_;intro _;refine Ph [1] 8 (λ_=>[]) (λ_=>[Ab g 6 [B9 t],none]) ?_ ?_
 .intro j3 a3 _ S _ W _;refine Ae (Ac2.eq_1 ..)<|By ?_;refine Ai<|Ah<|Zm 3 [0] O<|E7 t.Kinds<|Ov 1 O<|Ad<|Fs (t:=101) (L:=t.Kinds) O λU=>Co O (AT.2 (A6 S))<|A8<|Ai<|A3<|Ai<|jn (λD=>Aab D) [1,8] (λD=>[(125,.B D)]) (λD=>[Ab g 6 [B9 t],none]) ?_ λ_=>?_
  .intro D;refine Ae (Aab.eq_1 _)<|gc
  refine go ?_;intro r6 _;refine On (λA=>?_) (λA=>?_)
  .refine U2 (t:=113) A O<|gc
  refine U2 (t:=113) A O<|gc
 intro _;exact gc
instance Bn8 (a):CP prog 7 [.A (Aj a)] (Ahm a) (λp=>AV.tup [.A (B9 p.1),.I p.2]):=by
 refine ci 19 3 func7 (Ahm.eq_1 _) λh0 ids D G=>go ?_;intro g g1 e _;refine Bo O (λA=>?_) (λA=>?_)
 .refine go ?_;exact rc
 refine go ?_;intro r _ S r1 _;refine Bo O (λz=>?_) (λz=>?_)
 .refine go ?_;exact rc
 refine go ?_;exact rc
instance Bjo (t):CP prog 9 [.A (B9 t)] (Ub t) AV.bool:=by
 refine ci 41 3 func9 (Ub.eq_1 _) λh0 ids S U=>go ?_;intro g _;refine Ph [1,8,9] 10 (λ_=>[]) (λ_=>[Ab g 6 [B9 t],none,none]) ?_ ?_
 .intro j a _ V _ W _;refine Ae (Apk.eq_1 _)<|go ?_;intro g1;refine Bo O (λG=>?_) (λG=>?_)
  .exact gc
  refine go ?_;refine Ck 2<|gc
 intro _;refine go ?_;intro _;refine Ck 1<|Ph [25,26] 27 (λ_=>[]) (λ_=>[none,none,none]) ?_ ?_
 .intro X a1 _ z _ W _;refine Ae (Aph.eq_1 _)<|By ?_;refine Ah<|Ov 1 O<|Ad<|Ai<|Fs (t:=25) (L:=t.Configs) O λA=>Co O (AT.2 (A6 z))<|A8<|Ai<|A3<|Ah<|Au _ O (Ay (Ex te te O z))<|Ov 1 O<|D9 2 te λY=>go ?_;refine Bo O (λD=>?_) (λD=>?_)
  .exact gc
  refine go ?_;refine Ck 4<|gc
 intro _;exact gc
instance Ape (a):CP prog 3 [.A (Aj a)] (Km a) AV.bool:=by refine ci 34 3 func3 (Km.eq_1 _) λh0 ids z A=>gc
end Go.Am
