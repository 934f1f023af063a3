import Derived.Test.YtjajmhcejacahaaGreatDoorU6
set_option linter.all false
set_option maxHeartbeats 4000000
set_option maxRecDepth 100000
open Go.Proofs.Tryz
namespace Go.Am
open Go Go.Proofs Go.Proofs.Tryz
abbrev EW:=@LF.lfz
abbrev FN:=@CP.lend
attribute [local irreducible] WR WO WP WU Nu
instance Anm (s:Al)(c:Int):CP prog 278 [.str s,.int .u8 c] (strings_IndexByte s c) (λx=>AV.int .i64 x):=A9e (.mk func278 rfl (by decide)) (λp h=>by cases h) λa z B mu h w cargs D A=>by obtain⟨c1,c2,rfl,h1,h2⟩:=Bgj A;obtain rfl:=Bbw h1;obtain rfl:=Azw h2;cases z;refine(Go.Proofs.Tryz.strings_IndexByte ⟨s.toArray⟩ c w).mono ?_;rintro e w' ⟨rfl,rfl⟩;exact⟨Go.RowKit.Below.refl _ _,_,O,.int _ _⟩
instance A2g (c):CP prog 219 [.int .u8 c] (M8 c) (.I):=by refine ci 47 0 func219 (M8.eq_1 _) λh0 ids z A=>gc
instance Ac0 (s):CP prog 214 [.cp (Bmx s) 0] (Ux s) (λ_=>AV.tup []):=by refine ci 7 0 func214 (Ux.eq_1 _) λh0 ids z A=>go ?_;exact Kq O O (Es func214 z)
instance A8i (s v):CP prog 183 [.K s,.I v] (Kr s v) (.I):=by
 refine ci 19 0 func183 (Kr.eq_1 ..) λh0 ids z A=>go ?_;intro _;refine Ph [0,1,7] 8 (λ_=>[]) (λ_=>[]) ?_ ?_
 .intro j a _ D _ W _;refine Ae (Hu.eq_1 ..)<|gc
 intro _;exact gc
instance A3z (s v):CP prog 143 [.K s,.I v] (Jt s v) AV.bool:=by refine ci 9 0 func143 (Jt.eq_1 ..) λh0 ids z A=>gc
instance X5 (s some1):CP prog 273 [.cp (Bmx s) 0,.K some1] (Jh s some1) (λx=>(AV.str x)):=by
 refine ci 40 0 func273 (Jh.eq_1 ..) λh0 ids G S=>Ah<|Ov 1 O<|Ad<|Ah<|Ov 5 O<|Ad<|Ai<|jn (λz=>Tc s z) [0] (λz=>[(5,.I z)]) (λz=>[]) ?_ λ_=>?_
 .intro z;refine Ae (Tc.eq_1 ..)<|gc
 refine A3<|lpL [0,1] (λn=>[(5,.I n)]) (λn=>[]) ?_;intro n W _;refine Ae (Yj.eq_1 ..)<|By ?_;refine Ai<|Ah<|Ov 5 O<|Au _ O (D4 (Ain te))<|Ov 2 O<|G9 10 17 27 [0,1,5] .bool O ?_ (λA _ D=>?_) (λA _ D=>?_)
 .refine go ?_;intro b;exact gc
 .exact gc
 refine Ov 10 O<|A6m (D false)
instance Blk (s):CP prog 322 [.str s] (Aju s) AV.bool:=by
 refine ci 38 0 func322 (Aju.eq_1 _) λh0 ids G S=>go ?_;intro b;refine Bo O (λA=>?_) (λA=>?_)
 .exact gc
 refine go ?_;intro z;refine Ph [0,19] 20 (λ_=>[]) (λ_=>[]) ?_ ?_
 .intro j a1 _ D _ W _;refine Ae (Alk.eq_1 _)<|gc
 intro _;exact gc
instance Bjr (t):CP prog 299 [.A (Ak t)] (Afg t) AV.bool:=by refine ci 48 1 func299 (Afg.eq_1 _) λh0 ids z A=>gc
def Aui {s h0}(aa:Ids h0 [] 0):U8 s≠.bad->Bs prog 275 [.str s] (hp h0 [] []) (Kn (λa_ v h'=>∃(v1:AV),A68 v1 a_.2/\v=(.tup [.int .i64 a_.1,v1])/\h'=hp h0 [] []) h0 (U8 s)):=by
 refine Bj6 (.mk func275 O (by decide)) (λp h=>by unfold U8 at h;split at h<;>(try split at h)<;>cases h) λa D B mu w cargs S hl=>?_;obtain⟨c1,rfl,h1⟩:=Ark hl;obtain rfl:=Bbw h1;have A:∀{w:World} {n:Int} {v:AV} {c:Go.Value},RV h0 mu w v c->RV h0 mu w (.tup [.int .i64 n,v]) (.tuple #[.int .i64 n,c]):=λG=>by
  refine .tup _ [_,_] O λi hi=>?_;match i,hi with
  |0,_=>exact .int _ _
  |1,_=>exact G
 have U:∀{w w':World} {N:Nat} {x y z:Go.Value} {t:TypeId},w.heap.size<=N->w'.heap[N]?=some (.cells #[x,y,z] t (0,0))->Sim B mu h0 w->RV h0 mu w' (.iface 396 (.cp [.any,.any,.any] 0)) (.iface 396 (.pointer (some ⟨N,0,none⟩))):=by
  intro w w' N x y z t hN V S;refine .iface _ _ _ (.cp _ 0 N 0 (λj=>[x,y,z].getD j undef) (λj W=>?_) (λj W=>?_) (λhm=>?_) ?_)
  .unfold World.cell?;rw[V];match j,W with
   |0,_=>rfl
   |1,_=>rfl
   |2,_=>rfl
  .match j,W with
   |0,_=>exact .any _
   |1,_=>exact .any _
   |2,_=>exact .any _
  .have:=C0.lt S hm;omega
  .rcases CI N _ with X|X
   .exact X
   .rw[CU X]at V;cases V
 unfold U8 at D;split at D
 .rename_i hn;split at D
  .rename_i v G;cases D;refine(Go.Proofs.Tryz.strconv_Atoi_ok ⟨s.toArray⟩ (by show s.toArray.size<=_;simp;omega) v G w).mono ?_;rintro e w' ⟨rfl,hw⟩;refine⟨?_,_,_,O,⟨.nili,O,O,O⟩,A .nili⟩;rcases hw with rfl|⟨t,rfl⟩
   .exact Go.RowKit.Below.refl _ _
   .exact Lib.bytesWorld_below _ _ _
  .rename_i G;cases D;obtain⟨Y,p,hp⟩:=A0m S.glob.2;refine(Go.Proofs.Tryz.strconv_Atoi_syntax_var ⟨s.toArray⟩ (by show s.toArray.size<=_;simpa using hn) G Y p w hp).mono ?_;rintro e w' ⟨N,rfl,h1,h2,Z⟩;exact⟨Z,_,_,O,⟨.iface 396 (.cp [.any,.any,.any] 0),⟨_,_,O⟩,O,O⟩,A (U h1 h2 S)⟩
  .rename_i G;cases D;obtain⟨Y,p,hp⟩:=A23 S.glob.2;refine(Go.Proofs.Tryz.strconv_Atoi_range_var ⟨s.toArray⟩ (by show s.toArray.size<=_;simpa using hn) G Y p w hp).mono ?_;rintro e w' ⟨N,rfl,h1,h2,Z⟩;exact⟨Z,_,_,O,⟨.iface 396 (.cp [.any,.any,.any] 0),⟨_,_,O⟩,O,O⟩,A (U h1 h2 S)⟩
 .cases D
instance At1 (n:Int):CP prog 276 [.I n] (strconv_Itoa n) (λx=>AV.str x):=
 A9e (.mk func276 rfl (by decide)) (λp h=>by unfold strconv_Itoa at h;split at h<;>cases h) λa z B mu h w cargs D G=>by
  obtain⟨c1,rfl,h1⟩:=Ark G;obtain rfl:=Azw h1;unfold strconv_Itoa at z;split at z
  .rename_i A;cases z;refine(Go.Proofs.Tryz.strconv_Itoa n A.1 A.2 w (Beo D.glob.2)).mono ?_;rintro e w' ⟨rfl,k,os,rfl⟩;refine⟨⟨O,O,O,?_,λi hi=>?_⟩,_,O,.str _⟩
   .show w.heap.size<=(w.heap++os).size;simp
   .show(w.heap++os)[i]?=_;exact BJ hi
  .cases z
instance Ar8 (s vprefix):CP prog 303 [.str s,.str vprefix] (H3 s vprefix) AV.bool:=by refine ci 18 0 func303 (H3.eq_1 ..) λh0 ids z A=>gc
instance Aoi (s vprefix):CP prog 277 [.str s,.str vprefix] (Qe s vprefix) AV.bool:=by refine ci 8 0 func277 (Qe.eq_1 ..) λh0 ids z A=>gc
def Als {s0_src s0_at}{l:(List Token)}{h0 o0 o1 g v1 g1}(G:Av v1 o1 g1 l.length):CJ0 prog 215 2 h0 [o0,o1] (R7 s0_src s0_at l) [.p o0 g] [Ab g 3 [[.str s0_src,.I s0_at,v1]],Ccu v1 g1 4 Ak l] (λD=>(.tup [])) (λD=>[Ab g 3 [[.str s0_src,.I D,v1]],Ccu v1 g1 4 Ak l]):=by refine cgj 0 func215 (R7.eq_1 ..) ?_;rintro ids ⟨rfl,rfl,-⟩ z S A;refine go ?_;refine Arc Ot [1] O (A9 [0]) ?_;refine cP (FN (X5 ({fSrc:=s0_src,fAt:=s0_at,fL:=l}:T286) [1]) (EW (.cons (.ptrL (z.at O O) O O (.s (.s (.cons (Ca G (z.at O O) O (λx=>Abe x)) .nil)))) .s1)) (λ_ _=>(.str _))) (hpd:=(A9 [0])) λr _=>?_;refine go ?_;refine Cv O (λ_ _=>O) (λK A=>Bi (Iz z O O O O te O O O O O) (A _ _ Bh ?_));clear A K;exact gc
def V8 {text t s0_src s0_at}{l:(List Token)}{h0 o0 o1 g v1 g1}(W:Av v1 o1 g1 l.length):CJ1 prog 274 2 h0 [o0,o1] (Jg text t s0_src s0_at l) [.p o0 g,.str text,.A (Ak t)] [Ab g 3 [[.str s0_src,.I s0_at,v1]],Ccu v1 g1 4 Ak l] o1 (λz=>z.length) (λz A=>(.tup [])) (λz A U=>[Ab g 3 [[.str s0_src,.I (wi (s0_at+(text.length:Int))),A]],Ccu A U 4 Ak z]):=by
 refine cgj 1 func274 (Jg.eq_1 ..) ?_;rintro ids ⟨rfl,rfl,-⟩ S X D;refine go ?_;intro Y r _;refine N8 O (λV=>?_) (λV=>?_)
 .refine A8<|Ah<|Zm 5 [0] O<|Gk (.I s0_at) ?_;refine Ad<|Bv ?_;refine Ai<|Ajf [0,1,2,3,4,5,6,7,8,9,10] ?_;refine Au7 6 [0,2] O<|Arc Abe [({Kind:=t.Kind,Text:=t.Text,N:=t.N,At:=s0_at}:Token)] O (A9 [0])<|Da λZ=>Avk 1 O O O (λ_ _=>(A9 [])) λv2 g3 G=>Avn 2 O<|Cv O (λ_ _=>O) (λK D=>Bi (De G S O O O O te O O O) (D _ _ Bh ?_));clear D K;exact gc
 refine go ?_;exact Kq O O (Cr func274 S)
def Ame {s0_src s0_at}{l:(List Token)}{h0 o0 o1 g v1 g1}(D:Av v1 o1 g1 l.length):CJ1 prog 216 2 h0 [o0,o1] (S6 s0_src s0_at l) [.p o0 g] [Ab g 3 [[.str s0_src,.I s0_at,v1]],Ccu v1 g1 4 Ak l] o1 (λz=>z.2.length) (λz A=>(.tup [])) (λz A g3=>[Ab g 3 [[.str s0_src,.I z.1,A]],Ccu A g3 4 Ak z.2]):=by refine cgj 0 func216 (S6.eq_1 ..) ?_;rintro ids ⟨rfl,rfl,-⟩ G U V;refine go ?_;refine Be3 Ot [2,3,5]<|cO (FN (X5 ({fSrc:=s0_src,fAt:=s0_at,fL:=l}:T286) [2,3,5]) (EW (.cons (.ptrL (G.at O O) O O (.s (.s (.cons (Ca D (G.at O O) O (λx=>Abe x)) .nil)))) .s1)) (λ_ _=>(.str _))) λt _=>go ?_;refine cG [0,1] (V8 D) ?_;rintro r _ _ _ ⟨v2,W,S,rfl,rfl⟩;exact gc
def Akm {s0_src s0_at}{l:(List Token)}{h0 o0 o1 g v1 g1}(U:Av v1 o1 g1 l.length):CJ1 prog 217 2 h0 [o0,o1] (Qm s0_src s0_at l) [.p o0 g] [Ab g 3 [[.str s0_src,.I s0_at,v1]],Ccu v1 g1 4 Ak l] o1 (λz=>z.2.length) (λz D=>(.tup [])) (λz D g3=>[Ab g 3 [[.str s0_src,.I z.1,D]],Ccu D g3 4 Ak z.2]):=by
 refine cgj 0 func217 (Qm.eq_1 ..) ?_;rintro ids ⟨rfl,rfl,-⟩ G Y Z;refine go ?_;refine Be3 Ot [3]<|cO (FN (X5 ({fSrc:=s0_src,fAt:=s0_at,fL:=l}:T286) [3]) (EW (.cons (.ptrL (G.at O O) O O (.s (.s (.cons (Ca U (G.at O O) O (λx=>Abe x)) .nil)))) .s1)) (λ_ _=>(.str _))) λt _=>go ?_;refine cG [] Aui ?_;rintro r _ _ _ ⟨v2,A,rfl,rfl⟩;refine go ?_;refine Au _ O (Bb (Bbk (.inr O) A) O (Bdb te A))<|Ov 1 O<|G9 5 15 20 [0,2,3] .bool O ?_ (λS _ V=>?_) (λS _ V=>?_)
 .intro b;refine Ad<|Bo O (λW=>?_) (λW=>?_)
  .refine go ?_;exact Kq O O (Cr func217 G)
  refine go ?_;refine cG [0,1] (V8 U) ?_;rintro r2 _ _ _ ⟨v3,g2,X,rfl,rfl⟩;exact gc
 .exact gc
 refine F5 (.I r.1) O O O B0<|cO ((At1 r.1) _) λr1 _=>gc
def Amx {s0_src s0_at}{l:(List Token)}{h0 o0 o1 g v1 g1}(D:Av v1 o1 g1 l.length):CJ1 prog 218 2 h0 [o0,o1] (S5 s0_src s0_at l) [.p o0 g] [Ab g 3 [[.str s0_src,.I s0_at,v1]],Ccu v1 g1 4 Ak l] o1 (λz=>z.2.length) (λz A=>(.tup [])) (λz A g3=>[Ab g 3 [[.str s0_src,.I z.1,A]],Ccu A g3 4 Ak z.2]):=by
 refine cgj 0 func218 (S5.eq_1 ..) ?_;rintro ids ⟨rfl,rfl,-⟩ V W X;refine go ?_;intro Y r _;refine Bo O (λG=>?_) (λG=>?_)
 .exact gc
 refine go ?_;intro S;refine cG [0,1] (V8 D) ?_;rintro r1 _ _ _ ⟨v2,Z,U,rfl,rfl⟩;exact gc
def Av8 (z:AV)(a1:AV)(a2:AV)(h:Aa):I1 prog 213 [z,a1,a2] .ret h (Ys (λ_:Unit=>h) .ret (.ok ())):=by refine Rj func213 O (by decide) O O ?_ ⟨(),O⟩;refine go ?_;refine Ail O<|go ?_;refine Au _ O (Bb O O (Ara te))<|go ?_;exact Sv func213 O O O
def Aw8 (n:Int)(h0:Aa)(ids:List Nat)(Z:Ids h0 ids 3)(A:Nat)(D:Nat)(G:Nat)(S:List AV)(U:List AV)(V:List AV)(W:S.length=1)(X:U.length=1)(Y:V.length=1):(∃a,K0 n=.ok a)->I1 prog 213 [(.ptr (ix ids 0) A 0 0),(.ptr (ix ids 1) D 0 0),(.ptr (ix ids 2) G 0 0)] (.pan (.iface 280 (.I n)) false) (hp h0 ids [Ab A 1 [S],Ab D 1 [U],Ab G 1 [V]]) (Ys (λp=>hp h0 ids [Ab A 1 [[.emp]],Ab D 1 [[(.I p)]],Ab G 1 [[(.I 70)]]]) (.pan (.iface 280 (.I n)) true) (K0 n)):=by refine Rj func213 O (by decide) O O<|D8 (Ae (K0.eq_1 _) ?_);refine go ?_;refine Aim O<|go ?_;refine Au _ O (Bb O O (An5 te))<|go ?_;refine Cv O (λ_ _=>O) (λK z=>Bi (Hm Z O O O te O O O W O) (z _ _ (Ag O (Pb (A7x te (by decide))) (Ag O B0 Ef)) ?_));clear z K;refine Cv O (λ_ _=>O) (λK z=>Bi (Hm Z O O O te O O O X O) (z _ _ Bh ?_));clear z K;refine Cv O (λ_ _=>O) (λK z=>Bi (Hm Z O O O te O O O Y O) (z _ _ Bh ?_));clear z K;refine go ?_;exact Sv func213 O O O
instance A62 (src):CP prog 116 [.str src] (Arg src) (λp=>AV.tup [.L 4 Ak p.1,.I p.2.1,.I p.2.2]):=by
 show CP _ _ _ ((Akw src).catch' (Oi 280 .i64 (λn=>(K0 n).bind λp=>.ok ([],p,70)) (λ_=>.bad))) _;refine Abv 6 func116 O (by decide) O O λh0 ids z=>?_;have hU:∀(v:PV) (fr:Nat->AV) (xs:List (Option AO)) (D:Nat) (V:List AV) (G:Nat) (W:List AV) (S:Nat) (X:List AV) (af:xs.length=6) (Z:V.length=1) (aa:W.length=1) (ab:X.length=1) (ag:xs.take 3=[some (.rows D 1 [V]),some (.rows G 1 [W]),some (.rows S 1 [X])]) (ac:fr 2=.q ids 0 D) (ad:fr 3=.q ids 1 G) (ae:fr 4=.q ids 2 S),WU prog 116 39 false (Ng (λ(p:((List Token)×Int×Int))=>AV.tup [(.L 4 Ak p.1),(.I p.2.1),(.I p.2.2)]) h0 (Oi 280 .i64 (λn=>(K0 n).bind λp=>.ok ([],p,70)) (λ_=>.bad))) (.pan v) (.pan v.av false) fr [⟨213,[.q ids 0 D,.q ids 1 G,.q ids 2 S]⟩] (hp h0 ids xs) .ret:=by
  intro v fr xs D V G W S X af Z aa ab ag ac ad ae;refine Bfa O (λn hv=>?_) (λY=>?_)
  .subst hv;exact Aey (Hc:=K0 n) (fin:=λp=>([],p,70)) (c:=3) (cells:=λp=>[Ab D 1 [[.emp]],Ab G 1 [[.I p]],Ab S 1 [[.I 70]]]) (vs:=λp=>[.emp,.I p,.I 70]) func116 z af O ag (by first|(rw[Akz];done)|(rw[Akz];rfl)) (λhx=>by have:=Aw8 n h0 (ids.take 3) (z.take O) D G S V W X Z aa ab hx;simp only[Gt (c:=3) (j:=0) O,Gt (c:=3) (j:=1) O,Gt (c:=3) (j:=2) O]at this;exact this) (by intro w;simp[K0]) (λp=>(Lr ac (U3 (z.take O) (Gt O) O O O te O) (Lr ad (U3 (z.take O) (Gt O) O O O te O) (Lr ae (U3 (z.take O) (Gt O) O O O te O) A0)))) (λp=>(.tupL (.cons (.emp _) .s2)))
  exact Are (by rw[Awk Y])
 refine D8 (Ae (Akw.eq_1 _) ?_);refine go ?_;intro g g1 g2;refine E4 O (λhc=>?_) (λhc=>?_)
 .refine go ?_;exact A17 func116 z (Aw (Ar z O O O te O) (Aw (Ar z O O O te O) (Aw (Ar z O O O te O) A0))) (.tupL (.cons (.emp _) .s2))
 refine go ?_;refine Aeu O O O ?_;refine Ad<|Ah<|D9 3 te λg3=>Ad<|Bv ?_;refine Ah<|Ov 2 O<|Gk (.A [.F 214 [],.F 215 [],.F 216 [],.F 217 [],.F 218 [],.F 214 []]) ?_;refine Ad<|Bv ?_;refine Ah<|Ov 2 O<|Ip 4 (.A [.str src,.I 0,.emp]) λg4=>Ov 1 O<|Ad<|Bv ?_;refine Ai<|Ra (Ct λA l1=>Ah7 A l1) (Ct λA l1=>λfr h=>∃(v4:AV),∃(g9:Nat),Av v4 (ix ids 5) g9 l1.length/\fr=Ac [(2,.q ids 0 g),(3,.q ids 1 g1),(4,.q ids 2 g2),(6,.q ids 4 g4)]/\h=hp h0 ids [Ab g 1 [[.emp]],Ab g1 1 [[.I 0]],Ab g2 1 [[.I 0]],none,Ab g4 3 [[.str src,.I A,v4]],Ccu v4 g9 4 Ak l1]) ?_ λhJ=>?_
 .rintro⟨A,l1⟩ fr h ⟨v4,g9,ah,rfl,rfl⟩;refine Ae (Ah7.eq_1 ..)<|go ?_;refine Cw (De ah z O O O O te O O O)<|go ?_;exact Ard func116 z (Av8 _ _ _ _) (Aw (Ar z O O O te O) (Aw (Ar z O O O te O) (Aw (Ar z O O O te O) A0))) (.tupL (.cons (Ca ah (z.at O O) (z.out O) (λx=>Abe x)) .s2))
 refine A3<|Gh [0,2,3,4,5,6] ?_;refine Ko (P:=prog) _ _ (Ct λfAt l=>λfr h=>∃(v:AV),∃(g5:Nat),Av v (ix ids 5) g5 l.length/\fr=Ac [(0,.str src),(2,.q ids 0 g),(3,.q ids 1 g1),(4,.q ids 2 g2),(5,.q ids 3 g3),(6,.q ids 4 g4)]/\h=hp h0 ids [Ab g 1 [[.emp]],Ab g1 1 [[.I 0]],Ab g2 1 [[.I 0]],Ab g3 6 [[.F 214 [],.F 215 [],.F 216 [],.F 217 [],.F 218 [],.F 214 []]],Ab g4 3 [[.str src,.I fAt,v]],Ccu v g5 4 Ak l]) (0,[]) ?_ ?_
 .exact⟨.emp,0,.nil,O,O⟩
 rintro vW hW ⟨fAt,l⟩ fr h ⟨v,g5,U,rfl,rfl⟩;refine Ae (m':=Qo src fAt l) O (Ae (Qo.eq_1 ..) ?_);refine go ?_;refine E4 O (λai=>?_) (λai=>?_)
 .refine go ?_;intro a hz am;refine Cb _ O O O O ((A2g _) _) (λv _=>hU v _ _ _ _ _ _ _ _ O O O O O O O O) λr _=>Ov 1 O<|Sn (λhi=>?_) (λ_=>?_)
  .refine Au _ O (Ay (F2 0 te te hi O))<|Zm 2 [3] O<|Cb _ O O O O (FN (Ac0 ({fSrc:=src,fAt:=fAt,fL:=l}:T286)) (EW (.cons (.ptrL (z.at O O) O O (.s (.s (.cons (Ca U (z.at O O) O (λx=>Abe x)) .nil)))) .nil)) (λ_ _=>.tup0)) (λv _=>hU v _ _ _ _ _ _ _ _ O O O O O O O O) λ_ _=>go ?_;exact D1 (Hl (hW _ _ _ ⟨v,g5,U,O,O⟩))
  refine Sn (λhi=>?_) (λ_=>?_)
  .refine Au _ O (Ay (F2 1 te te hi O))<|Zm 2 [3] O<|Dj [4,5] z O O (Als U (by exact z.sub' O O)) O O O O O O (λv _=>hU v _ _ _ _ _ _ _ _ O O O O O O O O) ?_;rintro r2 _ _ _ ⟨rfl,rfl⟩;refine Gj [4,5] z O O O ?_;refine D6<|go ?_;exact D1 (Hl (hW _ _ _ ⟨v,g5,U,O,O⟩))
  refine Sn (λhi=>?_) (λ_=>?_)
  .refine Au _ O (Ay (F2 2 te te hi O))<|Zm 2 [3] O<|Dj [4,5] z O O (Ame U (by exact z.sub' O O)) O O O O O O (λv _=>hU v _ _ _ _ _ _ _ _ O O O O O O O O) ?_;rintro r3 _ _ _ ⟨v1,g6,aj,rfl,rfl⟩;refine Gj [4,5] z O O O ?_;refine D6<|go ?_;exact D1 (Hl (hW _ _ _ ⟨v1,g6,aj,O,O⟩))
  refine Sn (λhi=>?_) (λ_=>?_)
  .refine Au _ O (Ay (F2 3 te te hi O))<|Zm 2 [3] O<|Dj [4,5] z O O (Akm U (by exact z.sub' O O)) O O O O O O (λv _=>hU v _ _ _ _ _ _ _ _ O O O O O O O O) ?_;rintro r4 _ _ _ ⟨v2,g7,ak,rfl,rfl⟩;refine Gj [4,5] z O O O ?_;refine D6<|go ?_;exact D1 (Hl (hW _ _ _ ⟨v2,g7,ak,O,O⟩))
  refine Sn (λhi=>?_) (λ_=>?_)
  .refine Au _ O (Ay (F2 4 te te hi O))<|Zm 2 [3] O<|Dj [4,5] z O O (Amx U (by exact z.sub' O O)) O O O O O O (λv _=>hU v _ _ _ _ _ _ _ _ O O O O O O O O) ?_;rintro r5 _ _ _ ⟨v3,g8,al,rfl,rfl⟩;refine Gj [4,5] z O O O ?_;refine D6<|go ?_;exact D1 (Hl (hW _ _ _ ⟨v3,g8,al,O,O⟩))
  refine Sn (λhi=>?_) (λ_=>?_)
  .refine Au _ O (Ay (F2 5 te te hi O))<|Zm 2 [3] O<|Cb _ O O O O (FN (Ac0 ({fSrc:=src,fAt:=fAt,fL:=l}:T286)) (EW (.cons (.ptrL (z.at O O) O O (.s (.s (.cons (Ca U (z.at O O) O (λx=>Abe x)) .nil)))) .nil)) (λ_ _=>.tup0)) (λv _=>hU v _ _ _ _ _ _ _ _ O O O O O O O O) λ_ _=>go ?_;exact D1 (Hl (hW _ _ _ ⟨v,g5,U,O,O⟩))
  exact A0o
 refine Di O<|N7<|Ck 8<|D1 (hJ _ _ _ ⟨v,g5,U,O,O⟩)
instance Amg (r e):CP prog 220 [.cp (Bpi r) 0,.I e] (Ox r e) (λ_=>AV.tup []):=by
 refine ci 26 0 func220 (Ox.eq_1 ..) λh0 ids z G=>go ?_;intro _;refine E4 O (λA=>?_) (λA=>?_)
 .refine go ?_;intro a hz D;exact Kq O O (Es func220 z)
 refine go ?_;exact Kq O O (Es func220 z)
def B4 {e s_l s_end h0 o0 w w1 w2 w3 w4 w5 w6 w7 g}:CJS prog 220 1 h0 [o0] (Bu e s_l s_end) [.p o0 g,.I e] [Ab g 10 [[.L 4 Ak s_l,.I s_end,w,w1,w2,w3,w4,w5,w6,w7]]] (λG=>(.tup [])):=by
 refine cgj 0 func220 (Bu.eq_1 ..) ?_;rintro ids ⟨rfl,-⟩ z S U;refine go ?_;intro _;refine E4 O (λA=>?_) (λA=>?_)
 .refine go ?_;intro a hz D;exact Kq O O (Cr func220 z)
 refine go ?_;exact Kq O O (Cr func220 z)
instance Aj4 (a):CP prog 415 [.A (Ak a)] (Pk a) AV.bool:=by refine ci 3 1 func415 (Pk.eq_1 _) λh0 ids z A=>gc
def Ajy {kind s_l s_end h0 o0 w w1 w2 w3 w4 w5 w6 w7 g}:CJ0 prog 410 1 h0 [o0] (Va kind s_l s_end) [.p o0 g,.I kind,.F 415 []] [Ab g 10 [[.L 4 Ak s_l,.I s_end,w,w1,w2,w3,w4,w5,w6,w7]]] (λU=>(.A (Ak U))) (λU=>[Ab g 10 [[.L 4 Ak (s_l.drop 1),.I s_end,w,w1,w2,w3,w4,w5,w6,w7]]]):=by
 refine cgj 2 func410 (Va.eq_1 ..) ?_;rintro ids ⟨rfl,-⟩ Z hF hK;refine Bv ?_;refine Ah<|D9 1 te λg1=>Ad<|Bv ?_;refine Ai<|Ah<|Zm 4 [0] O<|E7 s_l<|Ov 2 O<|G9 10 14 24 [0,2,6] .bool O ?_ (λz _ V=>?_) (λz _ V=>?_)
 .intro b;refine Ov 1 O<|G9 10 25 35 [0,6] .bool O ?_ (λA _ D=>?_) (λA _ D=>?_)
  .intro b1;refine Ad<|jn (π:=Unit) (λ_=>Lt s_l) [0,6] (λ_=>[]) (λ_=>[Ab g 10 [[.L 4 Ak s_l,.I s_end,w,w1,w2,w3,w4,w5,w6,w7]],Ab g1 4 [[.I 0,.str [],.I 0,.I 0]],none]) ?_ λ_=>?_
   .intro _;refine Ae (Lt.eq_1 _)<|go ?_;intro a2 W X g2 hs;exact gz
   refine Bo O (λY=>?_) (λY=>?_)
   .refine go ?_;refine cG [0] B4 ?_;rintro _ _ _ _ ⟨rfl,rfl⟩;exact gc
   exact gc
  .exact gc
  refine Zm 5 [0] O<|Tp λa1 G S=>F5 (.cp (Ak a1) 0) O O O (Ay (Ajb te te O G S))<|F5 (.A (Ak a1)) O O O (A7 (Y9 te O))<|cO ((Aj4 a1) _) λr _=>gc
 .exact gc
 exact gc
def Cl {s_l s_end h0 o0 w w1 w2 w3 w4 w5 w6 w7 g}:CJ0 prog 380 1 h0 [o0] (B3 s_l s_end) [.p o0 g] [Ab g 10 [[.L 4 Ak s_l,.I s_end,w,w1,w2,w3,w4,w5,w6,w7]]] (λz=>(.str z)) (λz=>[Ab g 10 [[.L 4 Ak (s_l.drop 1),.I s_end,w,w1,w2,w3,w4,w5,w6,w7]]]):=by refine cgj 0 func380 (B3.eq_1 ..) ?_;rintro ids ⟨rfl,-⟩ A D G;refine go ?_;refine cG [0] Ajy ?_;rintro r _ _ _ ⟨rfl,rfl⟩;exact gc
instance Ajr (t b):CP prog 416 [.A (Ak t),.cp [.str b] 0] (O5 t b) AV.bool:=by refine ci 8 1 func416 (O5.eq_1 ..) λh0 ids z A=>gc
def Agg {kind s0_l s0_end s1 h0 o0 o1 w w1 w2 w3 w4 w5 w6 w7 g g1}:CJ0 prog 410 2 h0 [o0,o1] (Sk kind s0_l s0_end s1) [.p o0 g,.I kind,.F 416 [.p o1 g1]] [Ab g 10 [[.L 4 Ak s0_l,.I s0_end,w,w1,w2,w3,w4,w5,w6,w7]],Ab g1 1 [[.str s1]]] (λG=>(.A (Ak G))) (λG=>[Ab g 10 [[.L 4 Ak (s0_l.drop 1),.I s0_end,w,w1,w2,w3,w4,w5,w6,w7]],Ab g1 1 [[.str s1]]]):=by
 refine cgj 2 func410 (Sk.eq_1 ..) ?_;rintro ids ⟨rfl,rfl,-⟩ S hF hK;refine Bv ?_;refine Ah<|D9 2 te λU=>Ad<|Bv ?_;refine Ai<|Ah<|Zm 4 [0] O<|E7 s0_l<|Ov 2 O<|G9 10 14 24 [0,2,6] .bool O ?_ (λz _ V=>?_) (λz _ V=>?_)
 .intro b;refine Ov 1 O<|G9 10 25 35 [0,6] .bool O ?_ (λA _ D=>?_) (λA _ D=>?_)
  .intro b1;refine Ad<|jn (π:=Unit) (λ_=>Kj s0_l) [0,6] (λ_=>[]) (λ_=>[Ab g 10 [[.L 4 Ak s0_l,.I s0_end,w,w1,w2,w3,w4,w5,w6,w7]],Ab g1 1 [[.str s1]],Ab U 4 [[.I 0,.str [],.I 0,.I 0]],none]) ?_ λ_=>?_
   .intro _;refine Ae (Kj.eq_1 _)<|go ?_;intro a2 W X g3 hs;exact gz
   refine Bo O (λY=>?_) (λY=>?_)
   .refine go ?_;refine cG [0] B4 ?_;rintro _ _ _ _ ⟨rfl,rfl⟩;exact gc
   exact gc
  .exact gc
  refine go ?_;intro a1 Z aa;refine cO (FN (Ajr a1 s1) (EW (.s (.cons (.ptrL (S.at O O) O O (Pp _)) .nil))) (λ_ _=>(.bool _))) λr _=>gc
 .exact gc
 exact gc
def C5 {text s_l s_end h0 o0 w w1 w2 w3 w4 w5 w6 w7 g}:CJ0 prog 381 1 h0 [o0] (C2 text s_l s_end) [.p o0 g,.str text] [Ab g 10 [[.L 4 Ak s_l,.I s_end,w,w1,w2,w3,w4,w5,w6,w7]]] (λz=>(.tup [])) (λz=>[Ab g 10 [[.L 4 Ak (s_l.drop 1),.I s_end,w,w1,w2,w3,w4,w5,w6,w7]]]):=by refine cgj 1 func381 (C2.eq_1 ..) ?_;rintro ids ⟨rfl,-⟩ A D G;refine go ?_;intro g1;refine cG [0,1] Agg ?_;rintro r _ _ _ ⟨rfl,rfl⟩;exact gc
instance Ag1 (t b c):CP prog 417 [.A (Ak t),.cp [.I b] 0,.cp [.I c] 0] (Iy t b c) AV.bool:=by refine ci 15 1 func417 (Iy.eq_1 ..) λh0 ids z A=>gc
def Age {kind s0_l s0_end s1 s2 h0 o0 o1 o2 w w1 w2 w3 w4 w5 w6 w7 g g1 g2}:CJ0 prog 410 3 h0 [o0,o1,o2] (Sl kind s0_l s0_end s1 s2) [.p o0 g,.I kind,.F 417 [.p o1 g1,.p o2 g2]] [Ab g 10 [[.L 4 Ak s0_l,.I s0_end,w,w1,w2,w3,w4,w5,w6,w7]],Ab g1 1 [[.I s1]],Ab g2 1 [[.I s2]]] (λG=>(.A (Ak G))) (λG=>[Ab g 10 [[.L 4 Ak (s0_l.drop 1),.I s0_end,w,w1,w2,w3,w4,w5,w6,w7]],Ab g1 1 [[.I s1]],Ab g2 1 [[.I s2]]]):=by
 refine cgj 2 func410 (Sl.eq_1 ..) ?_;rintro ids ⟨rfl,rfl,rfl,-⟩ S hF hK;refine Bv ?_;refine Ah<|D9 3 te λg3=>Ad<|Bv ?_;refine Ai<|Ah<|Zm 4 [0] O<|E7 s0_l<|Ov 2 O<|G9 10 14 24 [0,2,6] .bool O ?_ (λz _ U=>?_) (λz _ U=>?_)
 .intro b;refine Ov 1 O<|G9 10 25 35 [0,6] .bool O ?_ (λA _ D=>?_) (λA _ D=>?_)
  .intro b1;refine Ad<|jn (π:=Unit) (λ_=>J8 s0_l) [0,6] (λ_=>[]) (λ_=>[Ab g 10 [[.L 4 Ak s0_l,.I s0_end,w,w1,w2,w3,w4,w5,w6,w7]],Ab g1 1 [[.I s1]],Ab g2 1 [[.I s2]],Ab g3 4 [[.I 0,.str [],.I 0,.I 0]],none]) ?_ λ_=>?_
   .intro _;refine Ae (J8.eq_1 _)<|go ?_;intro a2 V W g4 hs;exact gz
   refine Bo O (λX=>?_) (λX=>?_)
   .refine go ?_;refine cG [0] B4 ?_;rintro _ _ _ _ ⟨rfl,rfl⟩;exact gc
   exact gc
  .exact gc
  refine go ?_;intro a1 Y Z;refine cO (FN (Ag1 a1 s1 s2) (EW (.s (.cons (.ptrL (S.at O O) O O (Pp _)) (.cons (.ptrL (S.at O O) O O (Pp _)) .nil)))) (λ_ _=>(.bool _))) λr _=>gc
 .exact gc
 exact gc
def Dx {least most s_l s_end h0 o0 w w1 w2 w3 w4 w5 w6 w7 g}:CJ0 prog 382 1 h0 [o0] (Dg least most s_l s_end) [.p o0 g,.I least,.I most] [Ab g 10 [[.L 4 Ak s_l,.I s_end,w,w1,w2,w3,w4,w5,w6,w7]]] .I (λz=>[Ab g 10 [[.L 4 Ak (s_l.drop 1),.I s_end,w,w1,w2,w3,w4,w5,w6,w7]]]):=by refine cgj 2 func382 (Dg.eq_1 ..) ?_;rintro ids ⟨rfl,-⟩ A D G;refine go ?_;intro g1 O;refine cG [0,1,2] Age ?_;rintro r _ _ _ ⟨rfl,rfl⟩;exact gc
def Ace {s1_l s1_end h0 o0 o1 g w w1 w2 w3 w4 w5 w6 w7 g1}:CJ0 prog 396 2 h0 [o0,o1] (Gp s1_l s1_end) [.p o0 g] [Ab g 1 [[.p o1 g1]],Ab g1 10 [[.L 4 Ak s1_l,.I s1_end,w,w1,w2,w3,w4,w5,w6,w7]]] (λz=>(.A (Qk z))) (λz=>[Ab g 1 [[.p o1 g1]],Ab g1 10 [[.L 4 Ak (((s1_l.drop 1).drop 1).drop 1),.I s1_end,w,w1,w2,w3,w4,w5,w6,w7]]]):=by refine cgj 1 func396 (Gp.eq_1 ..) ?_;rintro ids ⟨rfl,rfl,-⟩ A D G;refine go ?_;intro S;refine cG [1] C5 ?_;rintro _ _ _ _ ⟨rfl,rfl⟩;refine go ?_;refine cG [1] Cl ?_;rintro r1 _ _ _ ⟨rfl,rfl⟩;refine go ?_;refine cG [1] Dx ?_;rintro r2 _ _ _ ⟨rfl,rfl⟩;refine go ?_;exact rg (hr:=by exact(Aw (Ar A O O O te O) A0)) (hz:=by exact .aggL .s2)
def Pi {kind text s_l s_end h0 o0 w w1 w2 w3 w4 w5 w6 w7 g}:CJS prog 412 1 h0 [o0] (Fm kind text s_l s_end) [.p o0 g,.I kind,.str text] [Ab g 10 [[.L 4 Ak s_l,.I s_end,w,w1,w2,w3,w4,w5,w6,w7]]] .B:=by refine cgj 0 func412 (Fm.eq_1 ..) ?_;rintro ids ⟨rfl,-⟩ z A D;exact gc
instance Ajv (t b):CP prog 414 [.A (Ak t),.cp [.str b] 0] (Pc t b) AV.bool:=by refine ci 8 1 func414 (Pc.eq_1 ..) λh0 ids z A=>gc
def Agz {kind s0_l s0_end s1 h0 o0 o1 w w1 w2 w3 w4 w5 w6 w7 g g1}:CJ0 prog 410 2 h0 [o0,o1] (Se kind s0_l s0_end s1) [.p o0 g,.I kind,.F 414 [.p o1 g1]] [Ab g 10 [[.L 4 Ak s0_l,.I s0_end,w,w1,w2,w3,w4,w5,w6,w7]],Ab g1 1 [[.str s1]]] (λG=>(.A (Ak G))) (λG=>[Ab g 10 [[.L 4 Ak (s0_l.drop 1),.I s0_end,w,w1,w2,w3,w4,w5,w6,w7]],Ab g1 1 [[.str s1]]]):=by
 refine cgj 2 func410 (Se.eq_1 ..) ?_;rintro ids ⟨rfl,rfl,-⟩ S hF hK;refine Bv ?_;refine Ah<|D9 2 te λU=>Ad<|Bv ?_;refine Ai<|Ah<|Zm 4 [0] O<|E7 s0_l<|Ov 2 O<|G9 10 14 24 [0,2,6] .bool O ?_ (λz _ V=>?_) (λz _ V=>?_)
 .intro b;refine Ov 1 O<|G9 10 25 35 [0,6] .bool O ?_ (λA _ D=>?_) (λA _ D=>?_)
  .intro b1;refine Ad<|jn (π:=Unit) (λ_=>Ka s0_l) [0,6] (λ_=>[]) (λ_=>[Ab g 10 [[.L 4 Ak s0_l,.I s0_end,w,w1,w2,w3,w4,w5,w6,w7]],Ab g1 1 [[.str s1]],Ab U 4 [[.I 0,.str [],.I 0,.I 0]],none]) ?_ λ_=>?_
   .intro _;refine Ae (Ka.eq_1 _)<|go ?_;intro a2 W X g3 hs;exact gz
   refine Bo O (λY=>?_) (λY=>?_)
   .refine go ?_;refine cG [0] B4 ?_;rintro _ _ _ _ ⟨rfl,rfl⟩;exact gc
   exact gc
  .exact gc
  refine go ?_;intro a1 Z aa;refine cO (FN (Ajv a1 s1) (EW (.s (.cons (.ptrL (S.at O O) O O (Pp _)) .nil))) (λ_ _=>(.bool _))) λr _=>gc
 .exact gc
 exact gc
def Cu {text s_l s_end h0 o0 w w1 w2 w3 w4 w5 w6 w7 g}:CJ0 prog 378 1 h0 [o0] (B8 text s_l s_end) [.p o0 g,.str text] [Ab g 10 [[.L 4 Ak s_l,.I s_end,w,w1,w2,w3,w4,w5,w6,w7]]] (λz=>(.tup [])) (λz=>[Ab g 10 [[.L 4 Ak (s_l.drop 1),.I s_end,w,w1,w2,w3,w4,w5,w6,w7]]]):=by refine cgj 1 func378 (B8.eq_1 ..) ?_;rintro ids ⟨rfl,-⟩ A D G;refine go ?_;intro g1;refine cG [0,1] Agz ?_;rintro r _ _ _ ⟨rfl,rfl⟩;exact gc
def Afy {s s1_l s1_end h0 o0 o1 g w w1 w2 w3 w4 w5 w6 w7 g1}:CJ0 prog 399 2 h0 [o0,o1] (Gd s s1_l s1_end) [.str s,.p o0 g] [Ab g 1 [[.p o1 g1]],Ab g1 10 [[.L 4 Ak s1_l,.I s1_end,w,w1,w2,w3,w4,w5,w6,w7]]] (λz=>(.A (E2 z))) (λz=>[Ab g 1 [[.p o1 g1]],Ab g1 10 [[.L 4 Ak ((((((s1_l.drop 1).drop 1).drop 1).drop 1).drop 1).drop 1),.I s1_end,w,w1,w2,w3,w4,w5,w6,w7]]]):=by refine cgj 2 func399 (Gd.eq_1 ..) ?_;rintro ids ⟨rfl,rfl,-⟩ A D G;refine go ?_;intro S g3;refine cG [1] C5 ?_;rintro _ _ _ _ ⟨rfl,rfl⟩;refine go ?_;refine cG [1] Dx ?_;rintro r1 _ _ _ ⟨rfl,rfl⟩;refine go ?_;refine cG [1] C5 ?_;rintro _ _ _ _ ⟨rfl,rfl⟩;refine go ?_;refine cG [1] Dx ?_;rintro U _ _ _ ⟨rfl,rfl⟩;refine go ?_;refine cG [1] C5 ?_;rintro _ _ _ _ ⟨rfl,rfl⟩;refine go ?_;refine cG [1] Dx ?_;rintro V _ _ _ ⟨rfl,rfl⟩;refine go ?_;exact rg (hr:=by exact(Aw (Ar A O O O te O) A0)) (hz:=by exact .aggL (.s (.s .s2)))
def Z9 {s_l s_end h0 o0 w w1 w2 w3 w4 w5 w6 w7 g}:CJ0 prog 403 1 h0 [o0] (Jp s_l s_end) [.p o0 g] [Ab g 10 [[.L 4 Ak s_l,.I s_end,w,w1,w2,w3,w4,w5,w6,w7]]] (λz=>(.A (Ax z))) (λz=>[Ab g 10 [[.L 4 Ak (((s_l.drop 1).drop 1).drop 1),.I s_end,w,w1,w2,w3,w4,w5,w6,w7]]]):=by refine cgj 1 func403 (Jp.eq_1 ..) ?_;rintro ids ⟨rfl,-⟩ A D G;refine go ?_;intro g1;refine cG [0] Dx ?_;rintro r _ _ _ ⟨rfl,rfl⟩;refine go ?_;refine cG [0] C5 ?_;rintro _ _ _ _ ⟨rfl,rfl⟩;refine go ?_;refine cG [0] Dx ?_;rintro r2 _ _ _ ⟨rfl,rfl⟩;refine go ?_;exact rg (hr:=by exact(Aw (Ar A O O O te O) A0)) (hz:=by exact .aggL .s2)
def Afk {s0 s2_l s2_end h0 o0 o1 o2 g g1 w w1 w2 w3 w4 w5 w6 w7 g2}:CJ0 prog 402 3 h0 [o0,o1,o2] (Rg s0 s2_l s2_end) [.p o0 g,.p o1 g1] [Ab g 8 [Bk s0],Ab g1 1 [[.p o2 g2]],Ab g2 10 [[.L 4 Ak s2_l,.I s2_end,w,w1,w2,w3,w4,w5,w6,w7]]] (λz=>(.tup [])) (λz=>[Ab g 8 [Bk z],Ab g1 1 [[.p o2 g2]],Ab g2 10 [[.L 4 Ak (((((s2_l.drop 1).drop 1).drop 1).drop 1).drop 1),.I s2_end,w,w1,w2,w3,w4,w5,w6,w7]]]):=by refine cgj 0 func402 (Rg.eq_1 ..) ?_;rintro ids ⟨rfl,rfl,rfl,-⟩ D G S;refine go ?_;refine cG [2] C5 ?_;rintro _ _ _ _ ⟨rfl,rfl⟩;refine go ?_;refine cG [2] Cl ?_;rintro r1 _ _ _ ⟨rfl,rfl⟩;refine go ?_;refine cG [2] Z9 ?_;rintro r2 _ _ _ ⟨rfl,rfl⟩;refine go ?_;exact Al8 [Ab g 8 [Bk ({Kind:=s0.Kind,C:=s0.C,A:=r1,Class:=s0.Class,Airport:=s0.Airport,N:=s0.N,Hours:=r2}:Rule)],Ab g1 1 [[.q ids 2 g2]],Ab g2 10 [[.L 4 Ak (((((s2_l.drop 1).drop 1).drop 1).drop 1).drop 1),.I s2_end,w,w1,w2,w3,w4,w5,w6,w7]]] func402 D O O O (.fz (.s (.s (.s (.s (.s (.s .s2)))))) O (Bc O (Bc O (Bc O (Bc O (Bc O (Bc O (Bc O (Bc O Rm)))))))) (.keep (.keep .nil))) (.same _) ⟨O,O⟩
def Agi {class1 s0 s3_l s3_end h0 o0 o1 o2 o3 g g1 g2 w w1 w2 w3 w4 w5 w6 w7 g3}:CJ0 prog 419 4 h0 [o0,o1,o2,o3] (Gy class1 s0 s3_l s3_end) [.str class1,.p o0 g,.p o1 g1] [Ab g 1 [[.I s0]],Ab g1 1 [[.F 402 [.p o2 g2]]],Ab g2 1 [[.p o3 g3]],Ab g3 10 [[.L 4 Ak s3_l,.I s3_end,w,w1,w2,w3,w4,w5,w6,w7]]] (λz=>(.A (Bk z))) (λz=>[Ab g 1 [[.I s0]],Ab g1 1 [[.F 402 [.p o2 g2]]],Ab g2 1 [[.p o3 g3]],Ab g3 10 [[.L 4 Ak (((((s3_l.drop 1).drop 1).drop 1).drop 1).drop 1),.I s3_end,w,w1,w2,w3,w4,w5,w6,w7]]]):=by refine cgj 2 func419 (Gy.eq_1 ..) ?_;rintro ids ⟨rfl,rfl,rfl,rfl,-⟩ A D G;refine go ?_;intro O S;refine cG [5,2,3] Afk ?_;rintro r _ _ _ ⟨rfl,rfl⟩;refine go ?_;exact gz
instance Af4 (a):CP prog 405 [.cp (Bk a) 0] (Rp a) (λ_=>AV.tup []):=by refine ci 2 0 func405 (Rp.eq_1 _) λh0 ids z A=>A8<|A15 func405 z O (.tupL .nil)
def Ag0 {class1 s0 h0 o0 o1 g g1}:CJS prog 419 2 h0 [o0,o1] (Jb class1 s0) [.str class1,.p o0 g,.p o1 g1] [Ab g 1 [[.I s0]],Ab g1 1 [[.F 405 []]]] (λD=>(.A [.I s0,.str class1,.str [],.I 0,.I 0,.I 0,.I 0,.I 0])):=by refine cgj 2 func419 (Jb.eq_1 ..) ?_;rintro ids ⟨rfl,rfl,-⟩ z G S;refine go ?_;intro U g3;refine cO (FN (Af4 ({Kind:=s0,C:=class1,A:=[],Class:=0,Airport:=0,N:=0,Hours:=({From:=0,To:=0}:Span)}:Rule)) (EW (.cons (.ptrL (z.at O O) O O (.s (.s (.s (.s (.s (.s .s2))))))) .nil)) (λ_ _=>.tup0)) λ_ _=>go ?_;exact gz
instance Ab1 (t):CP prog 411 [.A (Ak t)] (Iq t) AV.bool:=by
 refine ci 12 1 func411 (Iq.eq_1 _) λh0 ids D G=>Ah<|Ip 0 (.A (Ak t)) λg=>Ov 1 O<|Ad<|Bv ?_;refine Ah<|Zm 4 [0] O<|Oc 5 6 11 [] (.B ((decide (t.N<=60))&&((Int.tmod t.N 10)==0))) O ?_ (λz _ A=>?_) (λz _ A=>?_)
 .exact gc
 .refine Zm 2 [0] O<|F5 (.I (Int.tmod t.N 10)) O O O (Bb O O (Amc O (by decide)))<|gc
 exact gc
def Agw {kind s_l s_end h0 o0 w w1 w2 w3 w4 w5 w6 w7 g}:CJ0 prog 410 1 h0 [o0] (I7 kind s_l s_end) [.p o0 g,.I kind,.F 411 []] [Ab g 10 [[.L 4 Ak s_l,.I s_end,w,w1,w2,w3,w4,w5,w6,w7]]] (λU=>(.A (Ak U))) (λU=>[Ab g 10 [[.L 4 Ak (s_l.drop 1),.I s_end,w,w1,w2,w3,w4,w5,w6,w7]]]):=by
 refine cgj 2 func410 (I7.eq_1 ..) ?_;rintro ids ⟨rfl,-⟩ Z hF hK;refine Bv ?_;refine Ah<|D9 1 te λg1=>Ad<|Bv ?_;refine Ai<|Ah<|Zm 4 [0] O<|E7 s_l<|Ov 2 O<|G9 10 14 24 [0,2,6] .bool O ?_ (λz _ V=>?_) (λz _ V=>?_)
 .intro b;refine Ov 1 O<|G9 10 25 35 [0,6] .bool O ?_ (λA _ D=>?_) (λA _ D=>?_)
  .intro b1;refine Ad<|jn (π:=Unit) (λ_=>Ke s_l) [0,6] (λ_=>[]) (λ_=>[Ab g 10 [[.L 4 Ak s_l,.I s_end,w,w1,w2,w3,w4,w5,w6,w7]],Ab g1 4 [[.I 0,.str [],.I 0,.I 0]],none]) ?_ λ_=>?_
   .intro _;refine Ae (Ke.eq_1 _)<|go ?_;intro a2 W X g2 hs;exact gz
   refine Bo O (λY=>?_) (λY=>?_)
   .refine go ?_;refine cG [0] B4 ?_;rintro _ _ _ _ ⟨rfl,rfl⟩;exact gc
   exact gc
  .exact gc
  refine Zm 5 [0] O<|Tp λa1 G S=>F5 (.cp (Ak a1) 0) O O O (Ay (Ajb te te O G S))<|F5 (.A (Ak a1)) O O O (A7 (Y9 te O))<|cO ((Ab1 a1) _) λr _=>gc
 .exact gc
 exact gc
def Aew {s0 s2_l s2_end h0 o0 o1 o2 g g1 w w1 w2 w3 w4 w5 w6 w7 g2}:CJ0 prog 409 3 h0 [o0,o1,o2] (Q0 s0 s2_l s2_end) [.p o0 g,.p o1 g1] [Ab g 8 [Bk s0],Ab g1 1 [[.p o2 g2]],Ab g2 10 [[.L 4 Ak s2_l,.I s2_end,w,w1,w2,w3,w4,w5,w6,w7]]] (λz=>(.tup [])) (λz=>[Ab g 8 [Bk z],Ab g1 1 [[.p o2 g2]],Ab g2 10 [[.L 4 Ak (s2_l.drop 1),.I s2_end,w,w1,w2,w3,w4,w5,w6,w7]]]):=by refine cgj 0 func409 (Q0.eq_1 ..) ?_;rintro ids ⟨rfl,rfl,rfl,-⟩ D G S;refine go ?_;refine cG [2] Agw ?_;rintro r _ _ _ ⟨rfl,rfl⟩;refine go ?_;exact Al8 [Ab g 8 [Bk ({Kind:=s0.Kind,C:=s0.C,A:=s0.A,Class:=s0.Class,Airport:=s0.Airport,N:=r.N,Hours:=s0.Hours}:Rule)],Ab g1 1 [[.q ids 2 g2]],Ab g2 10 [[.L 4 Ak (s2_l.drop 1),.I s2_end,w,w1,w2,w3,w4,w5,w6,w7]]] func409 D O O O (.fz (.s (.s (.s (.s (.s (.s .s2)))))) O (Bc O (Bc O (Bc O (Bc O (Bc O (Bc O (Bc O (Bc O Rm)))))))) (.keep (.keep .nil))) (.same _) ⟨O,O⟩
def Agq {class1 s0 s3_l s3_end h0 o0 o1 o2 o3 g g1 g2 w w1 w2 w3 w4 w5 w6 w7 g3}:CJ0 prog 419 4 h0 [o0,o1,o2,o3] (G1 class1 s0 s3_l s3_end) [.str class1,.p o0 g,.p o1 g1] [Ab g 1 [[.I s0]],Ab g1 1 [[.F 409 [.p o2 g2]]],Ab g2 1 [[.p o3 g3]],Ab g3 10 [[.L 4 Ak s3_l,.I s3_end,w,w1,w2,w3,w4,w5,w6,w7]]] (λz=>(.A (Bk z))) (λz=>[Ab g 1 [[.I s0]],Ab g1 1 [[.F 409 [.p o2 g2]]],Ab g2 1 [[.p o3 g3]],Ab g3 10 [[.L 4 Ak (s3_l.drop 1),.I s3_end,w,w1,w2,w3,w4,w5,w6,w7]]]):=by refine cgj 2 func419 (G1.eq_1 ..) ?_;rintro ids ⟨rfl,rfl,rfl,rfl,-⟩ A D G;refine go ?_;intro O S;refine cG [5,2,3] Aew ?_;rintro r _ _ _ ⟨rfl,rfl⟩;refine go ?_;exact gz
def Aeq {s0 s2_l s2_end h0 o0 o1 o2 g g1 w w1 w2 w3 w4 w5 w6 w7 g2}:CJ0 prog 407 3 h0 [o0,o1,o2] (Qt s0 s2_l s2_end) [.p o0 g,.p o1 g1] [Ab g 8 [Bk s0],Ab g1 1 [[.p o2 g2]],Ab g2 10 [[.L 4 Ak s2_l,.I s2_end,w,w1,w2,w3,w4,w5,w6,w7]]] (λz=>(.tup [])) (λz=>[Ab g 8 [Bk z],Ab g1 1 [[.p o2 g2]],Ab g2 10 [[.L 4 Ak (s2_l.drop 1),.I s2_end,w,w1,w2,w3,w4,w5,w6,w7]]]):=by refine cgj 0 func407 (Qt.eq_1 ..) ?_;rintro ids ⟨rfl,rfl,rfl,-⟩ D G S;refine go ?_;refine cG [2] Dx ?_;rintro r _ _ _ ⟨rfl,rfl⟩;refine go ?_;exact Al8 [Ab g 8 [Bk ({Kind:=s0.Kind,C:=s0.C,A:=s0.A,Class:=s0.Class,Airport:=s0.Airport,N:=r,Hours:=s0.Hours}:Rule)],Ab g1 1 [[.q ids 2 g2]],Ab g2 10 [[.L 4 Ak (s2_l.drop 1),.I s2_end,w,w1,w2,w3,w4,w5,w6,w7]]] func407 D O O O (.fz (.s (.s (.s (.s (.s (.s .s2)))))) O (Bc O (Bc O (Bc O (Bc O (Bc O (Bc O (Bc O (Bc O Rm)))))))) (.keep (.keep .nil))) (.same _) ⟨O,O⟩
def Ahd {class1 s0 s3_l s3_end h0 o0 o1 o2 o3 g g1 g2 w w1 w2 w3 w4 w5 w6 w7 g3}:CJ0 prog 419 4 h0 [o0,o1,o2,o3] (Gw class1 s0 s3_l s3_end) [.str class1,.p o0 g,.p o1 g1] [Ab g 1 [[.I s0]],Ab g1 1 [[.F 407 [.p o2 g2]]],Ab g2 1 [[.p o3 g3]],Ab g3 10 [[.L 4 Ak s3_l,.I s3_end,w,w1,w2,w3,w4,w5,w6,w7]]] (λz=>(.A (Bk z))) (λz=>[Ab g 1 [[.I s0]],Ab g1 1 [[.F 407 [.p o2 g2]]],Ab g2 1 [[.p o3 g3]],Ab g3 10 [[.L 4 Ak (s3_l.drop 1),.I s3_end,w,w1,w2,w3,w4,w5,w6,w7]]]):=by refine cgj 2 func419 (Gw.eq_1 ..) ?_;rintro ids ⟨rfl,rfl,rfl,rfl,-⟩ A D G;refine go ?_;intro O S;refine cG [5,2,3] Aeq ?_;rintro r _ _ _ ⟨rfl,rfl⟩;refine go ?_;exact gz
variable{l:(List Volume)}
def Ag5{most s0_l s0_end}{h0 o0 o1 o2 w w1 w2 w3 w4 w5 w6 g v1 g1 g2}(X:Av v1 o1 g1 l.length):CJ0 prog 395 3 h0 [o0,o1,o2] (Ja most s0_l s0_end l) [.p o0 g,.I most,.F 396 [.p o2 g2]] [Ab g 10 [[.L 4 Ak s0_l,.I s0_end,v1,w,w1,w2,w3,w4,w5,w6]],Ccu v1 g1 2 Ba l,Ab g2 1 [[.p o0 g]]] (λz=>(.L 2 Qk z.1)) (λz=>[Ab g 10 [[.L 4 Ak z.2,.I s0_end,v1,w,w1,w2,w3,w4,w5,w6]],Ccu v1 g1 2 Ba l,Ab g2 1 [[.p o0 g]]]):=by
 refine cgj 1 func395 (Ja.eq_1 ..) ?_;rintro ids ⟨rfl,rfl,rfl,-⟩ Y Z hK;refine go ?_;refine Gh [0,1,2,6] ?_;refine Ko (P:=prog) _ _ (Ct λfL l1=>λfr h=>∃(v2:AV),∃(g3:Nat),Av v2 (ix ids 3) g3 l1.length/\fr=Ac [(0,.q ids 0 g),(1,.I most),(2,.F 396 [.q ids 2 g2]),(6,v2)]/\h=hp h0 ids [Ab g 10 [[.L 4 Ak fL,.I s0_end,v1,w,w1,w2,w3,w4,w5,w6]],Ccu v1 g1 2 Ba l,Ab g2 1 [[.q ids 0 g]],Ccu v2 g3 2 Qk l1]) (s0_l,[]) ?_ ?_
 .exact⟨.emp,0,.nil,O,O⟩
 rintro vW U ⟨fL,l1⟩ fr h ⟨v2,g3,V,rfl,rfl⟩;refine Ae (m':=Hb most s0_end fL l1) O (Ae (Hb.eq_1 ..) ?_);refine go ?_;refine cG [2,0] Ace ?_;rintro r _ _ _ ⟨rfl,rfl⟩;refine F1 ?_;refine Bgg A5w 3 [r] O λG S A=>go ?_;refine cG [0] Pi ?_;rintro r1 _ _ _ ⟨rfl,rfl⟩;refine go ?_;refine N8 O (λW=>?_) (λW=>?_)
 .refine go ?_;intro _;refine jn (π:=Unit) (λ_=>Ha s0_end fL l1 r) [0,1,2,6] (λ_=>[]) (λ_=>[Ab g 10 [[.L 4 Ak (((fL.drop 1).drop 1).drop 1),.I s0_end,v1,w,w1,w2,w3,w4,w5,w6]],Ccu v1 g1 2 Ba l,Ab g2 1 [[.q ids 0 g]],Ccu G S 2 Qk (l1++[r])]) ?_ λ_=>?_
  .intro _;refine Ae (Ha.eq_1 ..)<|go ?_;refine cG [0] Cu ?_;rintro _ _ _ _ ⟨rfl,rfl⟩;refine go ?_;exact D1 (Hl (U _ _ _ ⟨G,S,A,O,O⟩))
  refine Bo O (λD=>?_) (λD=>?_)
  .refine go ?_;refine cG [0] B4 ?_;rintro _ _ _ _ ⟨rfl,rfl⟩;exact gc
  exact gc
 refine go ?_;exact go1 (λx=>A5w x)
def Ad0{s s1_l s1_end}{h0 o0 o1 o2 g w w1 w2 w3 w4 w5 w6 g1 v1 g2}(A:Av v1 o2 g2 l.length):CJ0 prog 394 3 h0 [o0,o1,o2] (Fh s s1_l s1_end l) [.str s,.p o0 g] [Ab g 1 [[.p o1 g1]],Ab g1 10 [[.L 4 Ak s1_l,.I s1_end,v1,w,w1,w2,w3,w4,w5,w6]],Ccu v1 g2 2 Ba l] (λz=>(.A (Dh z.1))) (λz=>[Ab g 1 [[.p o1 g1]],Ab g1 10 [[.L 4 Ak z.2,.I s1_end,v1,w,w1,w2,w3,w4,w5,w6]],Ccu v1 g2 2 Ba l]):=by refine cgj 1 func394 (Fh.eq_1 ..) ?_;rintro ids ⟨rfl,rfl,rfl,-⟩ D G S;refine go ?_;intro g3;refine cG [1,2,0] (Ag5 A) ?_;rintro r _ _ _ ⟨rfl,rfl⟩;refine go ?_;exact rg (hr:=by exact(Aw (Ar D O O O te O) A0)) (hz:=by exact .aggL .s2)
def Mo{most s0_l s0_end}{h0 o0 o1 w w1 w2 w3 w4 w5 w6 g v1 g1}(X:Av v1 o1 g1 l.length):CJ0 prog 379 2 h0 [o0,o1] (El most s0_l s0_end l) [.p o0 g,.I most,.func (.func 380) [.p o0 g] []] [Ab g 10 [[.L 4 Ak s0_l,.I s0_end,v1,w,w1,w2,w3,w4,w5,w6]],Ccu v1 g1 2 Ba l] (λz=>(.L 1 rS z.1)) (λz=>[Ab g 10 [[.L 4 Ak z.2,.I s0_end,v1,w,w1,w2,w3,w4,w5,w6]],Ccu v1 g1 2 Ba l]):=by
 refine cgj 1 func379 (El.eq_1 ..) ?_;rintro ids ⟨rfl,rfl,-⟩ Y Z hK;refine go ?_;refine Gh [0,1,2,6] ?_;refine Ko (P:=prog) _ _ (Ct λfL l1=>λfr h=>∃(v2:AV),∃(A:Nat),Av v2 (ix ids 2) A l1.length/\fr=Ac [(0,.q ids 0 g),(1,.I most),(2,.func (.func 380) [.q ids 0 g] []),(6,v2)]/\h=hp h0 ids [Ab g 10 [[.L 4 Ak fL,.I s0_end,v1,w,w1,w2,w3,w4,w5,w6]],Ccu v1 g1 2 Ba l,Ccu v2 A 1 rS l1]) (s0_l,[]) ?_ ?_
 .exact⟨.emp,0,.nil,O,O⟩
 rintro vW U ⟨fL,l1⟩ fr h ⟨v2,A,V,rfl,rfl⟩;refine Ae (m':=Fo most s0_end fL l1) O (Ae (Fo.eq_1 ..) ?_);refine go ?_;refine cG [0] Cl ?_;rintro r _ _ _ ⟨rfl,rfl⟩;refine F1 ?_;refine Bgg (e:=rS) (λx=>Bkd x) 2 [r] O λS g3 D=>go ?_;refine cG [0] Pi ?_;rintro r1 _ _ _ ⟨rfl,rfl⟩;refine go ?_;refine N8 O (λW=>?_) (λW=>?_)
 .refine go ?_;intro _;refine jn (π:=Unit) (λ_=>Fu s0_end fL l1 r) [0,1,2,6] (λ_=>[]) (λ_=>[Ab g 10 [[.L 4 Ak (fL.drop 1),.I s0_end,v1,w,w1,w2,w3,w4,w5,w6]],Ccu v1 g1 2 Ba l,Ccu S g3 1 rS (l1++[r])]) ?_ λ_=>?_
  .intro _;refine Ae (Fu.eq_1 ..)<|go ?_;refine cG [0] Cu ?_;rintro _ _ _ _ ⟨rfl,rfl⟩;refine go ?_;exact D1 (Hl (U _ _ _ ⟨S,g3,D,O,O⟩))
  refine Bo O (λG=>?_) (λG=>?_)
  .refine go ?_;refine cG [0] B4 ?_;rintro _ _ _ _ ⟨rfl,rfl⟩;exact gc
  exact gc
 refine go ?_;exact go1 (λx=>Bkd x)
def Adq{s s1_l s1_end}{h0 o0 o1 o2 g w w1 w2 w3 w4 w5 w6 g1 v1 g2}(D:Av v1 o2 g2 l.length):CJ0 prog 385 3 h0 [o0,o1,o2] (Fg s s1_l s1_end l) [.str s,.p o0 g] [Ab g 1 [[.p o1 g1]],Ab g1 10 [[.L 4 Ak s1_l,.I s1_end,v1,w,w1,w2,w3,w4,w5,w6]],Ccu v1 g2 2 Ba l] (λz=>(.A (Bz z.1))) (λz=>[Ab g 1 [[.p o1 g1]],Ab g1 10 [[.L 4 Ak z.2,.I s1_end,v1,w,w1,w2,w3,w4,w5,w6]],Ccu v1 g2 2 Ba l]):=by refine cgj 1 func385 (Fg.eq_1 ..) ?_;rintro ids ⟨rfl,rfl,rfl,-⟩ A G S;refine go ?_;intro g3;refine cG [1] Cu ?_;rintro _ _ _ _ ⟨rfl,rfl⟩;refine go ?_;refine cG [1,2] (Mo D) ?_;rintro r1 _ _ _ ⟨rfl,rfl⟩;refine go ?_;exact Abi [Ab g 1 [[.q ids 1 g1]],Ab g1 10 [[.L 4 Ak r1.2,.I s1_end,v1,w,w1,w2,w3,w4,w5,w6]],Ccu v1 g2 2 Ba l] func385 A O (Aw (Ar A O O O te O) A0) O (.keep (.keep (.keep (.drop .nil)))) (.aggL (.s (.s (.cons (.emp _) .nil)))) ⟨O,O⟩
def Adi{s s1_l s1_end}{h0 o0 o1 o2 g w w1 w2 w3 w4 w5 w6 g1 v1 g2}(D:Av v1 o2 g2 l.length):CJ0 prog 391 3 h0 [o0,o1,o2] (Ff s s1_l s1_end l) [.str s,.p o0 g] [Ab g 1 [[.p o1 g1]],Ab g1 10 [[.L 4 Ak s1_l,.I s1_end,v1,w,w1,w2,w3,w4,w5,w6]],Ccu v1 g2 2 Ba l] (λz=>(.A (Ed z.1))) (λz=>[Ab g 1 [[.p o1 g1]],Ab g1 10 [[.L 4 Ak z.2,.I s1_end,v1,w,w1,w2,w3,w4,w5,w6]],Ccu v1 g2 2 Ba l]):=by refine cgj 2 func391 (Ff.eq_1 ..) ?_;rintro ids ⟨rfl,rfl,rfl,-⟩ A S U;refine go ?_;intro g3 V;refine cG [1] C5 ?_;rintro _ _ _ _ ⟨rfl,rfl⟩;refine go ?_;refine cG [1] Cl ?_;rintro r1 _ _ _ ⟨rfl,rfl⟩;refine go ?_;refine cG [1] C5 ?_;rintro _ _ _ _ ⟨rfl,rfl⟩;refine go ?_;refine cG [1] Cl ?_;rintro W _ _ _ ⟨rfl,rfl⟩;refine go ?_;refine cG [1] C5 ?_;rintro _ _ _ _ ⟨rfl,rfl⟩;refine go ?_;refine cG [1,2] (Mo D) ?_;rintro G _ _ _ ⟨rfl,rfl⟩;refine go ?_;exact Abi [Ab g 1 [[.q ids 1 g1]],Ab g1 10 [[.L 4 Ak G.2,.I s1_end,v1,w,w1,w2,w3,w4,w5,w6]],Ccu v1 g2 2 Ba l] func391 A O (Aw (Ar A O O O te O) A0) O (.keep (.keep (.keep (.drop (.drop .nil))))) (.aggL (.s (.s (.s (.s (.s (.s (.cons (.emp _) .nil)))))))) ⟨O,O⟩
def Adm{s s1_l s1_end}{h0 o0 o1 o2 g w w1 w2 w3 w4 w5 w6 g1 v1 g2}(D:Av v1 o2 g2 l.length):CJ0 prog 377 3 h0 [o0,o1,o2] (Fk s s1_l s1_end l) [.str s,.p o0 g] [Ab g 1 [[.p o1 g1]],Ab g1 10 [[.L 4 Ak s1_l,.I s1_end,v1,w,w1,w2,w3,w4,w5,w6]],Ccu v1 g2 2 Ba l] (λz=>(.A (Br z.1))) (λz=>[Ab g 1 [[.p o1 g1]],Ab g1 10 [[.L 4 Ak z.2,.I s1_end,v1,w,w1,w2,w3,w4,w5,w6]],Ccu v1 g2 2 Ba l]):=by refine cgj 2 func377 (Fk.eq_1 ..) ?_;rintro ids ⟨rfl,rfl,rfl,-⟩ A G S;refine go ?_;intro g3 U;refine cG [1] Cu ?_;rintro _ _ _ _ ⟨rfl,rfl⟩;refine go ?_;refine cG [1,2] (Mo D) ?_;rintro r1 _ _ _ ⟨rfl,rfl⟩;refine go ?_;refine cG [1] C5 ?_;rintro _ _ _ _ ⟨rfl,rfl⟩;refine go ?_;refine cG [1] Dx ?_;rintro V _ _ _ ⟨rfl,rfl⟩;refine go ?_;refine cG [1] C5 ?_;rintro _ _ _ _ ⟨rfl,rfl⟩;refine go ?_;refine cG [1] Dx ?_;rintro W _ _ _ ⟨rfl,rfl⟩;refine go ?_;exact Abi [Ab g 1 [[.q ids 1 g1]],Ab g1 10 [[.L 4 Ak ((((r1.2.drop 1).drop 1).drop 1).drop 1),.I s1_end,v1,w,w1,w2,w3,w4,w5,w6]],Ccu v1 g2 2 Ba l] func377 A O (Aw (Ar A O O O te O) A0) O (.keep (.keep (.keep (.drop (.drop .nil))))) (.aggL (.s (.s (.cons (.emp _) .s2)))) ⟨O,O⟩
def Adv{most s0_l s0_end}{h0 o0 o1 w w1 w2 w3 w4 w5 w6 g v1 g1}(X:Av v1 o1 g1 l.length):CJ0 prog 413 2 h0 [o0,o1] (Fe most s0_l s0_end l) [.p o0 g,.I most,.func (.func 403) [.p o0 g] []] [Ab g 10 [[.L 4 Ak s0_l,.I s0_end,v1,w,w1,w2,w3,w4,w5,w6]],Ccu v1 g1 2 Ba l] (λz=>(.L 2 Ax z.1)) (λz=>[Ab g 10 [[.L 4 Ak z.2,.I s0_end,v1,w,w1,w2,w3,w4,w5,w6]],Ccu v1 g1 2 Ba l]):=by
 refine cgj 1 func413 (Fe.eq_1 ..) ?_;rintro ids ⟨rfl,rfl,-⟩ Y Z hK;refine go ?_;refine Gh [0,1,2,6] ?_;refine Ko (P:=prog) _ _ (Ct λfL l1=>λfr h=>∃(v2:AV),∃(A:Nat),Av v2 (ix ids 2) A l1.length/\fr=Ac [(0,.q ids 0 g),(1,.I most),(2,.func (.func 403) [.q ids 0 g] []),(6,v2)]/\h=hp h0 ids [Ab g 10 [[.L 4 Ak fL,.I s0_end,v1,w,w1,w2,w3,w4,w5,w6]],Ccu v1 g1 2 Ba l,Ccu v2 A 2 Ax l1]) (s0_l,[]) ?_ ?_
 .exact⟨.emp,0,.nil,O,O⟩
 rintro vW U ⟨fL,l1⟩ fr h ⟨v2,A,V,rfl,rfl⟩;refine Ae (m':=F8 most s0_end fL l1) O (Ae (F8.eq_1 ..) ?_);refine go ?_;refine cG [0] Z9 ?_;rintro r _ _ _ ⟨rfl,rfl⟩;refine F1 ?_;refine Bgg Gu 2 [r] O λS g3 D=>go ?_;refine cG [0] Pi ?_;rintro r1 _ _ _ ⟨rfl,rfl⟩;refine go ?_;refine N8 O (λW=>?_) (λW=>?_)
 .refine go ?_;intro _;refine jn (π:=Unit) (λ_=>F9 s0_end fL l1 r) [0,1,2,6] (λ_=>[]) (λ_=>[Ab g 10 [[.L 4 Ak (((fL.drop 1).drop 1).drop 1),.I s0_end,v1,w,w1,w2,w3,w4,w5,w6]],Ccu v1 g1 2 Ba l,Ccu S g3 2 Ax (l1++[r])]) ?_ λ_=>?_
  .intro _;refine Ae (F9.eq_1 ..)<|go ?_;refine cG [0] Cu ?_;rintro _ _ _ _ ⟨rfl,rfl⟩;refine go ?_;exact D1 (Hl (U _ _ _ ⟨S,g3,D,O,O⟩))
  refine Bo O (λG=>?_) (λG=>?_)
  .refine go ?_;refine cG [0] B4 ?_;rintro _ _ _ _ ⟨rfl,rfl⟩;exact gc
  exact gc
 refine go ?_;exact go1 (λx=>Gu x)
def Ye{text s0_l s0_end}{h0 o0 o1 w w1 w2 w3 w4 w5 w6 g v1 g1}(A:Av v1 o1 g1 l.length):CJ0 prog 374 2 h0 [o0,o1] (H6 text s0_l s0_end l) [.p o0 g,.str text] [Ab g 10 [[.L 4 Ak s0_l,.I s0_end,v1,w,w1,w2,w3,w4,w5,w6]],Ccu v1 g1 2 Ba l] (λz=>(.L 2 Ax z.1)) (λz=>[Ab g 10 [[.L 4 Ak z.2,.I s0_end,v1,w,w1,w2,w3,w4,w5,w6]],Ccu v1 g1 2 Ba l]):=by
 refine cgj 0 func374 (H6.eq_1 ..) ?_;rintro ids ⟨rfl,rfl,-⟩ D S U;refine go ?_;refine cG [0] Pi ?_;rintro r _ _ _ ⟨rfl,rfl⟩;refine go ?_;refine N8 O (λG=>?_) (λG=>?_)
 .refine go ?_;refine cG [0] C5 ?_;rintro _ _ _ _ ⟨rfl,rfl⟩;refine go ?_;refine cG [0,1] (Adv A) ?_;rintro r2 _ _ _ ⟨rfl,rfl⟩;exact gc
 refine go ?_;exact Abi [Ab g 10 [[.L 4 Ak s0_l,.I s0_end,v1,w,w1,w2,w3,w4,w5,w6]],Ccu v1 g1 2 Ba l] func374 D O O O (.keep (.keep .nil)) (.emp _) ⟨O,O⟩
def Adl{s s1_l s1_end}{h0 o0 o1 o2 g w w1 w2 w3 w4 w5 w6 g1 v1 g2}(A:Av v1 o2 g2 l.length):CJ0 prog 388 3 h0 [o0,o1,o2] (Fj s s1_l s1_end l) [.str s,.p o0 g] [Ab g 1 [[.p o1 g1]],Ab g1 10 [[.L 4 Ak s1_l,.I s1_end,v1,w,w1,w2,w3,w4,w5,w6]],Ccu v1 g2 2 Ba l] (λz=>(.A (C3 z.1))) (λz=>[Ab g 1 [[.p o1 g1]],Ab g1 10 [[.L 4 Ak z.2,.I s1_end,v1,w,w1,w2,w3,w4,w5,w6]],Ccu v1 g2 2 Ba l]):=by refine cgj 2 func388 (Fj.eq_1 ..) ?_;rintro ids ⟨rfl,rfl,rfl,-⟩ D G S;refine go ?_;intro g3 U;refine cG [1] C5 ?_;rintro _ _ _ _ ⟨rfl,rfl⟩;refine go ?_;refine cG [1] Cl ?_;rintro r1 _ _ _ ⟨rfl,rfl⟩;refine go ?_;refine cG [1] C5 ?_;rintro _ _ _ _ ⟨rfl,rfl⟩;refine go ?_;refine cG [1] Dx ?_;rintro V _ _ _ ⟨rfl,rfl⟩;refine go ?_;refine cG [1,2] (Ye A) ?_;rintro r4 _ _ _ ⟨rfl,rfl⟩;refine go ?_;exact rg (hr:=by exact(Aw (Ar D O O O te O) A0)) (hz:=by exact .aggL (.s (.s (.s .s2))))
def Adt{s s1_l s1_end}{h0 o0 o1 o2 g w w1 w2 w3 w4 w5 w6 g1 v1 g2}(A:Av v1 o2 g2 l.length):CJ0 prog 373 3 h0 [o0,o1,o2] (Fi s s1_l s1_end l) [.str s,.p o0 g] [Ab g 1 [[.p o1 g1]],Ab g1 10 [[.L 4 Ak s1_l,.I s1_end,v1,w,w1,w2,w3,w4,w5,w6]],Ccu v1 g2 2 Ba l] (λz=>(.A (Ba z.1))) (λz=>[Ab g 1 [[.p o1 g1]],Ab g1 10 [[.L 4 Ak z.2,.I s1_end,v1,w,w1,w2,w3,w4,w5,w6]],Ccu v1 g2 2 Ba l]):=by refine cgj 1 func373 (Fi.eq_1 ..) ?_;rintro ids ⟨rfl,rfl,rfl,-⟩ D G S;refine go ?_;intro g3;refine cG [1,2] (Ye A) ?_;rintro r _ _ _ ⟨rfl,rfl⟩;refine go ?_;exact rg (hr:=by exact(Aw (Ar D O O O te O) A0)) (hz:=by exact .aggL .s2)
def Aie{most s0_l s0_end}{h0 o0 o1 o2 w w1 w2 w3 w4 w5 w6 g v1 g1 g2}(S:Av v1 o1 g1 l.length):CJ1 prog 372 3 h0 [o0,o1,o2] (J4 most s0_l s0_end l) [.p o0 g,.ptr o0 g 0 2,.I most,.F 373 [.p o2 g2]] [Ab g 10 [[.L 4 Ak s0_l,.I s0_end,v1,w,w1,w2,w3,w4,w5,w6]],Ccu v1 g1 2 Ba l,Ab g2 1 [[.p o0 g]]] o1 (λz=>z.2.length) (λz A=>(.tup [])) (λz A U=>[Ab g 10 [[.L 4 Ak z.1,.I s0_end,A,w,w1,w2,w3,w4,w5,w6]],Ccu A U 2 Ba z.2,Ab g2 1 [[.p o0 g]]]):=by
 refine cgj 1 func372 (J4.eq_1 ..) ?_;rintro ids ⟨rfl,rfl,rfl,-⟩ V X D;refine go ?_;intro _;refine jn (π:=Unit) (λ_=>H0 s0_l s0_end l) [0,1,3] (λ_=>[]) (λ_=>[Ab g 10 [[.L 4 Ak s0_l,.I s0_end,v1,w,w1,w2,w3,w4,w5,w6]],Ccu v1 g1 2 Ba l,Ab g2 1 [[.q ids 0 g]],none]) ?_ λ_=>?_
 .intro _;refine Ae (H0.eq_1 ..)<|go ?_;intro Y;refine cG [0] Cl ?_;rintro r1 _ _ _ ⟨rfl,rfl⟩;refine F1 ?_;refine cG [2,0,1] (Adt S) ?_;rintro r2 _ _ _ ⟨rfl,rfl⟩;refine go ?_;intro g3;refine cG [0] Cu ?_;rintro _ _ _ _ ⟨rfl,rfl⟩;refine F1 ?_;refine Ad<|Bv ?_;refine Ajf [0,1,2,3,4,5,6,7,8] ?_;refine Au7 5 [0,3] O<|Arc Agb [r2.1] O (A9 [0])<|Da λZ=>Avk 1 O O O (λ_ _=>(A9 [])) λv2 g4 G=>Avn 1 O<|Cv O (λ_ _=>O) (λK D=>Bi (De G V O O O O te O O O) (D _ _ Bh ?_));clear D K;exact gc
 refine Bo O (λW=>?_) (λW=>?_)
 .refine go ?_;refine cG [0] B4 ?_;rintro _ _ _ _ ⟨rfl,rfl⟩;exact gc
 exact gc
def Ag2{s0_l s0_end}{h0 o0 o1 w w1 w2 w3 w4 w5 w6 g v1 g1}(D:Av v1 o1 g1 l.length):CJ1 prog 371 2 h0 [o0,o1] (Nl s0_l s0_end l) [.p o0 g] [Ab g 10 [[.L 4 Ak s0_l,.I s0_end,v1,w,w1,w2,w3,w4,w5,w6]],Ccu v1 g1 2 Ba l] o1 (λz=>z.2.length) (λz A=>(.tup [])) (λz A G=>[Ab g 10 [[.L 4 Ak z.1,.I s0_end,A,w,w1,w2,w3,w4,w5,w6]],Ccu A G 2 Ba z.2]):=by refine cgj 1 func371 (Nl.eq_1 ..) ?_;rintro ids ⟨rfl,rfl,-⟩ S U V;refine go ?_;intro W;refine Z6 [0,1,2] (Aie D) ?_;rintro r _ _ _ ⟨v2,g3,O,rfl,rfl⟩;exact gc
def Aia{most s0_l s0_end}{l1:(List Sector)}{h0 o0 o1 o2 o3 w w1 w2 w3 w4 w5 g v1 g1 v2 g2 g3}(S:Av v1 o1 g1 l.length)(U:Av v2 o2 g2 l1.length):CJ1 prog 376 4 h0 [o0,o1,o2,o3] (J0 most s0_l s0_end l l1) [.p o0 g,.ptr o0 g 0 3,.I most,.F 377 [.p o3 g3]] [Ab g 10 [[.L 4 Ak s0_l,.I s0_end,v1,v2,w,w1,w2,w3,w4,w5]],Ccu v1 g1 2 Ba l,Ccu v2 g2 5 Br l1,Ab g3 1 [[.p o0 g]]] o2 (λz=>z.2.length) (λz A=>(.tup [])) (λz A V=>[Ab g 10 [[.L 4 Ak z.1,.I s0_end,v1,A,w,w1,w2,w3,w4,w5]],Ccu v1 g1 2 Ba l,Ccu A V 5 Br z.2,Ab g3 1 [[.p o0 g]]]):=by
 refine cgj 1 func376 (J0.eq_1 ..) ?_;rintro ids ⟨rfl,rfl,rfl,rfl,-⟩ W Y D;refine go ?_;intro _;refine jn (π:=Unit) (λ_=>Hw s0_l s0_end l l1) [0,1,3] (λ_=>[]) (λ_=>[Ab g 10 [[.L 4 Ak s0_l,.I s0_end,v1,v2,w,w1,w2,w3,w4,w5]],Ccu v1 g1 2 Ba l,Ccu v2 g2 5 Br l1,Ab g3 1 [[.q ids 0 g]],none]) ?_ λ_=>?_
 .intro _;refine Ae (Hw.eq_1 ..)<|go ?_;intro Z;refine cG [0] Cl ?_;rintro r1 _ _ _ ⟨rfl,rfl⟩;refine F1 ?_;refine cG [3,0,1] (Adm S) ?_;rintro r2 _ _ _ ⟨rfl,rfl⟩;refine go ?_;intro g4;refine cG [0] Cu ?_;rintro _ _ _ _ ⟨rfl,rfl⟩;refine F1 ?_;refine Ad<|Bv ?_;refine Ajf [0,1,2,3,4,5,6,7,8] ?_;refine Au7 5 [0,4] O<|Arc Vs [r2.1] O (A9 [0])<|Da λhl=>Avk 2 O O O (λ_ _=>(A9 [])) λv3 g5 G=>Avn 1 O<|Cv O (λ_ _=>O) (λK D=>Bi (De G W O O O O te O O O) (D _ _ Bh ?_));clear D K;exact gc
 refine Bo O (λX=>?_) (λX=>?_)
 .refine go ?_;refine cG [0] B4 ?_;rintro _ _ _ _ ⟨rfl,rfl⟩;exact gc
 exact gc
def Ag6{s0_l s0_end}{l1:(List Sector)}{h0 o0 o1 o2 w w1 w2 w3 w4 w5 g v1 g1 v2 g2}(G:Av v1 o1 g1 l.length)(A:Av v2 o2 g2 l1.length):CJ1 prog 375 3 h0 [o0,o1,o2] (Nj s0_l s0_end l l1) [.p o0 g] [Ab g 10 [[.L 4 Ak s0_l,.I s0_end,v1,v2,w,w1,w2,w3,w4,w5]],Ccu v1 g1 2 Ba l,Ccu v2 g2 5 Br l1] o2 (λz=>z.2.length) (λz D=>(.tup [])) (λz D O=>[Ab g 10 [[.L 4 Ak z.1,.I s0_end,v1,D,w,w1,w2,w3,w4,w5]],Ccu v1 g1 2 Ba l,Ccu D O 5 Br z.2]):=by refine cgj 1 func375 (Nj.eq_1 ..) ?_;rintro ids ⟨rfl,rfl,rfl,-⟩ U V W;refine go ?_;intro g3;refine Z6 [0,1,2,3] (Aia G A) ?_;rintro r _ _ _ ⟨X,Y,S,rfl,rfl⟩;exact gc
def Aig{most s0_l s0_end}{l1:(List Config)}{h0 o0 o1 o2 o3 w w1 w2 w3 w4 w5 g v1 g1 v2 g2 g3}(S:Av v1 o1 g1 l.length)(U:Av v2 o2 g2 l1.length):CJ1 prog 384 4 h0 [o0,o1,o2,o3] (Jx most s0_l s0_end l l1) [.p o0 g,.ptr o0 g 0 4,.I most,.F 385 [.p o3 g3]] [Ab g 10 [[.L 4 Ak s0_l,.I s0_end,v1,w,v2,w1,w2,w3,w4,w5]],Ccu v1 g1 2 Ba l,Ccu v2 g2 3 Bz l1,Ab g3 1 [[.p o0 g]]] o2 (λz=>z.2.length) (λz A=>(.tup [])) (λz A V=>[Ab g 10 [[.L 4 Ak z.1,.I s0_end,v1,w,A,w1,w2,w3,w4,w5]],Ccu v1 g1 2 Ba l,Ccu A V 3 Bz z.2,Ab g3 1 [[.p o0 g]]]):=by
 refine cgj 1 func384 (Jx.eq_1 ..) ?_;rintro ids ⟨rfl,rfl,rfl,rfl,-⟩ W Y D;refine go ?_;intro _;refine jn (π:=Unit) (λ_=>H1 s0_l s0_end l l1) [0,1,3] (λ_=>[]) (λ_=>[Ab g 10 [[.L 4 Ak s0_l,.I s0_end,v1,w,v2,w1,w2,w3,w4,w5]],Ccu v1 g1 2 Ba l,Ccu v2 g2 3 Bz l1,Ab g3 1 [[.q ids 0 g]],none]) ?_ λ_=>?_
 .intro _;refine Ae (H1.eq_1 ..)<|go ?_;intro Z;refine cG [0] Cl ?_;rintro r1 _ _ _ ⟨rfl,rfl⟩;refine F1 ?_;refine cG [3,0,1] (Adq S) ?_;rintro r2 _ _ _ ⟨rfl,rfl⟩;refine go ?_;intro g4;refine cG [0] Cu ?_;rintro _ _ _ _ ⟨rfl,rfl⟩;refine F1 ?_;refine Ad<|Bv ?_;refine Ajf [0,1,2,3,4,5,6,7,8] ?_;refine Au7 5 [0,4] O<|Arc Vp [r2.1] O (A9 [0])<|Da λhl=>Avk 2 O O O (λ_ _=>(A9 [])) λv3 g5 G=>Avn 1 O<|Cv O (λ_ _=>O) (λK D=>Bi (De G W O O O O te O O O) (D _ _ Bh ?_));clear D K;exact gc
 refine Bo O (λX=>?_) (λX=>?_)
 .refine go ?_;refine cG [0] B4 ?_;rintro _ _ _ _ ⟨rfl,rfl⟩;exact gc
 exact gc
def Ahi{s0_l s0_end}{l1:(List Config)}{h0 o0 o1 o2 w w1 w2 w3 w4 w5 g v1 g1 v2 g2}(G:Av v1 o1 g1 l.length)(A:Av v2 o2 g2 l1.length):CJ1 prog 383 3 h0 [o0,o1,o2] (U4 s0_l s0_end l l1) [.p o0 g] [Ab g 10 [[.L 4 Ak s0_l,.I s0_end,v1,w,v2,w1,w2,w3,w4,w5]],Ccu v1 g1 2 Ba l,Ccu v2 g2 3 Bz l1] o2 (λz=>z.2.length) (λz D=>(.tup [])) (λz D O=>[Ab g 10 [[.L 4 Ak z.1,.I s0_end,v1,w,D,w1,w2,w3,w4,w5]],Ccu v1 g1 2 Ba l,Ccu D O 3 Bz z.2]):=by refine cgj 1 func383 (U4.eq_1 ..) ?_;rintro ids ⟨rfl,rfl,rfl,-⟩ U V W;refine go ?_;intro g3;refine Z6 [0,1,2,3] (Aig G A) ?_;rintro r _ _ _ ⟨X,Y,S,rfl,rfl⟩;exact gc
variable{l1:(List Segment)}
def Agy{most s0_l s0_end}{h0 o0 o1 o2 o3 w w1 w2 w3 w4 w5 g v1 g1 v2 g2 g3}(S:Av v1 o1 g1 l.length)(U:Av v2 o2 g2 l1.length):CJ1 prog 387 4 h0 [o0,o1,o2,o3] (I8 most s0_l s0_end l l1) [.p o0 g,.ptr o0 g 0 5,.I most,.F 388 [.p o3 g3]] [Ab g 10 [[.L 4 Ak s0_l,.I s0_end,v1,w,w1,v2,w2,w3,w4,w5]],Ccu v1 g1 2 Ba l,Ccu v2 g2 5 C3 l1,Ab g3 1 [[.p o0 g]]] o2 (λz=>z.2.length) (λz A=>(.tup [])) (λz A V=>[Ab g 10 [[.L 4 Ak z.1,.I s0_end,v1,w,w1,A,w2,w3,w4,w5]],Ccu v1 g1 2 Ba l,Ccu A V 5 C3 z.2,Ab g3 1 [[.p o0 g]]]):=by
 refine cgj 1 func387 (I8.eq_1 ..) ?_;rintro ids ⟨rfl,rfl,rfl,rfl,-⟩ W Y D;refine go ?_;intro _;refine jn (π:=Unit) (λ_=>Hg s0_l s0_end l l1) [0,1,3] (λ_=>[]) (λ_=>[Ab g 10 [[.L 4 Ak s0_l,.I s0_end,v1,w,w1,v2,w2,w3,w4,w5]],Ccu v1 g1 2 Ba l,Ccu v2 g2 5 C3 l1,Ab g3 1 [[.q ids 0 g]],none]) ?_ λ_=>?_
 .intro _;refine Ae (Hg.eq_1 ..)<|go ?_;intro Z;refine cG [0] Cl ?_;rintro r1 _ _ _ ⟨rfl,rfl⟩;refine F1 ?_;refine cG [3,0,1] (Adl S) ?_;rintro r2 _ _ _ ⟨rfl,rfl⟩;refine go ?_;intro g4;refine cG [0] Cu ?_;rintro _ _ _ _ ⟨rfl,rfl⟩;refine F1 ?_;refine Ad<|Bv ?_;refine Ajf [0,1,2,3,4,5,6,7,8] ?_;refine Au7 5 [0,4] O<|Arc Adf [r2.1] O (A9 [0])<|Da λhl=>Avk 2 O O O (λ_ _=>(A9 [])) λv3 g5 G=>Avn 1 O<|Cv O (λ_ _=>O) (λK D=>Bi (De G W O O O O te O O O) (D _ _ Bh ?_));clear D K;exact gc
 refine Bo O (λX=>?_) (λX=>?_)
 .refine go ?_;refine cG [0] B4 ?_;rintro _ _ _ _ ⟨rfl,rfl⟩;exact gc
 exact gc
def Ag7{s0_l s0_end}{h0 o0 o1 o2 w w1 w2 w3 w4 w5 g v1 g1 v2 g2}(G:Av v1 o1 g1 l.length)(A:Av v2 o2 g2 l1.length):CJ1 prog 386 3 h0 [o0,o1,o2] (Nk s0_l s0_end l l1) [.p o0 g] [Ab g 10 [[.L 4 Ak s0_l,.I s0_end,v1,w,w1,v2,w2,w3,w4,w5]],Ccu v1 g1 2 Ba l,Ccu v2 g2 5 C3 l1] o2 (λz=>z.2.length) (λz D=>(.tup [])) (λz D O=>[Ab g 10 [[.L 4 Ak z.1,.I s0_end,v1,w,w1,D,w2,w3,w4,w5]],Ccu v1 g1 2 Ba l,Ccu D O 5 C3 z.2]):=by refine cgj 1 func386 (Nk.eq_1 ..) ?_;rintro ids ⟨rfl,rfl,rfl,-⟩ U V W;refine go ?_;intro g3;refine Z6 [0,1,2,3] (Agy G A) ?_;rintro r _ _ _ ⟨X,Y,S,rfl,rfl⟩;exact gc
def Aj0{most s0_l s0_end}{l1:(List Route)}{h0 o0 o1 o2 o3 w w1 w2 w3 w4 w5 g v1 g1 v2 g2 g3}(S:Av v1 o1 g1 l.length)(U:Av v2 o2 g2 l1.length):CJ1 prog 390 4 h0 [o0,o1,o2,o3] (Kz most s0_l s0_end l l1) [.p o0 g,.ptr o0 g 0 6,.I most,.F 391 [.p o3 g3]] [Ab g 10 [[.L 4 Ak s0_l,.I s0_end,v1,w,w1,w2,v2,w3,w4,w5]],Ccu v1 g1 2 Ba l,Ccu v2 g2 7 Ed l1,Ab g3 1 [[.p o0 g]]] o2 (λz=>z.2.length) (λz A=>(.tup [])) (λz A V=>[Ab g 10 [[.L 4 Ak z.1,.I s0_end,v1,w,w1,w2,A,w3,w4,w5]],Ccu v1 g1 2 Ba l,Ccu A V 7 Ed z.2,Ab g3 1 [[.p o0 g]]]):=by
 refine cgj 1 func390 (Kz.eq_1 ..) ?_;rintro ids ⟨rfl,rfl,rfl,rfl,-⟩ W Y D;refine go ?_;intro _;refine jn (π:=Unit) (λ_=>Ij s0_l s0_end l l1) [0,1,3] (λ_=>[]) (λ_=>[Ab g 10 [[.L 4 Ak s0_l,.I s0_end,v1,w,w1,w2,v2,w3,w4,w5]],Ccu v1 g1 2 Ba l,Ccu v2 g2 7 Ed l1,Ab g3 1 [[.q ids 0 g]],none]) ?_ λ_=>?_
 .intro _;refine Ae (Ij.eq_1 ..)<|go ?_;intro Z;refine cG [0] Cl ?_;rintro r1 _ _ _ ⟨rfl,rfl⟩;refine F1 ?_;refine cG [3,0,1] (Adi S) ?_;rintro r2 _ _ _ ⟨rfl,rfl⟩;refine go ?_;intro g4;refine cG [0] Cu ?_;rintro _ _ _ _ ⟨rfl,rfl⟩;refine F1 ?_;refine Ad<|Bv ?_;refine Ajf [0,1,2,3,4,5,6,7,8] ?_;refine Au7 5 [0,4] O<|Arc Aiw [r2.1] O (A9 [0])<|Da λhl=>Avk 2 O O O (λ_ _=>(A9 [])) λv3 g5 G=>Avn 1 O<|Cv O (λ_ _=>O) (λK D=>Bi (De G W O O O O te O O O) (D _ _ Bh ?_));clear D K;exact gc
 refine Bo O (λX=>?_) (λX=>?_)
 .refine go ?_;refine cG [0] B4 ?_;rintro _ _ _ _ ⟨rfl,rfl⟩;exact gc
 exact gc
def Ahf{s0_l s0_end}{l1:(List Route)}{h0 o0 o1 o2 w w1 w2 w3 w4 w5 g v1 g1 v2 g2}(G:Av v1 o1 g1 l.length)(A:Av v2 o2 g2 l1.length):CJ1 prog 389 3 h0 [o0,o1,o2] (Np s0_l s0_end l l1) [.p o0 g] [Ab g 10 [[.L 4 Ak s0_l,.I s0_end,v1,w,w1,w2,v2,w3,w4,w5]],Ccu v1 g1 2 Ba l,Ccu v2 g2 7 Ed l1] o2 (λz=>z.2.length) (λz D=>(.tup [])) (λz D O=>[Ab g 10 [[.L 4 Ak z.1,.I s0_end,v1,w,w1,w2,D,w3,w4,w5]],Ccu v1 g1 2 Ba l,Ccu D O 7 Ed z.2]):=by refine cgj 1 func389 (Np.eq_1 ..) ?_;rintro ids ⟨rfl,rfl,rfl,-⟩ U V W;refine go ?_;intro g3;refine Z6 [0,1,2,3] (Aj0 G A) ?_;rintro r _ _ _ ⟨X,Y,S,rfl,rfl⟩;exact gc
def Agm{most s0_l s0_end}{l1:(List Airport)}{h0 o0 o1 o2 o3 w w1 w2 w3 w4 w5 g v1 g1 v2 g2 g3}(S:Av v1 o1 g1 l.length)(U:Av v2 o2 g2 l1.length):CJ1 prog 393 4 h0 [o0,o1,o2,o3] (I2 most s0_l s0_end l l1) [.p o0 g,.ptr o0 g 0 7,.I most,.F 394 [.p o3 g3]] [Ab g 10 [[.L 4 Ak s0_l,.I s0_end,v1,w,w1,w2,w3,v2,w4,w5]],Ccu v1 g1 2 Ba l,Ccu v2 g2 2 Dh l1,Ab g3 1 [[.p o0 g]]] o2 (λz=>z.2.length) (λz A=>(.tup [])) (λz A V=>[Ab g 10 [[.L 4 Ak z.1,.I s0_end,v1,w,w1,w2,w3,A,w4,w5]],Ccu v1 g1 2 Ba l,Ccu A V 2 Dh z.2,Ab g3 1 [[.p o0 g]]]):=by
 refine cgj 1 func393 (I2.eq_1 ..) ?_;rintro ids ⟨rfl,rfl,rfl,rfl,-⟩ W Y D;refine go ?_;intro _;refine jn (π:=Unit) (λ_=>He s0_l s0_end l l1) [0,1,3] (λ_=>[]) (λ_=>[Ab g 10 [[.L 4 Ak s0_l,.I s0_end,v1,w,w1,w2,w3,v2,w4,w5]],Ccu v1 g1 2 Ba l,Ccu v2 g2 2 Dh l1,Ab g3 1 [[.q ids 0 g]],none]) ?_ λ_=>?_
 .intro _;refine Ae (He.eq_1 ..)<|go ?_;intro Z;refine cG [0] Cl ?_;rintro r1 _ _ _ ⟨rfl,rfl⟩;refine F1 ?_;refine cG [3,0,1] (Ad0 S) ?_;rintro r2 _ _ _ ⟨rfl,rfl⟩;refine go ?_;intro g4;refine cG [0] Cu ?_;rintro _ _ _ _ ⟨rfl,rfl⟩;refine F1 ?_;refine Ad<|Bv ?_;refine Ajf [0,1,2,3,4,5,6,7,8] ?_;refine Au7 5 [0,4] O<|Arc Anr [r2.1] O (A9 [0])<|Da λhl=>Avk 2 O O O (λ_ _=>(A9 [])) λv3 g5 G=>Avn 1 O<|Cv O (λ_ _=>O) (λK D=>Bi (De G W O O O O te O O O) (D _ _ Bh ?_));clear D K;exact gc
 refine Bo O (λX=>?_) (λX=>?_)
 .refine go ?_;refine cG [0] B4 ?_;rintro _ _ _ _ ⟨rfl,rfl⟩;exact gc
 exact gc
def Agu{s0_l s0_end}{l1:(List Airport)}{h0 o0 o1 o2 w w1 w2 w3 w4 w5 g v1 g1 v2 g2}(G:Av v1 o1 g1 l.length)(A:Av v2 o2 g2 l1.length):CJ1 prog 392 3 h0 [o0,o1,o2] (Nh s0_l s0_end l l1) [.p o0 g] [Ab g 10 [[.L 4 Ak s0_l,.I s0_end,v1,w,w1,w2,w3,v2,w4,w5]],Ccu v1 g1 2 Ba l,Ccu v2 g2 2 Dh l1] o2 (λz=>z.2.length) (λz D=>(.tup [])) (λz D O=>[Ab g 10 [[.L 4 Ak z.1,.I s0_end,v1,w,w1,w2,w3,D,w4,w5]],Ccu v1 g1 2 Ba l,Ccu D O 2 Dh z.2]):=by refine cgj 1 func392 (Nh.eq_1 ..) ?_;rintro ids ⟨rfl,rfl,rfl,-⟩ U V W;refine go ?_;intro g3;refine Z6 [0,1,2,3] (Agm G A) ?_;rintro r _ _ _ ⟨X,Y,S,rfl,rfl⟩;exact gc
end Go.Am
