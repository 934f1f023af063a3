import Derived.Test.YtjajmhcejacahaaGreatDoorU8
set_option linter.all false
set_option maxHeartbeats 4000000
set_option maxRecDepth 100000
open Go.Proofs.Tryz
namespace Go.Am
open Go Go.Proofs Go.Proofs.Tryz
abbrev FO:=@Bs.weak
attribute [local irreducible] WR WO WP WU Nu
def Ab0 (a:List Int)(D:Int):Vv prog 246 [(.K a),(.I D)] (Mv a D) 1 rJ:=by
 refine Gq 0 func246 O (by decide) O O λh0 ids G=>D8 (Ae (Mv.eq_1 ..) ?_);refine go ?_;refine E4 O (λhc=>?_) (λhc=>?_)
 .refine go ?_;exact Kq O O (Gz func246 G)
 refine go ?_;intro _;refine Cb _ O O O O ((Asr _ _) _) (λv _=>Gz func246 G) λr _=>go ?_;refine Bo O (λV=>?_) (λV=>?_)
 .refine go ?_;exact Kq O O (Gz func246 G)
 refine A8<|Ah<|Bp (.int .u64 r.2)<|Bl (.I (wi r.2))<|Cf λW=>Bhq (y:=(0:Int)) (e:=rJ) (j:=0) G O O O O te te O O W.1 W.2.1 W.2.2 O O O O O λv g vH=>go ?_;intro X;refine Bde G O O O O vH O O te te O X λY=>Ov 1 O<|Ad<|Bv ?_;refine Ai<|Ra (λz=>Qu z) (λz=>λfr h=>Av v (ix ids 0) g z.length/\fr=Ac [(7,v)]/\h=hp h0 ids [Ccu v g 1 rJ z]) ?_ λZ=>?_
 .rintro z fr h ⟨aa,rfl,rfl⟩;refine Ae (Qu.eq_1 _)<|go ?_;exact Gg func246 G O O aa O
 refine A3<|Gh [7,8] ?_;refine Ko (P:=prog) _ _ (Ct λn A=>λfr h=>Av v (ix ids 0) g A.length/\fr=Ac [(7,v),(8,.I n)]/\h=hp h0 ids [Ccu v g 1 rJ A]) ((a.length:Int),a++(List.replicate (Int.toNat (wi r.2)) (0:Int)).drop a.length) ?_ ?_
 .exact⟨Y,O,O⟩
 rintro vW hW ⟨n,A⟩ fr h ⟨S,rfl,rfl⟩;refine Ae (m':=Ma n A) O (Ae (Ma.eq_1 ..) ?_);refine go ?_;intro _;refine E4 O (λab=>?_) (λab=>?_)
 .refine A8<|A3<|Ajf [0,1,2,3,4,5,6,7,8,9] ?_;refine Avn 3 O<|Da λhs=>Az _ O O (Ea (Bg7 G O S O te te O hs))<|go ?_;intro U;refine Az _ O O (Ea (Bhl G O S O te te O U))<|Cz O O (λ_ _=>O) (λK hK=>A7s G O O O O S O te te O (Dy hs) (Dy U) λac=>hK _ _ (A9 []) ?_);clear hK K;refine go ?_;exact D1 (Hl (hW _ _ _ ⟨ac,O,O⟩))
 refine Di O<|N7<|D1 (Z _ _ _ ⟨S,O,O⟩)
instance A6j (a:List Int)(z:Int):CP prog 246 [(.K a),(.I z)] (Mv a z) (λ(x:List Int)=>(AV.sl 1 (List.map rJ x))):=(Ab0 a z).cp (λx=>Dw x)
def Art {l vfrom h0 o0 o1}(z:Ids h0 [o0,o1] 2):Vl l vfrom≠.bad->Bs prog 247 [.L 1 (rM (AV.int .u64) AV.bool) l,.I vfrom] (hp h0 [o0,o1] [none,none]) (Kn (λD v h'=>∃(A:Nat),∃(g3:Nat),v=(.F 284 [.p o0 A,.p o1 g3])/\h'=hp h0 [o0,o1] [Ab A 1 [[.L 1 (rM (AV.int .u64) AV.bool) l]],Ab g3 1 [[.I vfrom]]]) h0 (Vl l vfrom)):=by refine Cd 0 func247 (Vl.eq_1 ..) z ?_;rintro ids ⟨rfl,rfl,-⟩ G O S;exact gc
instance A8x (d other):CP prog 307 [.mapi (mE (AV.int .u64) AV.bool d),.mapi (mE (AV.int .u64) AV.bool other)] (Pl d other) (.I):=by
 refine ci 19 1 func307 (Pl.eq_1 ..) λh0 ids G hF=>go ?_;refine Bcl (j:=0) G O O O O te O λv x S=>go ?_;refine Gh [1,4,7] ?_;refine Bit (P:=prog) d (λa=>λn=>Gs other a n) (((λn=>.ok n)):Int->R Int) (λY=>λn=>λfr h=>∃(U:AO),A0n (ix ids 0) (λp:Int×Bool=>((AV.int .u64 p.1),AV.bool p.2)) d v U Y/\fr=Ac [(1,.mapi (mE (AV.int .u64) AV.bool other)),(4,.I n),(7,v)]/\h=hp h0 ids [some U]) 0 (λ_ hL=>Akp other hL) ?_ ?_
 .exact⟨x,S,O,O⟩
 rintro Y W Z n fr h ⟨U,D,rfl,rfl⟩ m_ hm V;refine go ?_;refine Bgc G O O O O O D (λhZ=>?_) (λa z x2 X A=>?_)
 .obtain rfl:=hm hZ;refine go ?_;refine Ck 1<|gc
 obtain rfl:=V a z X;refine Bb3 (m':=Gs other a n) O (Bb3 (Gs.eq_1 ..) ?_);refine go ?_;refine Bcp G O O O O A<|go ?_;refine Au _ O (G0 (T2 (eK:=(AV.int .u64)) (eV:=AV.bool) (zv:=false) O te te te Atd O).1)<|go ?_;refine N8 O (λhc=>?_) (λhc=>?_)
 .refine go ?_;exact D1 (Z4 (Z z n _ _ ⟨x2,A.ok,O,O⟩))
 refine go ?_;exact D1 (Z4 (Z z (wi (n+1)) _ _ ⟨x2,A.ok,O,O⟩))
instance Au3 (d other):CP prog 285 [.mapi (mE (AV.int .u64) AV.bool d),.mapi (mE (AV.int .u64) AV.bool other)] (X9 d other) AV.bool:=by refine ci 35 0 func285 (X9.eq_1 ..) λh0 ids z A=>gc
variable{σ_:Type}
def Ap1(b:(List (List (Int×Bool))))(c:Int)(V:Int->σ_->R σ_)(G:σ_->Aa->Prop)(X:YF)(Y Z:Nat)(af:∀(S:Int),YOk prog X Y Z [(.I S)] G (V S))(aa:∀(S:Int) (s:σ_) (v:PV),V S s≠.pan v)(s_:σ_)(ab:Aa)(ag:G s_ ab):Pg b c V s_≠.bad->Bs prog 284 [(.yld X Y Z),(.cp [(.L 1 (rM (AV.int .u64) AV.bool) b)] 0),(.cp [(.I c)] 0)] ab (Am6 G (Pg b c V s_)):=by
 refine Ans func284 O (by decide) O O<|D8 (Ae (Pg.eq_1 ..) ?_);refine go ?_;intro ac;refine Gh [0,1,2,6,7] ?_;refine Ld (P:=prog) b _ _ (λj=>λs=>λfr h=>∃(hh:Aa),G s hh/\fr=Ac [(0,.yld X Y Z),(1,.cp [.L 1 (rM (AV.int .u64) AV.bool) b] 0),(2,.cp [.I c] 0),(6,.I (b.length:Int)),(7,.I j)]/\hh=h) s_ ?_ ?_ ?_
 .exact⟨_,ag,O,O⟩
 .rintro j a ha W hW s fr h ⟨hh,D,rfl,rfl⟩;refine Ae (m':=Oq b c V j a s) O (Ae (Oq.eq_1 ..) ?_);refine Ah<|Bl (.B (decide ((j:Int)<(b.length:Int))))<|Ad<|Ai<|Co O (AT.2 (A6 ha))<|A8<|Ai<|A3<|Ah<|Bp (.I j)<|Cm (.I j)<|Ad<|Ai<|Ra (λs2=>O2 s2) (λs2=>λfr h=>∃(U:Aa),G s2 U/\fr=Ac [(0,.yld X Y Z),(1,.cp [.L 1 (rM (AV.int .u64) AV.bool) b] 0),(2,.cp [.I c] 0),(6,.I (b.length:Int)),(7,.I j),(29,.B false)]/\U=h) ?_ λhJ=>?_
  .rintro s2 fr h ⟨U,ad,rfl,rfl⟩;refine Ae (O2.eq_1 _)<|go ?_;exact D1 (Z4 (hW _ _ _ ⟨_,ad,O,O⟩)) (.r4 (.o (ic ha ac)))
  refine go ?_;refine On (λA=>?_) (λA=>?_)
  .refine Jr (.L 1 (rM (AV.int .u64) AV.bool) b) O O (cb A) O (A7 (Y9 te O))<|Jr (.I c) O O (cb A) O (A7 (Y9 te O))<|Ap5 λa1 hz ah=>Jr (.cp [.mapi (mE (AV.int .u64) AV.bool a1)] 0) O O (cb A) O (Ay (Ajb te te O hz ah))<|Jr (.mapi (mE (AV.int .u64) AV.bool a1)) O O (cb A) O (A7 (Y9 te O))<|Jr (.L 1 (rM (AV.int .u64) AV.bool) b) O O (cb A) O (A7 (Y9 te O))<|Jr (.I j) O O (cb A) O B0<|Jr (.cp [.mapi (mE (AV.int .u64) AV.bool a)] 0) O O (cb A) O (Ay (Ex te te O ha))<|Jr (.mapi (mE (AV.int .u64) AV.bool a)) O O (cb A) O (A7 (Y9 te O))<|D7 _ O (C6 O (cb A)) O O O ((Au3 a1 a) _) (λv _ _ _=>Avu func284 D) (Zc O (Aej O Ef)) λr _=>Az _ O O (Aer (cb A) O)<|Az (.B r) O O B0<|On (λz=>?_) (λz=>?_)
   .refine Jr (.yld X Y Z) O O (cb z) O B0<|Jr (.I j) O O (cb z) O B0<|A2c (b:=V (j:Int)) (hw:=C6 (tj:=24) O (cb z)) O O O O D (af (j:Int)) (aa (j:Int) _) (λ_=>(Zc O (Zc O Ef))) λs1 ai aj ae=>?_;refine Jr (.B false) O O (cb z) O (Bfz O)<|Az _ O O (Aer (cb z) O)<|Fp<|D1 (hJ _ _ _ ⟨_,ae,O,O⟩)
   refine Tf O O (cb z) O O<|Tf O O (cb z) O O<|Awf O O (cb z) O O<|Tf O O (cb z) O O<|Az _ O O (Aer (cb z) O)<|Fp<|D1 (hJ _ _ _ ⟨_,D,O,O⟩)
  refine Tf O O (cb A) O O<|Tf O O (cb A) O O<|Tf O O (cb A) O O<|Tf O O (cb A) O O<|Tf O O (cb A) O O<|Tf O O (cb A) O O<|Tf O O (cb A) O O<|Tf O O (cb A) O O<|Awf O O (cb A) O O<|Az _ O O (Aer (cb A) O)<|Az (.B false) O O B0<|Tf O O O O O<|Tf O O O O O<|Awf O O O O O<|Tf O O O O O<|Az _ O O (Aer O O)<|Fp<|D1 (hJ _ _ _ ⟨_,D,O,O⟩)
 rintro s fr h ⟨hh,D,rfl,rfl⟩;refine go ?_;exact Arn func284 O D
def Am3 (l:(List (List (Int×Bool))))(G:Int):Vv prog 184 [(.L 1 (rM (AV.int .u64) AV.bool) l),(.I G)] (Mw l G) 1 rJ:=by
 refine Gq 7 func184 O (by decide) O O λh0 ids z=>D8 (Ae (Mw.eq_1 ..) ?_);refine Av9<|go ?_;refine Be3 Ot [-1]<|go ?_;intro _;refine Aon (j:=0) [.K [-1],.I (l.length:Int)] z O O O O O O ((Ab0 _ _) _ _ (z.at O O)) (λv _=>H5 (Gz func184 z)) λr _ v g vH=>?_;refine D9 1 te λg1=>Cw (De vH z O O O O te O O O)<|Ad<|Bv ?_;refine Ah<|Zm 2 [1] O<|Tp λa hz Z=>Au _ O (Ay (Rb z O vH O te te O hz Z))<|Cw (Xw z O O vH O Z te O O O O O O) ?_;have ak:=GG (i:=(Int.toNat G)) (y:=0) vH;have ar:=BO (a:=0) (A6 Z);refine go ?_;refine Blu (e:=rJ) (L:=[G]) (j:=2) z O O O O te te O O O O O (.cons (AB _) .nil) (λx=>Dw x) O O O λv1 g2 aa=>D9 3 te λg3=>Cw (De aa z O O O O te O O O)<|Ad<|Bv ?_;refine Ai<|Ra (λl5=>Qn l5) (λl5=>λfr h=>Av v (ix ids 0) g l5.length/\fr=Ac [(5,.q ids 1 g1)]/\h=hp h0 ids [Ccu v g 1 rJ l5,Ab g1 1 [[v]],none,none,none,none,none,none]) ?_ λhJ=>?_
 .rintro l5 fr h ⟨ab,rfl,rfl⟩;refine Ae (Qn.eq_1 _)<|go ?_;exact Ais (H5 (A5u func184 z O O ab O))
 refine A3<|Gh [0,5,6] ?_;refine Ko (P:=prog) _ _ (Ct λl1 l2=>λfr h=>∃(v2:AV),∃(g4:Nat),Av v (ix ids 0) g l1.length/\Av v2 (ix ids 2) g4 l2.length/\fr=Ac [(0,.L 1 (rM (AV.int .u64) AV.bool) l),(5,.q ids 1 g1),(6,.q ids 3 g3)]/\h=hp h0 ids [Ccu v g 1 rJ l1,Ab g1 1 [[v]],Ccu v2 g4 1 rJ l2,Ab g3 1 [[v2]],none,none,none,none]) ((r.set (Int.toNat G) 0),[G]) ?_ ?_
 .exact⟨v1,g2,ak,aa,O,O⟩
 rintro vW hW ⟨l1,l2⟩ fr h ⟨v2,g4,ac,ad,rfl,rfl⟩;refine Ae (m':=Mi l l1 l2) O (Ae (Mi.eq_1 ..) ?_);refine go ?_;intro _;refine E4 O (λhc=>?_) (λhc=>?_)
 .refine go ?_;refine A0a<|Ah<|Zm 1 [3] O<|Tp λa1 al am=>Au _ O (Ay (Rb z O ad O te te O al am))<|go ?_;intro g5 hs;refine A9v O z O O O ad O O te te O hs λv3 g6 ae=>Cw (De ae z O O O O te O O O)<|go ?_;refine A1r<|go ?_;refine Dj [5,6] z O O (Art (by exact z.sub' O O)) O O O O O O (λv _=>H5 (Gz func184 z)) ?_;rintro _ _ _ _ ⟨g7,g8,rfl,rfl⟩;refine Gj [5,6] z O O O ?_;refine D6<|go ?_;refine Aaw [Ccu v g 1 rJ l1,Ab g1 1 [[v]],Ccu v3 g6 1 rJ (l2.drop 1),Ab g3 1 [[v3]],Ab g5 1 [[.I a1]],none,none,none] [(0,.L 1 (rM (AV.int .u64) AV.bool) l),(5,.q ids 1 g1),(6,.q ids 3 g3),(7,.q ids 4 g5),(28,.F 284 [.cp [.L 1 (rM (AV.int .u64) AV.bool) l] 0,.cp [.I a1] 0])] z O (.keep (.keep (.keep (.keep (.keep (.drop (.drop (.keep .nil)))))))) (.s (.s (.s (.s (.cons (.funcL .nil (.cons (.ptrL (z.at O O) (z.at O O) O (Pp _)) (.cons (.ptrL (z.at O O) (z.at O O) O (Pp _)) .nil))) .nil)))))<|Gh [0,5,6,7,28] ?_;refine Acd (P:=prog) 7 (λ(gL:Nat) (af:Loop)=>Ct λV W=>λ(h1:Aa)=>∃(D:AV),∃(U:Nat),Av v (ix ids 0) g V.length/\Av D (ix ids 2) U W.length/\h1=hp h0 ids [Ccu v g 1 rJ V,Ab g1 1 [[v]],Ccu D U 1 rJ W,Ab g3 1 [[D]],Ab g5 1 [[.I a1]],none,none,some (.blk gL (.loop af))]:Nat->Loop->((List Int)×(List Int))->Aa->Prop) O O z O O O λgL au af Y ag=>⟨?_,?_,?_,?_⟩
  .refine Ap1 l a1 _ _ _ _ _ (λa2=>Aky Y (by decide) O ag ?_ ?_) (λ_ _ _=>R.np_ne _ _) _ _ ?_
   .rintro⟨V,W⟩ _ ⟨D,U,A,S,rfl⟩;exact z.at O O
   .rintro av ⟨V,W⟩ _ ⟨D,U,A,S,rfl⟩;refine Ax7 (D8 (Ae (m':=Ir a1 a2 V W) O (Ae (Ir.eq_1 ..) ?_)));refine Apx [(29,.I a2),(0,.L 1 (rM (AV.int .u64) AV.bool) l),(5,.q ids 1 g1),(6,.q ids 3 g3),(7,.q ids 4 g5),(28,.F 284 [.cp [.L 1 (rM (AV.int .u64) AV.bool) l] 0,.cp [.I a1] 0])] (Abl _ _ _)<|go ?_;refine Uz z O O O Y.ready<|Bv ?_;refine A3<|Ai<|Ah<|Zm 2 [1] O<|Tp λa3 ah X=>Au _ O (Ay (Rb z O A O te te O ah X))<|go ?_;refine E4 O (λan=>?_) (λan=>?_)
    .refine Di O<|Ai5 z O O O ⟨D,U,A,S,O⟩
    refine A8<|Ai<|Ajf [0,1,2,3,4,5,6,7,8] ?_;refine Au7 4 [1,1,4] O<|Ap5 λa4 ao ai=>Az _ O O (Ay (Rb z O A O te te O ao ai))<|Az _ O O (A7 (Ajg z O A O ai te O))<|Avn 1 O<|Az _ O O (Ay (Rb z O A O te te O ah X))<|Cv O (λ_ _=>O) (λK hK=>Bi (Xw z O O A O X te O O O O O O) (hK _ _ Bh ?_));clear hK K;have ap:=GG (i:=(Int.toNat a2)) (y:=(IntKind.wrap .i64 (a4+1))) A;have aw:=BO (a:=(IntKind.wrap .i64 (a4+1))) (A6 X);refine Fp<|Bv ?_;refine A4<|Zm 2 [3] O<|Bgg Ot 2 [a2] O λv5 aq aj=>Cw (De aj z O O O O te O O O)<|go ?_;exact Ai5 z O O O ⟨v5,aq,ap,aj,O⟩
   exact⟨v3,g6,ac,ae,O⟩
  .rintro⟨V,W⟩ _ ⟨D,U,A,S,rfl⟩;exact z.at O O
  .rintro⟨V,W⟩ _ _ ⟨D,U,A,S,rfl⟩;refine Amk [Ccu v g 1 rJ V,Ab g1 1 [[v]],Ccu D U 1 rJ W,Ab g3 1 [[D]],Ab g5 1 [[.I a1]],none,none,none] z O O O<|Ci<|A7p<|Ci<|Ck 16<|D1 (Hl (hW _ _ _ ⟨D,U,A,S,O,O⟩))
  rintro v6 _ ⟨V,W⟩ _ ⟨D,U,A,S,rfl⟩;refine Amd [Ccu v g 1 rJ V,Ab g1 1 [[v]],Ccu D U 1 rJ W,Ab g3 1 [[D]],Ab g5 1 [[.I a1]],none,none,none] z O O O<|H5 (Gz func184 z)
 refine Di O<|N7<|Ck 12<|D1 (hJ _ _ _ ⟨ac,O,O⟩)
instance A52 (l:(List (List (Int×Bool))))(z:Int):CP prog 184 [(.L 1 (rM (AV.int .u64) AV.bool) l),(.I z)] (Mw l z) (λ(x:List Int)=>(AV.sl 1 (List.map rJ x))):=(Am3 l z).cp (λx=>Dw x)
instance Bck (a):CP prog 84 [.A (Aj a)] (Wo a) (λp=>AV.tup [.I p.1,.I p.2.1,.B p.2.2.1,.I p.2.2.2]):=by
 refine ci 21 1 func84 (Wo.eq_1 _) λh0 ids G S=>go ?_;intro g r _;refine N8 O (λA=>?_) (λA=>?_)
 .refine go ?_;intro r1 _ D _;refine E4 O (λz=>?_) (λz=>?_)
  .refine go ?_;exact rz
  refine go ?_;exact rz
 refine go ?_;exact rz
instance Bel (ok wrong):CP prog 85 [.B ok,.I wrong] (Pr ok wrong) (.I):=by refine ci 8 0 func85 (Pr.eq_1 ..) λh0 ids z A=>gc
instance A8a (a):CP prog 83 [.A (Aj a)] (P0 a) (.I):=by refine ci 17 1 func83 (P0.eq_1 _) λh0 ids z A=>gc
instance Bgx:CP prog 185 [] (Ae3) (λx=>(AV.agg (An8 x))):=by refine ci 4 1 func185 Ae3.eq_1 λh0 ids z A=>Ah<|D9 0 te λg=>Ad<|Bv ?_;refine Ah<|Ov 2 O<|go ?_;exact Vi (a:=({fValid:=(#v[249,250,251,253,254]:(Vector Nat 5))}:T250)) (vs:=[.A ((rV rF) (#v[249,250,251,253,254]:(Vector Nat 5))++[])]) func185 z (Aw (Ar z O O O te O) A0) (.aggL (Bai _ .nil))
instance Ar0 (a r):CP prog 248 [.A (Aj a),.A (Bk r)] (Y1 a r) AV.bool:=by refine ci 5 2 func248 (Y1.eq_1 ..) λh0 ids z A=>gc
instance Bcc (s):CP prog 169 [.A (Ax s)] (Y5 s) AV.bool:=by refine ci 18 1 func169 (Y5.eq_1 _) λh0 ids z A=>gc
instance Axm (s):CP prog 236 [.L 2 Ax s,.F 169 []] (L9 s) (.I):=by
 refine ci 19 0 func236 (L9.eq_1 _) λh0 ids z A=>go ?_;intro _;refine Ph [0,1,7] 8 (λ_=>[]) (λ_=>[]) ?_ ?_
 .intro j a _ D _ W _;refine Ae (Oh.eq_1 ..)<|gc
 intro _;exact gc
instance Auq (s):CP prog 168 [.L 2 Ax s,.F 169 []] (Jl s) AV.bool:=by refine ci 9 0 func168 (Jl.eq_1 _) λh0 ids z A=>gc
instance Avg (l):CP prog 69 [.L 2 Ax l] (T4 l) (.I):=by refine ci 5 0 func69 (T4.eq_1 _) λh0 ids z A=>gc
instance Ar1 (a r):CP prog 249 [.A (Aj a),.A (Bk r)] (Zs a r) AV.bool:=by
 refine ci 28 2 func249 (Zs.eq_1 ..) λh0 ids W X=>Ah<|Ip 0 (.A (Aj a)) λg=>Ip 1 (.A (Bk r)) λg1=>Ov 1 O<|Ad<|Bv ?_;refine Ah<|Zm 4 [1] O<|Oc 4 8 12 [2,3] (.B ((r.N==0)&&(decide (r.Airport>=0)))) O ?_ (λz _ S=>?_) (λz _ S=>?_)
 .refine Ov 1 O<|Oc 7 13 20 [3] (.B (((r.N==0)&&(decide (r.Airport>=0)))&&(decide (r.Airport<(a.Airports.length:Int))))) O ?_ (λA _ D=>?_) (λA _ D=>?_)
  .refine Ov 1 O<|G9 6 21 27 [] .bool O ?_ (λU _ G=>?_) (λU _ G=>?_)
   .intro b;refine Ov 1 O<|Ad<|rt
   .refine Zm 2 [1] O<|Bj1 O O O (λ_ _=>O) (λK V=>Dd (e:=Ax) (L:=[r.Hours]) te te O O O O O (.cons (AB _) .nil) (λx=>Gu x) O O (V _ _ ?_));clear V K;refine oc ((Avg _) _) λr1 _=>Ov 2 O<|A6m (G (r1==0))
   refine Ov 6 O<|A6m (G false)
  .refine Zm 4 [1,0] O<|F5 (.I (a.Airports.length:Int)) O O O (D4 (Jy te))<|Ov 2 O<|wj D (Afb A)
  refine Ov 7 O<|wj D (Afc A)
 .refine Zm 4 [1] O<|wj S (Afb z)
 refine Ov 4 O<|wj S (Afc z)
instance Avp (r):CP prog 251 [.A (Bk r)] (Q5 r) AV.bool:=by
 refine ci 12 1 func251 (Q5.eq_1 _) λh0 ids D G=>go ?_;intro g;refine Oc 5 6 11 [] (.B ((r.Airport==0)&&((r.Hours.From==0)&&(r.Hours.To==0)))) O ?_ (λz _ A=>?_) (λz _ A=>?_)
 .exact gc
 .refine Zm 3 [0] O<|F5 (.B ((r.Hours.From==0)&&(r.Hours.To==0))) O O O (Bb (Bhd O O) O Bhn)<|gc
 exact gc
instance Ars (a r):CP prog 250 [.A (Aj a),.A (Bk r)] (Zd a r) AV.bool:=by refine ci 12 2 func250 (Zd.eq_1 ..) λh0 ids z A=>gc
instance Arx (a r):CP prog 252 [.A (Aj a),.A (Bk r)] (Zf a r) AV.bool:=by refine ci 17 2 func252 (Zf.eq_1 ..) λh0 ids z A=>gc
instance Ary (a r):CP prog 253 [.A (Aj a),.A (Bk r)] (Zj a r) AV.bool:=by
 refine ci 23 2 func253 (Zj.eq_1 ..) λh0 ids V W=>Ah<|Ip 0 (.A (Aj a)) λg=>Ip 1 (.A (Bk r)) λg1=>Ov 1 O<|Ad<|Bv ?_;refine Ah<|Zm 1 [1] O<|oc ((Avp r) _) λr1 _=>Ov 1 O<|Oc 4 7 11 [3] (.B (r1&&(decide (r.N>=0)))) O ?_ (λz _ G=>?_) (λz _ G=>?_)
 .refine Ov 1 O<|Oc 4 12 16 [3] (.B ((r1&&(decide (r.N>=0)))&&(decide (r.N<=60)))) O ?_ (λA _ D=>?_) (λA _ D=>?_)
  .refine Ov 1 O<|Oc 5 17 22 [] (.B (((r1&&(decide (r.N>=0)))&&(decide (r.N<=60)))&&((Int.tmod r.N 10)==0))) O ?_ (λS _ U=>?_) (λS _ U=>?_)
   .exact gc
   .refine Zm 2 [1] O<|F5 (.I (Int.tmod r.N 10)) O O O (Bb O O (Amc O (by decide)))<|gc
   exact gc
  .refine Zm 4 [1] O<|wj D (Afb A)
  refine Ov 4 O<|wj D (Afc A)
 .refine Zm 4 [1] O<|wj G (Afb z)
 refine Ov 4 O<|wj G (Afc z)
def Ar4 {r s0 s1 h0 o0 o1 g g1}:CJS prog 186 2 h0 [o0,o1] (Vd r s0 s1) [.A (Bk r),.p o0 g,.p o1 g1] [Ab g 8 [Aj s0],Ab g1 5 [An8 s1]] .B:=by
 refine cgj 1 func186 (Vd.eq_1 ..) ?_;rintro ids ⟨rfl,rfl,-⟩ S U V;refine go ?_;intro W;refine On (λG=>?_) (λG=>?_)
 .refine U2 (t:=8) G O<|gc
 refine U2 (t:=8) G O<|Au7 5 [2] O ?_;refine On (λz=>?_) (λz=>?_)
 .refine U2 (t:=13) z O<|gc
 refine U2 (t:=13) z O<|Au7 5 [2] O ?_;refine On (λA=>?_) (λA=>?_)
 .refine U2 (t:=18) A O<|gc
 refine U2 (t:=18) A O<|go ?_;refine On (λD=>?_) (λD=>?_)
 .refine U2 (t:=26) D O<|gc
 refine U2 (t:=26) D O<|go ?_;intro hi;refine Jr (.ptr (ix ids 1) g1 0 (Int.toNat r.Kind)) O O O O (Ay (Ho te te O hi))<|Jr (fnE (Ap s1.fValid (Int.toNat r.Kind) 0)) O O O O (A7 (Ar S O O O te (Et (λ_=>O) (Dy hi) 0)))<|Au7 2 [0,2] O ?_;refine Ku (λhf=>?_) (λ_=>?_)
 .refine Atz (t:=31) hf O<|cP ((Ar0 s0 r) _) λr1 _=>?_;exact gc
 refine Ku (λhf=>?_) (λ_=>?_)
 .refine Atz (t:=31) hf O<|cP ((Ar1 s0 r) _) λr2 _=>?_;exact gc
 refine Ku (λhf=>?_) (λ_=>?_)
 .refine Atz (t:=31) hf O<|cP ((Ars s0 r) _) λX _=>?_;exact gc
 refine Ku (λhf=>?_) (λ_=>?_)
 .refine Atz (t:=31) hf O<|cP ((Arx s0 r) _) λr4 _=>?_;exact gc
 refine Ku (λhf=>?_) (λ_=>?_)
 .refine Atz (t:=31) hf O<|cP ((Ary s0 r) _) λY _=>?_;exact gc
 exact Ajq
def Af6 {s s0 s1 h0 o0 o1 g g1}:CJS prog 202 2 h0 [o0,o1] (Lq s s0 s1) [.L 8 Bk s,.F 186 [.p o0 g,.p o1 g1]] [Ab g 8 [Aj s0],Ab g1 5 [An8 s1]] .I:=by
 refine cgj 0 func202 (Lq.eq_1 ..) ?_;rintro ids ⟨rfl,rfl,-⟩ z A D;refine go ?_;intro _;refine Ph [0,1,7] 8 (λ_=>[]) (λ_=>[Ab g 8 [Aj s0],Ab g1 5 [An8 s1]]) ?_ ?_
 .intro j a _ G _ W _;refine Ae (Oy.eq_1 ..)<|go ?_;refine cG [0,1] Ar4 ?_;rintro r _ _ _ ⟨rfl,rfl⟩;exact gc
 intro _;exact gc
def Ab4 {s s0 s1 h0 o0 o1 g g1}:CJS prog 187 2 h0 [o0,o1] (Jn s s0 s1) [.L 8 Bk s,.F 186 [.p o0 g,.p o1 g1]] [Ab g 8 [Aj s0],Ab g1 5 [An8 s1]] .B:=by refine cgj 0 func187 (Jn.eq_1 ..) ?_;rintro ids ⟨rfl,rfl,-⟩ z A D;refine go ?_;refine cG [0,1] Af6 ?_;rintro r _ _ _ ⟨rfl,rfl⟩;exact gc
instance Bhe (a):CP prog 86 [.A (Aj a)] (Tv a) (.I):=by
 refine ci 17 2 func86 (Tv.eq_1 _) λh0 ids z G=>go ?_;intro g r _ g1;refine Bjf (.A (An8 r)) (Boi r) ?_;refine Ad<|Bv ?_;refine Ah<|Ov 2 O<|Ad<|Ai<|Ah<|Zm 2 [0] O<|E7 a.Rules<|Ov 2 O<|G9 5 11 16 [] .bool O ?_ (λA _ D=>?_) (λA _ D=>?_)
 .refine go ?_;intro b;exact gc
 .exact gc
 refine Zm 3 [0] O<|Dj [0,1] z O O (Ab4 (by exact z.sub' O O)) O O O (C6 O O) O O (λv _=>Es func86 z) ?_;rintro r1 _ _ _ ⟨rfl,rfl⟩;refine Gj [0,1] z O O O ?_;refine D6<|gc
def Asl {n h0 o0}(z:Ids h0 [o0] 1):Wy n≠.bad->Bs prog 192 [.I n] (hp h0 [o0] [none]) (Kn (λA v h'=>∃(g1:Nat),v=(.F 255 [.p o0 g1])/\h'=hp h0 [o0] [Ab g1 1 [[.I n]]]) h0 (Wy n)):=by refine Cd 0 func192 (Wy.eq_1 _) z ?_;rintro ids ⟨rfl,-⟩ D G O;exact gc
def Ar3{ε_:Type}(b:Int)(W:Int->Int->σ_->R (σ_ ⊕ ε_))(z:(σ_ ⊕ ε_)->Aa->Prop)(X:YF)(Y Z:Nat)(ah:∀(A:Int) (D:Int),Bc5 prog X Y Z [(.I A),(.I D)] z (W A D))(aa:∀(A:Int) (D:Int) (s:σ_) (v:PV),W A D s≠.pan v)(s_:σ_)(ab:Aa)(ai:z (.inl s_) ab):Q8 b W s_≠.bad->Bs prog 255 [(.yld X Y Z),(.cp [(.I b)] 0)] ab (Am6 z (Q8 b W s_)):=by
 refine Ans func255 O (by decide) O O<|D8 (Ae (Q8.eq_1 ..) ?_);refine Ah<|Bl (.I b)<|Bp (.I 0)<|Ad<|Ra (λs4=>Us s4) (λs4=>λfr h=>∃(S:Aa),z (.inl s4) S/\fr=Ac []/\S=h) ?_ λaj=>?_
 .rintro s4 fr h ⟨S,ac,rfl,rfl⟩;refine Ae (Us.eq_1 _)<|Arn func255 O ac
 refine A3<|Gh [0,1,5,6] ?_;refine Ko (P:=prog) _ _ (Ct λx s=>λfr h=>∃(hh:Aa),z (.inl s) hh/\fr=Ac [(0,.yld X Y Z),(1,.cp [.I b] 0),(5,.I b),(6,.I x)]/\hh=h) (0,s_) ?_ ?_
 .exact⟨_,ai,O,O⟩
 rintro vW hW ⟨x,s⟩ fr h ⟨hh,ad,rfl,rfl⟩;refine Ae (m':=Qh b W x s) O (Ae (Qh.eq_1 ..) ?_);refine go ?_;refine E4 O (λhc=>?_) (λhc=>?_)
 .refine A8<|Ai<|A3<|Ah<|Bp (.I x)<|Cm (.I x)<|Ad<|Ah<|Bp (.I x)<|Bl (.I (wi (x+1)))<|Cm (.I (wi (x+1)))<|Ad<|Ra (λs3=>Qi x s3) (λs3=>λfr h=>∃(U:Aa),z (.inl s3) U/\fr=Ac [(0,.yld X Y Z),(1,.cp [.I b] 0),(5,.I b),(6,.I x)]/\U=h) ?_ λhJ=>?_
  .rintro s3 fr h ⟨U,ae,rfl,rfl⟩;refine Ae (Qi.eq_1 ..)<|go ?_;exact D1 (Hl (hW _ _ _ ⟨_,ae,O,O⟩))
  refine A3<|Gh [0,1,3,4,5,6] ?_
  refine Ko (P:=prog) _ _ (Ct λk s1=>λfr h=>∃(V:Aa),z (.inl s1) V/\fr=Ac [(0,.yld X Y Z),(1,.cp [.I b] 0),(3,.I x),(4,.I k),(5,.I b),(6,.I x)]/\V=h) ((wi (x+1)),s) ?_ ?_
  .exact⟨_,ad,O,O⟩
  rintro am ak ⟨k,s1⟩ fr h ⟨V,G,rfl,rfl⟩
  refine Ae (m':=Qb b W x k s1) O (Ae (Qb.eq_1 ..) ?_)
  refine go ?_
  refine E4 O (λal=>?_) (λal=>?_)
  .refine go ?_;refine A81 O O O G (ah x k) (aa x k _) (λs2 hb an af=>?_) (λe ao ap ag=>?_)
   .refine Bl (.B false)<|go ?_;exact D1 (Hl (ak _ _ _ ⟨_,af,O,O⟩))
   refine Bl (.B true)<|Ad<|Gv true O<|N7<|Aud<|N7<|Aud<|Bgz func255 O ag
  refine Di O<|N7<|A07<|D1 (hJ _ _ _ ⟨_,G,O,O⟩)
 refine go ?_;exact D1 (aj _ _ _ ⟨_,ad,O,O⟩)
instance Asv (a y):CP prog 193 [.A (Bk a),.A (Bk y)] (Wl a y) AV.bool:=by refine ci 60 2 func193 (Wl.eq_1 ..) λh0 ids z A=>gc
instance Bcr (a):CP prog 254 [.I a] (Ss a) AV.bool:=by refine ci 6 0 func254 (Ss.eq_1 _) λh0 ids z A=>gc
instance Af7 (a y):CP prog 190 [.I a,.I y] (Ly a y) (.I):=by refine ci 20 0 func190 (Ly.eq_1 ..) λh0 ids z A=>gc
instance Abn (s1 s2):CP prog 191 [.K s1,.K s2] (Lb s1 s2) (.I):=by
 refine ci 36 0 func191 (Lb.eq_1 ..) λh0 ids z A=>go ?_;intro _;refine Ph [0,1,9,10] 11 (λ_=>[]) (λ_=>[]) ?_ ?_
 .intro j a _ D _ W _;refine Ae (U6.eq_1 ..)<|gc
 intro _;exact gc
instance Aou (vals):CP prog 189 [.K vals] (Y8 vals) (.I):=by
 refine ci 18 0 func189 (Y8.eq_1 _) λh0 ids z A=>go ?_;intro _;refine Ph [3,6,7] 8 (λ_=>[]) (λ_=>[]) ?_ ?_
 .intro j a _ D _ W _;refine Ae (Ag8.eq_1 _)<|gc
 intro _;exact gc
def Aod {set h0 o0 g}:CJ0 prog 188 1 h0 [o0] (P2 set) [.K set,.p o0 g] [Ab g 1 [[.emp]]] (λG=>(.tup [])) (λG=>[Ab g 1 [[.K G]]]):=by
 refine cgj 0 func188 (P2.eq_1 _) ?_;rintro ids ⟨rfl,-⟩ S V D;refine Ai<|jn (λx=>G5 set x) [0,1] (λx=>[(23,.B x)]) (λx=>[Ab g 1 [[.emp]]]) ?_ λ_=>?_
 .intro x;refine Ae (G5.eq_1 ..)<|By ?_;refine Bo O (λU=>?_) (λU=>?_)
  .exact gc
  refine A8<|Al8 [Ab g 1 [[.K []]]] func188 S O O O (.fz (.cons (.emp _) .nil) O (Bc O Rm) .nil) (.same _) ⟨O,O⟩
 refine Ajf [0,1,2,3,4,5,6,7,8,9,10,11,13,14,12,15,16,17,18,19,20] ?_;refine go ?_;refine On (λA=>?_) (λA=>?_)
 .refine U2 (t:=6) A O<|Au7 1 [0] O ?_;refine Jr (.I 0) O O O O (D4 (Arh te))<|Avn 2 O ?_;refine On (λz=>?_) (λz=>?_)
  .refine U2 (t:=10) z O<|gc
  refine U2 (t:=10) z O<|go ?_;refine Jr (.I 0) O O O O (D4 (Arh te))<|Au7 2 [0] O ?_;refine cP ((Af7 _ 0) _) (hpd:=(A9 [0])) λr _=>?_;refine cP (λA=>FO (.s (.cons (.emp _) .nil)) ((Abn set _) _ A)) λr1 _=>?_;refine A9h O O O O (λ_ _=>O) (λK D=>Dd (e:=rJ) (L:=[r,r1]) te te O O O O O (.cons (AB _) (.cons (AB _) .nil)) (λx=>Dw x) O O (D _ _ Bh ?_));clear D K;refine cP ((Aou _) _) λr2 _=>?_;exact gc
 refine U2 (t:=6) A O<|gc
def S8 (z:List Int)(b:List Rule):Vv prog 256 [(.K z),(.cp [(.L 8 Bk b)] 0)] (K8 z b) 2 Ax:=by
 refine Gq 0 func256 O (by decide) O O λh0 ids V=>D8 (Ae (K8.eq_1 ..) ?_);refine go ?_;intro _;refine Kl (g0:=0) [1,6,7] 8 0 (λA=>A) (λA v=>[(3,v)]) (λA v g=>[Ccu v g 2 Ax A]) .nil ?_ ?_
 .intro j a A v g G _ S W Y;refine Ae (Z2.eq_1 ..)<|By ?_;refine Ah<|Ov 1 O<|Ad<|Ai<|Fs (t:=6) (L:=z) O λU=>Co O (AT.2 (A6 G))<|A8<|Ai<|A3<|Ah<|Au _ O (Ay (Ex te te O G))<|Ov 2 O<|Ad<|A4<|Ov 3 O<|Tp λa1 hz D=>Au _ O (Ay (Ajb te te O hz D))<|Ov 2 O<|Bgg Gu 0 [a1.Hours] O λv1 g1 X=>?_;exact gc
 intro A v g S;refine go ?_;exact Gg func256 V O O S O
instance Bcd (z:List Int)(b:List Rule):CP prog 256 [(.K z),(.cp [(.L 8 Bk b)] 0)] (K8 z b) (λ(x:List Span)=>(AV.sl 2 (List.map Ax x))):=(S8 z b).cp (λx=>Gu x)
def Abt (s:List Span):Vv prog 286 [(.L 2 Ax s)] (P4 s) 2 Ax:=by
 refine Gq 0 func286 O (by decide) O O λh0 ids z=>Uo (P4.eq_1 _)<|go ?_;refine Aet O te O λc D=>Ad ?_;by_cases A:s.length*16<=Bj;case neg=>rw[if_neg A];exact Ajj
 rw[if_pos A];refine Gv c O ?_;cases c with
 |true=>have G:=D rfl;subst G;refine Ah<|Ov 1 O<|Ad<|Gg (a:=[]) (v:=.emp) (g:=0) func286 z O O .nil O
 |false=>refine A8<|Ah<|Aj7 O te te<|Ov 1 O<|Ce (e:=Ax) (L:=[]) (L2:=s) (v:=.emp) (g:=0) (st:=2) (j:=0) z O O O O .nil O (B7 O) te te O te O O O (by simpa using A) λv g H=>Ov 1 O<|Ad<|Gg func286 z O O H O
instance A7k (s:List Span):CP prog 286 [(.L 2 Ax s)] (P4 s) (λx=>.L 2 Ax x):=(Abt s).cp (λx=>Gu x)
def Aa0 {l h0 o0}(A:Ids h0 [o0] 1):Qx l≠.bad->Bs prog 291 [.L 2 Ax l] (hp h0 [o0] [none]) (Kn (λU v h'=>∃(G:Nat),v=(.p o0 G)/\h'=hp h0 [o0] [Ab G 1440 [(rV rB) U]]) h0 (Qx l)):=by
 refine Cd 1 func291 (Qx.eq_1 _) A ?_;rintro ids ⟨rfl,-⟩ S X Y;refine Bv ?_;refine Ah<|Ov 1 O<|Ad<|Ah<|O0 (j:=0) (row:=((rV rB) (G3 1440 false))) S O O O O te (Wm (λ_=>O) _).symm ((Oz (λx=>A6f x) O) _) λg=>go ?_;intro _;refine Ui [3,7,8] 9 (λo=>[]) (λo=>[Ab g 1440 [(rV rB) o],none]) ?_ ?_
 .intro j a o Z _ W _;refine Ae (Wx.eq_1 ..)<|go ?_;intro g1;refine Au _ O (A03 O)<|Ov 1 O<|Ad<|jn (λz=>Agt z) [3,7,8,9] (λz=>[]) (λz=>[Ab g 1440 [(rV rB) z],none]) ?_ λ_=>?_
  .intro z;refine Ae (Agt.eq_1 _)<|gc
  refine A3<|lpL [3,5,7,8,9] (Ct λm D=>[(6,.I m)]) (Ct λm D=>[Ab g 1440 [(rV rB) D],Ab g1 2 [Ax a]]) ?_;rintro⟨m,D⟩ W _;refine Ae (Po.eq_1 ..)<|go ?_;refine Au _ O (Bap O)<|go ?_;refine E4 O (λV=>?_) (λV=>?_)
  .refine go ?_;intro hi;refine Au _ O (Ay (Ho te te O hi))<|Cw (Yo (e:=rB) (λ_=>O) S O O O te O O (Dy hi) O O O)<|gc
  refine go ?_;refine Ck 2<|gc
 intro o;exact gc
instance Arr (a y):CP prog 287 [.B a,.B y] (Ael a y) AV.bool:=by refine ci 10 0 func287 (Ael.eq_1 ..) λh0 ids z A=>gc
def Ac8 {s h0 o0 o1 g}(z:Ids h0 [o0,o1] 2):Jf s≠.bad->Bs prog 293 [.p o0 g] (hp h0 [o0,o1] [Ab g 1440 [(rV rB) s],none]) (Kn (λD v h'=>∃(A:Nat),v=(.F 320 [.p o1 A])/\h'=hp h0 [o0,o1] [Ab g 1440 [(rV rB) s],Ab A 1 [[.p o0 g]]]) h0 (Jf s)):=by refine Cd 0 func293 (Jf.eq_1 _) z ?_;rintro ids ⟨rfl,rfl,-⟩ G O S;exact gc
def Amy(b:(Vector Bool 1440))(Z:Span->σ_->R σ_)(G:σ_->Aa->Prop)(y_:YF)(o_ g_:Nat)(ag:∀(S:Span),YOk prog y_ o_ g_ [(.A (Ax S))] G (Z S))(aa:∀(S:Span) (s:σ_) (v:PV),Z S s≠.pan v)(s_:σ_)(ab:Aa)(ah:G s_ ab):Le b Z s_≠.bad->Bs prog 320 [(.yld y_ o_ g_),(.cp [(.cp ((rV rB) b) 0)] 0)] ab (Am6 G (Le b Z s_)):=by
 refine Ans func320 O (by decide) O O<|D8 (Ae (Le.eq_1 ..) ?_);refine Ah<|Cm (.I 0)<|Ad<|Ra (λs4=>H7 s4) (λs4=>λfr h=>∃(V:Aa),G s4 V/\fr=Ac []/\V=h) ?_ λai=>?_
 .rintro s4 fr h ⟨V,ac,rfl,rfl⟩;refine Ae (H7.eq_1 _)<|Arn func320 O ac
 refine A3<|Gh [0,1,3] ?_;refine Ko (P:=prog) _ _ (Ct λz s=>λfr h=>∃(hh:Aa),G s hh/\fr=Ac [(0,.yld y_ o_ g_),(1,.cp [.cp ((rV rB) b) 0] 0),(3,.I z)]/\hh=h) (0,s_) ?_ ?_
 .exact⟨_,ah,O,O⟩
 rintro vW hW ⟨z,s⟩ fr h ⟨hh,W,rfl,rfl⟩;refine Ae (m':=C4 b Z z s) O (Ae (C4.eq_1 ..) ?_);refine go ?_;refine E4 O (λhc=>?_) (λhc=>?_)
 .refine go ?_;intro hi;refine Au _ O (Ay (Axj te te O hi))<|Au _ O (A7 (Y9 te (Et (λ_=>O) (Dy hi) false)))<|go ?_;refine N8 O (λaj=>?_) (λaj=>?_)
  .refine A8<|Ah<|Bp (.I z)<|Bl (.I (wi (z+1)))<|Cm (.I (wi (z+1)))<|Ad<|Ai<|Ra (Ct λA s2=>H9 Z z A s2) (Ct λA s2=>λfr h=>∃(X:Aa),G s2 X/\fr=Ac [(0,.yld y_ o_ g_),(1,.cp [.cp ((rV rB) b) 0] 0),(3,.I z),(4,.I A)]/\X=h) ?_ λak=>?_
   .rintro⟨A,s2⟩ fr h ⟨X,ad,rfl,rfl⟩;refine Ae (H9.eq_1 ..)<|go ?_;refine Bec O O O ad (ag ({From:=z,To:=A}:Span)) (aa ({From:=z,To:=A}:Span) _) λs3 ao ap ae=>Bl (.B false)<|go ?_;exact D1 (Hl (hW _ _ _ ⟨_,ae,O,O⟩))
   refine A3<|Gh [0,1,3,4] ?_
   refine Ko (P:=prog) _ _ (Ct λD s1=>λfr h=>∃(Y:Aa),G s1 Y/\fr=Ac [(0,.yld y_ o_ g_),(1,.cp [.cp ((rV rB) b) 0] 0),(3,.I z),(4,.I D)]/\Y=h) ((wi (z+1)),s) ?_ ?_
   .exact⟨_,W,O,O⟩
   rintro aq al ⟨D,s1⟩ fr h ⟨Y,U,rfl,rfl⟩
   refine Ae (m':=Dz b D s1) O (Ae (Dz.eq_1 ..) ?_)
   refine Ai<|Ah<|Bp (.I D)<|Bl (.B (decide (D<1440)))<|Bp (.B (decide (D<1440)))<|G9 6 19 25 [0,1,3,4] .bool O ?_ (λam _ hJ=>?_) (λam _ hJ=>?_)
   .intro b1;refine Ad<|Bo O (λan=>?_) (λan=>?_)
    .refine go ?_;exact D1 (Hl (al _ _ _ ⟨_,U,O,O⟩))
    refine Di O<|N7<|D1 (ak _ _ _ ⟨_,U,O,O⟩)
   .refine go ?_;intro af;refine F5 (.cp ((rV rB) b) (Int.toNat D)) O O O (Ay (Axj te te O af))<|F5 (.B (Ap b (Int.toNat D) false)) O O O (A7 (Y9 te (Et (λ_=>O) (Dy af) false)))<|gc
   exact gc
  refine go ?_;exact D1 (Hl (hW _ _ _ ⟨_,W,O,O⟩))
 refine go ?_;exact D1 (ai _ _ _ ⟨_,W,O,O⟩)
def Ady {s1 h0 o0 o1 o2 g g1}(W:Ids h0 [o0,o1,o2] 3):Hd s1≠.bad->Bs prog 319 [.emp,.F 320 [.p o0 g]] (hp h0 [o0,o1,o2] [Ab g 1 [[.p o1 g1]],Ab g1 1440 [(rV rB) s1],none]) (Kn (λY v h'=>∃(X:AV),∃(Z:Nat),Av X o2 Z Y.length/\X=v/\h'=hp h0 [o0,o1,o2] [none,none,Ccu X Z 2 Ax Y]) h0 (Hd s1)):=by
 refine Cd 3 func319 (Hd.eq_1 _) W ?_;rintro ids ⟨rfl,rfl,rfl,-⟩ z hF hK;refine Bv ?_;refine Av9<|Ah<|Ip 3 .emp λD=>go ?_;refine Aaw [none,none,none,Ab D 1 [[.emp]],none,none] [(2,.q ids 3 D),(6,.F 320 [.cp [.cp ((rV rB) s1) 0] 0])] z O (.drop (.drop (.keep (.keep (.keep (.keep .nil)))))) (.s (.cons (.funcL .nil (.cons (.ptrL (z.at O O) (z.at O O) O (.cons (.ptrL (z.at O O) (z.at O O) ((Oz (λx=>A6f x) O) _).1 (Pp _)) .nil)) .nil)) .nil))<|Gh [2,6] ?_;refine Acd (P:=prog) 4 (λ(gL:Nat) (G:Loop)=>λl=>λ(h1:Aa)=>∃(v1:AV),∃(g3:Nat),Av v1 (ix ids 2) g3 l.length/\h1=hp h0 ids [none,none,Ccu v1 g3 2 Ax l,Ab D 1 [[v1]],some (.blk gL (.loop G)),none]:Nat->Loop->(List Span)->Aa->Prop) O O z O O O λgL aa G A S=>⟨?_,?_,?_,?_⟩
 .refine Amy s1 _ _ _ _ _ (λa=>Aky A (by decide) O S ?_ ?_) (λ_ _ _=>R.np_ne _ _) _ _ ?_
  .rintro l _ ⟨v1,g3,U,rfl⟩;exact z.at O O
  .rintro ab l _ ⟨v1,g3,U,rfl⟩;refine Ax7 (D8 (Ae (m':=F7 a l) O (Ae (F7.eq_1 ..) ?_)));refine Apx [(7,.A (Ax a)),(2,.q ids 3 D),(6,.F 320 [.cp [.cp ((rV rB) s1) 0] 0])] (Abl _ _ _)<|A4<|D9 5 te λg4=>Gk (.A (Ax a)) ?_;refine Ad<|Bv ?_;refine Uz z O O O A.ready<|Bv ?_;refine A3<|A4<|Zm 2 [3,5] O<|Bgg Gu 2 [a] O λv2 g5 V=>Cw (De V z O O O O te O O O)<|go ?_;refine Ck 32<|Ai5 z O O O ⟨v2,g5,V,O⟩
  exact⟨.emp,0,.nil,O⟩
 .rintro l _ ⟨v1,g3,U,rfl⟩;exact z.at O O
 .rintro l _ _ ⟨v1,g3,U,rfl⟩;refine Amk [none,none,Ccu v1 g3 2 Ax l,Ab D 1 [[v1]],none,none] z O O O<|go ?_;exact Ais (H5 (Bi2 [none,none,Ccu v1 g3 2 Ax l] func319 z O O O (.keep (.keep (.keep (.drop (.keep (.keep .nil)))))) (.same _) ⟨v1,g3,U,O,O⟩))
 rintro v3 _ l _ ⟨v1,g3,U,rfl⟩;refine Amd [none,none,Ccu v1 g3 2 Ax l,Ab D 1 [[v1]],none,none] z O O O<|H5 (Cr func319 z)
def Vt {s1 h0 o0 o1 o2 g g1}(z:Ids h0 [o0,o1,o2] 3):E5 s1≠.bad->Bs prog 292 [.F 320 [.p o0 g]] (hp h0 [o0,o1,o2] [Ab g 1 [[.p o1 g1]],Ab g1 1440 [(rV rB) s1],none]) (Kn (λA v h'=>∃(v2:AV),∃(g3:Nat),Av v2 o2 g3 A.length/\v2=v/\h'=hp h0 [o0,o1,o2] [none,none,Ccu v2 g3 2 Ax A]) h0 (E5 s1)):=by refine Cd 0 func292 (E5.eq_1 _) z ?_;rintro ids ⟨rfl,rfl,rfl,-⟩ D G O;refine go ?_;refine cG [0,1,2] Ady ?_;rintro r _ _ _ ⟨v1,S,U,rfl,rfl⟩;exact gc
def Ade (a:List Span)(b:List Span):Vv prog 263 [(.L 2 Ax a),(.L 2 Ax b),(.F 287 [])] (N5 a b) 2 Ax:=by
 refine Gq 3 func263 O (by decide) O O λh0 ids z=>D8 (Ae (N5.eq_1 ..) ?_);refine go ?_;refine Dj [1] z O O (Aa0 (by exact z.sub' O O)) O O O O O O (λv _=>Gz func263 z) ?_;rintro d _ _ _ ⟨g,rfl,rfl⟩;refine Gj [1] z O O O ?_;refine D6<|Ov 1 O<|Dj [2] z O O (Aa0 (by exact z.sub' O O)) O O O O O O (λv _=>Gz func263 z) ?_;rintro e _ _ _ ⟨g1,rfl,rfl⟩;refine Gj [2] z O O O ?_;refine D6<|go ?_;refine Ui [2,7,8] 14 (λo=>[]) (λo=>[none,Ab g 1440 [(rV rB) o],Ab g1 1440 [(rV rB) e],none]) ?_ ?_
 .intro j a1 o A _ W _;refine Ae (W9.eq_1 ..)<|By ?_;refine Ah<|Ov 1 O<|Ad<|Ai<|Co O (by have:=(Cs A).1;omega)<|A8<|Ai<|A3<|Ah<|Ov 2 O<|Ad<|Ajf [0,1,2,3,4,5,6,7,8,9,10,11,12,14,13,15,16] ?_;refine Avn 6 O<|Az _ O O (Ay (C8 te te O (Cs A).1))<|Az _ O O (A7 (Ar z O O O te (Et (λ_=>O) (Cs A).1 false)))<|Avn 3 O<|Az _ O O (Ay (C8 te te O (Cs A).1))<|Az _ O O (A7 (Ar z O O O te (Et (λ_=>O) (Cs A).1 false)))<|Avn 1 O<|D7 _ O O O O O ((Arr _ _) _) (λv _ _ _=>Gz func263 z) (A9 []) λr _=>Az _ O O (Ay (C8 te te O (Cs A).1))<|Cv O (λ_ _=>O) (λK D=>Bi (Yo (e:=rB) (λ_=>O) z O O O te O O (Cs A).1 O O O) (D _ _ Bh ?_));clear D K;exact gc
 intro o;refine By ?_;refine Ah<|Ov 1 O<|Ad<|Ai<|Eb O (by simp)<|go ?_;refine Dj [1,3] z O O (Ac8 (by exact z.sub' O O)) O O O O O O (λv _=>Gz func263 z) ?_;rintro _ _ _ _ ⟨S,rfl,rfl⟩;refine Gj [1,3] z O O O ?_;refine D6<|Dj [3,1,0] z O O (Vt (by exact z.sub' O O)) O O O O O O (λv _=>Gz func263 z) ?_;rintro r2 _ _ _ ⟨v,g3,G,rfl,rfl⟩;refine Gj [3,1,0] z O O O ?_;refine D6<|go ?_;exact Gg func263 z O O G O
instance A8d (a:List Span)(b:List Span):CP prog 263 [(.L 2 Ax a),(.L 2 Ax b),(.F 287 [])] (N5 a b) (λ(x:List Span)=>(AV.sl 2 (List.map Ax x))):=(Ade a b).cp (λx=>Gu x)
def Akv (a:List Span)(b:List Span):Vv prog 259 [(.L 2 Ax a),(.L 2 Ax b)] (W5 a b) 2 Ax:=by refine Gq 0 func259 O (by decide) O O λh0 ids z=>D8 (Ae (Avc _ _) ?_);refine go ?_;refine Aon (j:=0) [.L 2 Ax a,.L 2 Ax b,.F 287 []] z O O O O O O ((Ade a b) _ _ (z.at O O)) (λv _=>Gz func259 z) λr _ v g A=>go ?_;exact Gg func259 z O O A O
instance Bg2 (a:List Span)(b:List Span):CP prog 259 [(.L 2 Ax a),(.L 2 Ax b)] (W5 a b) (λ(x:List Span)=>(AV.sl 2 (List.map Ax x))):=(Akv a b).cp (λx=>Gu x)
instance Axt (covered some1):CP prog 257 [.L 2 Ax covered,.L 2 Ax some1] (Zn covered some1) (.I):=by
 refine ci 57 3 func257 (Zn.eq_1 ..) λh0 ids G hF=>Ah<|Ov 1 O<|Ad<|Ah<|Ov 1 O<|Aon (j:=2) [.L 2 Ax covered] G O O O O O O ((Abt covered) _ _ (G.at O O)) (λv _=>Es func257 G) λl _ v g vH=>go ?_;refine Gh [1,4,5] ?_;refine Ko (P:=prog) _ _ (Ct λn l1=>λfr h=>∃(v1:AV),∃(g1:Nat),Av v1 (ix ids 2) g1 l1.length/\fr=Ac [(1,.L 2 Ax some1),(4,.I n),(5,v1)]/\h=hp h0 ids [none,none,Ccu v1 g1 2 Ax l1]) (0,l) ?_ ?_
 .exact⟨v,g,vH,O,O⟩
 rintro vW hW ⟨n,l1⟩ fr h ⟨v1,g1,U,rfl,rfl⟩;refine Ae (m':=W0 some1 n l1) O (Ae (W0.eq_1 ..) ?_);refine go ?_;refine Be3 Gu [({From:=0,To:=1440}:Span)]<|Ov 1 O<|oc (Vv.lend (Akv [({From:=0,To:=1440}:Span)] l1) (EW (.s (.cons (Ca U (G.at O O) O (λx=>Gu x)) .nil))) (λx=>Gu x) (λx c S=>by simp only[Ax,AN,BW,or_false]at S;rcases S with rfl|rfl<;>exact .int _ _)) λrest _=>?_;refine go ?_;intro _;refine Bo O (λS=>?_) (λS=>?_)
 .exact gc
 refine go ?_;intro g2 _;refine Ui [1,4,5,6,7,21,22] 23 (Ct λz A=>[]) (Ct λz A=>[Ab g2 2 [[.I z,.I A]],none,Ccu v1 g1 2 Ax l1]) ?_ ?_
 .rintro j a ⟨z,A⟩ ha _ W _;refine Ae (Ahh.eq_1 ..)<|By ?_;refine Ah<|Ov 1 O<|Ad<|Ai<|Fs (t:=1) (L:=some1) O λaa=>Co O (AT.2 (A6 ha))<|A8<|Ai<|A3<|Ah<|Au _ O (Ay (Ex te te O ha))<|Ov 1 O<|D9 1 te λg3=>Gk (.A (Ax a)) ?_;refine Ad<|Bv ?_;refine Ai<|jn (λD=>Sp z A a D) [1,4,5,6,7,9,21,22,23] (λD=>[(45,.B D)]) (λD=>[Ab g2 2 [[.I z,.I A]],Ab g3 2 [Ax a],Ccu v1 g1 2 Ax l1]) ?_ λ_=>?_
  .intro D;refine Ae (Sp.eq_1 ..)<|By ?_;refine Bo O (λV=>?_) (λV=>?_)
   .refine go ?_;refine Ck 2<|gc
   refine go ?_;refine Ck 2<|gc
  refine go ?_;intro a1 hz ab;refine On (λX=>?_) (λX=>?_)
  .refine U2 (t:=34) X O<|go ?_;refine Jr (.I (if A>a1.From then A else a1.From)) O O O O (A03 O)<|gc
  refine U2 (t:=34) X O<|gc
 rintro⟨z,A⟩;refine go ?_;refine Bo O (λY=>?_) (λY=>?_)
 .exact gc
 refine A8<|Ah<|Zm 2 [0] O<|Bgg Gu 2 [({From:=z,To:=A}:Span)] O λv2 g4 Z=>go ?_;refine Ck 1<|D1 (Hl (hW _ _ _ ⟨v2,g4,Z,O,O⟩))
def Acv (s:List Int):Vv prog 258 [(.K s)] (Rl s) 1 rJ:=by
 refine Gq 0 func258 O (by decide) O O λh0 ids z=>Uo (Rl.eq_1 _)<|go ?_;refine Aet O te O λc D=>Ad ?_;by_cases A:s.length*8<=Bj;case neg=>rw[if_neg A];exact Ajj
 rw[if_pos A];refine Gv c O ?_;cases c with
 |true=>have G:=D rfl;subst G;refine Ah<|Ov 1 O<|Ad<|Gg (a:=[]) (v:=.emp) (g:=0) func258 z O O .nil O
 |false=>refine A8<|Ah<|Aj7 O te te<|Ov 1 O<|Ce (e:=rJ) (L:=[]) (L2:=s) (v:=.emp) (g:=0) (st:=1) (j:=0) z O O O O .nil O (B7 O) te te O te O O O (by simpa using A) λv g H=>Ov 1 O<|Ad<|Gg func258 z O O H O
instance A8k (s:List Int):CP prog 258 [(.K s)] (Rl s) (λx=>.L 1 rJ x):=(Acv s).cp (λx=>Dw x)
instance Avo (l some1):CP prog 194 [.L 8 Bk l,.K some1] (Aan l some1) (λx=>(AV.sl 1 (List.map rJ x))):=by
 refine ci 61 2 func194 (Aan.eq_1 ..) λh0 ids V hF=>go ?_;intro g;refine A0a<|go ?_;refine oc (Vv.lend (S8 some1 l) (EW (.s (.cons (.ptrL (V.at O O) O O (Pp _)) .nil))) (λx=>Gu x) (λx c X=>by simp only[Ax,AN,BW,or_false]at X;rcases X with rfl|rfl<;>exact .int _ _)) λr _=>?_;refine oc (λhb=>FO (.cons (.emp _) .s1) ((Axt _ r) _ hb)) λmany _=>go ?_;refine E4 O (λX=>?_) (λX=>?_)
 .refine go ?_;exact rt (hz:=by exact .emp _)
 refine go ?_;refine A1r<|Ai<|Ra (λU=>Yz U) (λU=>λfr h=>fr=Ac [(4,.K U)]/\h=hp h0 ids [none,none]) ?_ λY=>?_
 .rintro U fr h ⟨rfl,rfl⟩;refine Ae (Yz.eq_1 _)<|gc
 refine A3<|Baz [(1,.K some1),(4,.K []),(5,.F 256 [.q ids 0 g]),(6,.I many)] (HN _) (.s (.cons (.emp _) .s2)) O O<|Ko (P:=prog) _ _ (Ct λS set=>λfr h=>fr=Ac [(1,.K S),(4,.K set),(5,.F 256 [.q ids 0 g]),(6,.I many)]/\h=hp h0 ids [Ab g 1 [[.L 8 Bk l]],none]) (some1,[]) ?_ ?_
 .exact⟨O,O⟩
 rintro vW hW ⟨S,set⟩ fr h ⟨rfl,rfl⟩;refine Ae (m':=Vh l many S set) O (Ae (Vh.eq_1 ..) ?_);refine go ?_;intro _;refine E4 O (λaa=>?_) (λaa=>?_)
 .refine A8<|Ra (Ct λz D=>Zi z D) (Ct λz D=>λfr h=>∃(v2:AV),∃(g3:Nat),Av v2 (ix ids 1) g3 D.length/\fr=Ac [(1,.K z),(4,v2),(5,.F 256 [.q ids 0 g]),(6,.I many)]/\h=hp h0 ids [Ab g 1 [[.L 8 Bk l]],Ccu v2 g3 1 rJ D]) ?_ λab=>?_
  .rintro⟨z,D⟩ fr h ⟨v2,g3,ac,rfl,rfl⟩;refine Ae (Zi.eq_1 ..)<|Baz [(1,.K z),(4,.K D),(5,.F 256 [.q ids 0 g]),(6,.I many)] (Drops.sub (.keep (.drop .nil)) V.len) (.s (.cons (Ca ac (V.at O O) (V.at O O) (λx=>Dw x)) .s2)) O O<|Hl<|hW (z,D) _ _<|⟨O,O⟩
  refine go ?_
  intro _
  refine Ph [5,6,22,23] 24 (Ct λA G=>[(1,.K A),(4,.K G)]) (Ct λA G=>[Ab g 1 [[.L 8 Bk l]],none]) ?_ ?_
  .rintro j a ⟨A,G⟩ ha _ W _;refine Ae (Aen.eq_1 ..)<|By ?_;refine Ah<|Ov 1 O<|Ad<|Ai<|Fs (t:=22) (L:=S) O λae=>Co O (AT.2 (A6 ha))<|A8<|Ai<|A3<|Ah<|Ov 1 O<|Au _ O (Ay (Ex te te O ha))<|Ov 3 O<|Ad<|Ah<|Ov 1 O<|Aon (j:=1) [.K G] V O O O O O O ((Acv G) _ _ (V.at O O)) (λv _=>Es func194 V) λr1 _ v g1 vH=>Ov 1 O ?_;refine Bgg Ot 1 [a] O λv1 g2 Z=>Ov 1 O<|Ad<|Bv ?_;refine Ai<|Ajf [0,1,3,4,5,6,7,2,8,9,10] ?_;refine go ?_;intro hs;refine Ll (Vv.lend (S8 (r1++[a]) l) (EW (.cons (Ca Z (V.at O O) O (λx=>Dw x)) (.cons (.ptrL (V.at O O) O O (Pp _)) .nil))) (λx=>Gu x) (λx c X=>by simp only[Ax,AN,BW,or_false]at X;rcases X with rfl|rfl<;>exact .int _ _)) (hpd:=(Ag O (Ea (Am0 te te O hs)) (Ag O (Bb O O O) (Ag O B0 (Ag O B0 (Ag O B0 (Q7 O Ef))))))) λr2 _=>?_;refine Ll (Vv.lend (S8 (A.drop (Int.toNat (wi ((j:Int)+1)))) l) (EW (.s (.cons (.ptrL (V.at O O) O O (Pp _)) .nil))) (λx=>Gu x) (λx c X=>by simp only[Ax,AN,BW,or_false]at X;rcases X with rfl|rfl<;>exact .int _ _)) λr3 _=>?_;refine go ?_;intro n _;refine Bo O (λad=>?_) (λad=>?_)
   .refine go ?_;intro af;exact D1 (ab ((A.drop (Int.toNat (wi ((j:Int)+1)))),r1++[a]) _ _ ⟨v1,g2,Z,O,O⟩)
   refine go ?_;refine Ck 2<|gc
  rintro⟨A,G⟩
  refine Ae (Awj _ _ _)<|Ae (Bjx _ _ _)<|By ?_
  refine Ah<|Ov 1 O<|Ad<|Ai<|Eb O (CF _)<|Di O<|Di O<|N7<|Ck 1<|D1 (Y _ _ _ ⟨O,O⟩)
 refine Di O<|N7<|Ck 1<|D1 (Y _ _ _ ⟨O,O⟩)
def Aol {set s h0 o0 g}:CJ0 prog 188 1 h0 [o0] (Qg set s) [.K set,.p o0 g] [Ab g 1 [[.K s]]] (λG=>(.tup [])) (λG=>[Ab g 1 [[.K G]]]):=by
 refine cgj 0 func188 (Qg.eq_1 ..) ?_;rintro ids ⟨rfl,-⟩ S U A;refine Ai<|jn (λx=>G7 set s x) [0,1] (λx=>[(23,.B x)]) (λx=>[Ab g 1 [[.K s]]]) ?_ λ_=>?_
 .intro x;refine Ae (G7.eq_1 ..)<|gc
 refine Ajf [0,1,2,3,4,5,6,7,8,9,10,11,13,14,12,15,16,17,18,19,20] ?_;refine go ?_;refine On (λD=>?_) (λD=>?_)
 .refine U2 (t:=6) D O<|go ?_;refine On (λz=>?_) (λz=>?_)
  .refine U2 (t:=10) z O<|gc
  refine U2 (t:=10) z O<|Avn 1 O ?_;refine Jr (.I (set.length:Int)) O O O O (D4 (Jy te))<|Au7 1 [0] O ?_;refine Jr (.I (s.length:Int)) O O O O (D4 (Jy te))<|Au7 2 [0] O ?_;refine cP ((Af7 _ _) _) (hpd:=(A9 [0])) λr _=>?_;refine cP ((Abn set s) _) λr1 _=>?_;refine A9h O O O O (λ_ _=>O) (λK A=>Dd (e:=rJ) (L:=[r,r1]) te te O O O O O (.cons (AB _) (.cons (AB _) .nil)) (λx=>Dw x) O O (A _ _ Bh ?_));clear A K;refine cP ((Aou _) _) λr2 _=>?_;exact gc
 refine U2 (t:=6) D O<|gc
instance Bfi (a):CP prog 88 [.A (Aj a)] (Xz a) (λp=>AV.tup [.K p.1,.I p.2]):=by
 refine ci 90 7 func88 (Xz.eq_1 _) λh0 ids z hF=>Av9<|go ?_;intro g g1 e _;refine Bo O (λhc=>?_) (λhc=>?_)
 .refine go ?_;exact Ais (H5 (Bba func88 z (Aw (Ar z O O O te O) (Ht A0)) (.tupL (.cons (.emp _) .s1))))
 refine go ?_;intro D _;refine Dj [3] z O O (Asl (by exact z.sub' O O)) O O O O O O (λv _=>H5 (Es func88 z)) ?_;rintro _ _ _ _ ⟨g3,rfl,rfl⟩;refine Gj [3] z O O O ?_;refine D6<|Ad<|Bv ?_;refine Ra (λo1=>O9 a o1) (λo1=>λfr h=>fr=Ac [(1,.q ids 0 g),(2,.q ids 1 g1),(5,.q ids 2 D)]/\h=hp h0 ids [Ab g 8 [Aj a],Ab g1 1 [[.K o1]],Ab D 1 [[.F 188 [.q ids 1 g1]]],none,none,none,none]) ?_ λaa=>?_
 .rintro o1 fr h ⟨rfl,rfl⟩;refine Ae (O9.eq_1 ..)<|go ?_;intro am;refine Ui [1,2,5,43] 44 (λo2=>[]) (λo2=>[Ab g 8 [Aj a],Ab g1 1 [[.K o2]],Ab D 1 [[.F 188 [.q ids 1 g1]]],none,none,none,none]) ?_ ?_
  .intro j a5 o2 an _ W _;refine Ae (Ack.eq_1 ..)<|go ?_;intro af;refine Ui [1,2,5,8,43,44,49] 50 (λY=>[]) (λY=>[Ab g 8 [Aj a],Ab g1 1 [[.K Y]],Ab D 1 [[.F 188 [.q ids 1 g1]]],none,none,none,none]) ?_ ?_
   .intro j1 a6 Y ao _ W _;refine Ae (Ada.eq_1 ..)<|go ?_;intro _;refine Kl (g0:=0) [1,2,5,8,9,43,44,49,50,54,55] 56 6 (λA=>A) (λA v1=>[(10,v1)]) (λA v1 g4=>[Ab g 8 [Aj a],Ab g1 1 [[.K Y]],Ab D 1 [[.F 188 [.q ids 1 g1]]],none,none,none,Ccu v1 g4 1 rJ A]) .nil ?_ ?_
    .intro j2 Z A v1 g4 ab _ vH W ac;refine Ae (Acw.eq_1 ..)<|By ?_;refine Ah<|Ov 1 O<|Ad<|Ai<|Fs (t:=54) (L:=a.Rules) O λag=>Co O (AT.2 (A6 ab))<|A8<|Ai<|A3<|Ah<|Ov 1 O<|Au _ O (Ay (Ex te te O ab))<|Ov 1 O<|D9 5 te λg5=>Ov 1 O<|Gk (.A (Bk Z)) ?_;refine Ad<|Bv ?_;refine Ah<|Zm 4 [5] O<|Oc 5 64 69 [1,2,5,8,9,10,11,12,43,44,49,50,54,55,56] (.B ((Z.Kind==1)&&(Z.Class==(j:Int)))) O ?_ (λS _ hJ=>?_) (λS _ hJ=>?_)
     .refine Ov 1 O<|Oc 5 70 75 [1,2,5,8,9,10,11,43,44,49,50,54,55,56] (.B (((Z.Kind==1)&&(Z.Class==(j:Int)))&&(Z.Airport==(j1:Int)))) O ?_ (λU _ V=>?_) (λU _ V=>?_)
      .refine Ad<|Bo O (λah=>?_) (λah=>?_)
       .refine A4<|Ov 2 O<|Bgg Ot 6 [(j2:Int)] O λv2 g6 ap=>Ov 1 O<|Ad<|Bv ?_;refine Ci<|A4<|Ov 2 O<|Ad<|Ck 32<|Hx ac
       refine A8<|Ci<|A4<|Ov 2 O<|Ad<|Ck 32<|Hx ac
      .refine Zm 5 [5] O<|wj V (Afb U)
      refine Ov 5 O<|wj V (Afc U)
     .refine Zm 5 [5] O<|wj hJ (Afb S)
     refine Ov 5 O<|wj hJ (Afc S)
    intro A v1 g4 vH;refine By ?_;refine Ah<|Ov 1 O<|Ad<|Ai<|Eb O (CF _)<|Di O<|Aaw [Ab g 8 [Aj a],Ab g1 1 [[.K Y]],Ab D 1 [[.F 188 [.q ids 1 g1]]],none,none,none,none] [(1,.q ids 0 g),(2,.q ids 1 g1),(5,.q ids 2 D),(8,.I j),(10,.K A),(43,.I (a.Classes.length:Int)),(44,.I j),(49,.I (a.Airports.length:Int)),(50,.I j1)] z O (.keep (.keep (.keep (.keep (.keep (.keep (.drop .nil))))))) (.s (.s (.s (.s (.cons (Ca vH (z.at O O) (z.at O O) (λx=>Dw x)) (.s (.s .s2)))))))<|Ajf [0,1,2,3,4,5] ?_;refine Au7 4 [2,0] O<|Ll ((Avo a.Rules A) _) (hpd:=(A9 [2])) λr3 _=>?_;refine R3 [1] z O O (Aol (by exact z.sub' O O)) O O O O O O O (λv _ _ _=>H5 (Es func88 z)) ?_;rintro r4 _ _ _ ⟨rfl,rfl⟩;refine Vg [1] [Ab g 8 [Aj a],Ab g1 1 [[.K r4]],Ab D 1 [[.F 188 [.q ids 1 g1]]],none,none,none,none] z O O O O ⟨Bh,?_⟩;refine W6<|Fp<|Bv ?_;refine Ci<|A4<|Ov 2 O<|Ad<|gc
   intro Y;refine By ?_;refine Ah<|Ov 1 O<|Ad<|Ai<|Eb O (CF _)<|Di O<|Ci<|A4<|Ov 2 O<|Ad<|gc
  intro o2;refine By ?_;refine Ah<|Ov 1 O<|Ad<|Ai<|Eb O (CF _)<|Di O<|Ah<|Zm 1 [1] O<|Gk (.K o2) ?_;refine Ov 1 O<|Ad<|Ais (H5 (Bba func88 z (Aw (Ar z O O O te O) (Ht A0)) (.tupL .s2)))
 refine A3<|Aaw [Ab g 8 [Aj a],Ab g1 1 [[.emp]],Ab D 1 [[.F 188 [.q ids 1 g1]]],none,none,none,none] [(1,.q ids 0 g),(2,.q ids 1 g1),(5,.q ids 2 D),(22,.F 255 [.cp [.I (a.Rules.length:Int)] 0])] z O (.keep (.keep (.keep (.drop (.keep (.keep (.keep .nil))))))) (.s (.s (.s (.cons (.funcL .nil (.cons (.ptrL (z.at O O) (z.at O O) O (Pp _)) .nil)) .nil))))<|Gh [1,2,5,22] ?_;refine Ax3 (P:=prog) 4 (λ_=>(Go.Code.exit 0)) (λ(gL:Nat) (X:Loop)=>Sum.elim (λ_=>λ(h1:Aa)=>h1=hp h0 ids [Ab g 8 [Aj a],Ab g1 1 [[.emp]],Ab D 1 [[.F 188 [.q ids 1 g1]]],none,some (.blk gL (.loop X)),none,none]) (λo=>λ(h2:Aa)=>h2=hp h0 ids [Ab g 8 [Aj a],Ab g1 1 [[.K o]],Ab D 1 [[.F 188 [.q ids 1 g1]]],none,some (.blk gL (.loop {X with state:=.done,pending:=some (Go.Code.exit 0)})),none,none]):Nat->Loop->(Unit ⊕ (List Int))->Aa->Prop) O O z O O O λgL aq X G ad=>⟨?_,?_,?_,?_,?_,?_⟩
 .refine Ar3 (a.Rules.length:Int) _ _ _ _ _ (λa1 a2=>A56 (jm:=λ_=>(Go.Code.exit 0)) G (by decide) O ad ?_ ?_) (λ_ _ _ _=>R.np_ne _ _) _ _ ?_
  .rintro _ _ rfl;exact z.at O O
  .rintro ar _ _ rfl;refine Bke (D8 (Ae (m':=Tj a a1 a2) O (Ae (Tj.eq_1 ..) ?_)));refine Apx [(24,.I a2),(23,.I a1),(1,.q ids 0 g),(2,.q ids 1 g1),(5,.q ids 2 D),(22,.F 255 [.cp [.I (a.Rules.length:Int)] 0])] (Abl _ _ _)<|Ah<|Ov 1 O<|Ad<|A4<|Ov 1 O<|Ad<|Uz z O O O G.ready<|Bv ?_;refine A3<|Ai<|Ajf [0,1,2,3,4,5,6,7,8,9,10] ?_;refine Au7 3 [0] O<|Ap5 λa3 hz ai=>Az (.cp (Bk a3) 0) O O (Ay (Ajb te te O hz ai))<|Au7 4 [0] O<|Ap5 λa4 aj ak=>Az (.cp (Bk a4) 0) O O (Ay (Ajb te te O aj ak))<|Avn 1 O<|cP ((Asv a3 a4) _) λr1 _=>Fp<|Bo O (λal=>?_) (λal=>?_)
   .refine Ah<|Zm 3 [2] O<|Be3 Ot [a1,a2]<|Dj [1] z O O (Aod (by exact z.sub' O O)) O O O O O O (λv _=>Be5) ?_;rintro r2 _ _ _ ⟨rfl,rfl⟩;refine Gj [1] z O O O ?_;refine D6<|Ad<|Bv ?_;exact A7b O O z O O O O
   refine A8<|Ci<|A8v z O O O O
  exact O
 .rintro _ _ rfl;exact z.at O O
 .rintro o _ rfl;exact z.at O O
 .rintro _ _ rfl;refine Amk [Ab g 8 [Aj a],Ab g1 1 [[.emp]],Ab D 1 [[.F 188 [.q ids 1 g1]]],none,none,none,none] z O O O<|Ci<|Aaw [Ab g 8 [Aj a],Ab g1 1 [[.K []]],Ab D 1 [[.F 188 [.q ids 1 g1]]],none,none,none,none] [(1,.q ids 0 g),(2,.q ids 1 g1),(5,.q ids 2 D)] z O (.keep (.fz (.cons (.emp _) .nil) O O (.keep (.keep (.keep (.keep (.keep .nil))))))) (.s .s2)<|aa [] _ _<|⟨O,O⟩
 .rintro o _ rfl;refine Amk [Ab g 8 [Aj a],Ab g1 1 [[.K o]],Ab D 1 [[.F 188 [.q ids 1 g1]]],none,none,none,none] z O O O<|Di O<|D1 (aa _ _ _ ⟨O,O⟩)
 intro v _ x_ h_ ae;rcases x_ with x_|x_
 .obtain _:=x_;obtain rfl:=ae;refine Amd [Ab g 8 [Aj a],Ab g1 1 [[.emp]],Ab D 1 [[.F 188 [.q ids 1 g1]]],none,none,none,none] z O O O<|H5 (Es func88 z)
 revert ae;revert h_;revert x_;rintro o _ rfl;refine Amd [Ab g 8 [Aj a],Ab g1 1 [[.K o]],Ab D 1 [[.F 188 [.q ids 1 g1]]],none,none,none,none] z O O O<|H5 (Es func88 z)
instance A6k (a):CP prog 87 [.A (Aj a)] (P3 a) (.I):=by refine ci 14 1 func87 (P3.eq_1 _) λh0 ids z A=>gc
instance Agd (a segment):CP prog 196 [.A (Aj a),.I segment] (Pd a segment) (λx=>(AV.sl 2 (List.map Ax x))):=by
 refine ci 52 2 func196 (Pd.eq_1 ..) λh0 ids G V=>go ?_;intro g;refine Bo O (λS=>?_) (λS=>?_)
 .refine go ?_;exact Kq O O (Es func196 G)
 refine go ?_;intro a1 hz U g1;refine Bo O (λA=>?_) (λA=>?_)
 .refine go ?_;exact Kq O O (Es func196 G)
 refine go ?_;intro _;refine jn (λz=>Lg a a1 z) [2,5] (λz=>[(6,.L 2 Ax z)]) (λz=>[Ab g 8 [Aj a],Ab g1 5 [C3 a1]]) ?_ λ_=>?_
 .intro z;refine Ae (Lg.eq_1 ..)<|gc
 refine Bo O (λD=>?_) (λD=>?_)
 .refine go ?_;refine Be3 Gu [({From:=0,To:=1440}:Span)]<|gc
 exact gc
def A00 (m:(List (Int×Bool)))(h0:Aa)(z:Nat)(g:Nat)(A:Ids h0 [z] 1):maps_Keys_198 m≠.bad->Bs prog 198 [.map z g] (hp h0 [z] [some (.mp g (mE (AV.int .i64) AV.bool m))]) (Kn (λD v h'=>v=(.F 262 [(.cp0 [.map z g])])/\h'=hp h0 [z] [some (.mp g (mE (AV.int .i64) AV.bool m))]) h0 (maps_Keys_198 m)):=λ_=>(A59 (.mk func198 rfl (by decide)) Tryz.maps_Keys_198).mono (by rintro r h' ⟨rfl,rfl⟩;exact⟨_,rfl,rfl,rfl⟩)
def Awc (m:(List (Int×Bool)))(h0:Aa)(z:Nat)(g:Nat)(A:Ids h0 [z] 1):Zl m≠.bad->Bs prog 197 [.F 262 [(.cp0 [.map z g])]] (hp h0 [z] [some (.mp g (mE (AV.int .i64) AV.bool m))]) (Kn (λD v h'=>v=(.K D)/\h'=hp h0 [z] [some (.mp g (mE (AV.int .i64) AV.bool m))]) h0 (Zl m)):=A06 A (.mk func197 rfl (by decide)) underlying3 Tryz.sorted_keys_197_198
theorem Z0 (w):CP prog 94 [.nili,w] (Kx) (λ_=>AV.tup []):=by refine ci 15 0 func94 Kx.eq_1 λh0 ids z A=>go ?_;refine Au _ O (Bb O O (Bjj te))<|go ?_;exact A15 func94 z O (.tupL .nil)
def Akj (z:AV)(h:Aa):I1 prog 195 [z] .ret h (Ys (λ_:Unit=>h) .ret (.ok ())):=by refine Rj func195 O (by decide) O O ?_ ⟨(),O⟩;refine D8 (Ae (m':=(Kx).bind λ_=>.ok ()) O ?_);refine A4<|Ail O<|Cb _ O O O O ((Z0 z) _) (λv A=>by unfold Kx at A;cases A) λ_ _=>?_;refine Ad<|Sv func195 O O O
def Xb {p h0 o0}{r:List AV}{g}(hr:r.length=1):CJ0 prog 94 1 h0 [o0] (E3 p) [.iface 271 (.A (Bpj p)),.p o0 g] [Ab g 1 [r]] (λz=>(.tup [])) (λz=>[Ab g 1 [[.I 1]]]):=by refine cgj 1 func94 (E3.eq_1 _) ?_;rintro ids ⟨rfl,-⟩ A D G;refine go ?_;refine Au _ O (Bb O O (Bh9 te))<|go ?_;intro g1;refine Cw (Hm A O O O te O O O hr O)<|gc
def Anp (h0:Aa)(ids:List Nat)(G:Ids h0 ids 1)(z:Nat)(A:List AV)(D:A.length=1):(∃a,Fw=.ok a)->I1 prog 195 [(.ptr (ix ids 0) z 0 0)] (.pan (.iface 271 (.A [])) false) (hp h0 ids [Ab z 1 [A]]) (Ys (λp=>hp h0 ids [Ab z 1 [[(.I 1)]]]) (.pan (.iface 271 (.A [])) true) (Fw)):=by refine Rj func195 O (by decide) O O<|D8 (Ae (Fw.eq_1) ?_);refine A4<|Aim O<|Dj [0] G O O (Xb D (by exact G.sub' O O)) O O O O O O (λv S=>by unfold E3 at S;cases S) ?_;rintro _ _ _ _ ⟨rfl,rfl⟩;refine Gj [0] G O O O ?_;refine D6<|go ?_;exact Sv func195 O O O
instance A8h (a):CP prog 90 [.A (Aj a)] (Vz a) (λp=>AV.tup [.K p.1,.I p.2]):=by
 show CP _ _ _ ((Tb a).catch' (Kw 271 ((Fw).bind λ_=>.ok ([],1)) (λ_=>.bad))) _;refine Abv 4 func90 O (by decide) O O λh0 ids z=>?_;have Z:∀(v:PV) (fr:Nat->AV) (xs:List (Option AO)) (A:Nat) (D:List AV) (X:xs.length=4) (S:D.length=1) (Y:xs.take 1=[some (.rows A 1 [D])]) (U:fr 2=.emp) (V:fr 3=.q ids 0 A),WU prog 90 29 false (Ng (λ(p:((List Int)×Int))=>AV.tup [(.L 1 (rI .i64) p.1),(.I p.2)]) h0 (Kw 271 ((Fw).bind λ_=>.ok ([],1)) (λ_=>.bad))) (.pan v) (.pan v.av false) fr [⟨195,[.q ids 0 A]⟩] (hp h0 ids xs) .ret:=by
  intro v fr xs A D X S Y U V;refine A7y O (λhv=>?_) (λG=>?_)
  .subst hv;exact Aey (Hc:=Fw) (fin:=λ_=>([],1)) (c:=1) (cells:=λp=>[Ab A 1 [[.I 1]]]) (vs:=λp=>[.emp,.I 1]) func90 z X O Y (by first|(rw[Yh];done)|(rw[Yh];rfl)) (λhx=>by have:=Anp h0 (ids.take 1) (z.take O) A D S hx;simp only[Gt (c:=1) (j:=0) O]at this;exact this) (by intro w;simp[Fw,E3]) (λp=>(Apw U (Lr V (U3 (z.take O) (Gt O) O O O te O) A0))) (λp=>(.tupL (.cons (.emp _) .s1)))
  exact Are (by rw[Apr G])
 refine D8 (Ae (Tb.eq_1 _) ?_);refine Ah<|Ip 1 (.A (Aj a)) λg=>go ?_;intro g1;refine Aeu O O O ?_;refine go ?_;refine Oa (j:=2) z O O O O λg2=>go ?_;intro _;refine Ui [1,2,3,4,10,11] 12 (λm=>[]) (λm=>[Ab g1 1 [[.I 0]],Ab g 8 [Aj a],some (.mp g2 (mE AV.I AV.bool m)),none]) ?_ ?_
 .intro j a1 m aa _ W _;refine Ae (S3.eq_1 ..)<|go ?_;intro g3;refine Cb _ O O O O ((Agd a _) _) (λv _=>Z v _ _ _ _ O O O O O) λr _=>go ?_;intro _;refine E4 O (λhc=>?_) (λhc=>?_)
  .refine go ?_;refine Jv (j:=2) z O O O O O O te te Atd<|go ?_;refine Ck 8<|gc
  refine go ?_;refine Ck 8<|gc
 intro m;refine go ?_;refine Dj [2] z O O (A00 m _ (ix ids 2) g2 (by exact z.sub' O O)) O O O O O O (λv _=>Z v _ _ _ _ O O O O O) ?_;rintro _ _ _ _ ⟨rfl,rfl⟩;refine Gj [2] z O O O ?_;refine D6<|Dj [2] z O O (Awc m _ (ix ids 2) g2 (by exact z.sub' O O)) O O O O O O (λv _=>Z v _ _ _ _ O O O O O) ?_;rintro l _ _ _ ⟨rfl,rfl⟩;refine Gj [2] z O O O ?_;refine D6<|go ?_;exact Ard func90 z (Akj _ _) (Ht (Aw (Ar z O O O te O) A0)) (.tupL .s2)
instance A70 (a):CP prog 89 [.A (Aj a)] (Qc a) (.I):=by refine ci 20 1 func89 (Qc.eq_1 _) λh0 ids z A=>gc
def Aht {a route h0 o0 o1}(z:Ids h0 [o0,o1] 2):N3 a route≠.bad->Bs prog 95 [.A (Aj a),.I route] (hp h0 [o0,o1] [none,none]) (Kn (λD v h'=>∃(A:Nat),∃(g3:Nat),v=(.F 200 [.p o1 g3,.p o0 A])/\h'=hp h0 [o0,o1] [Ab A 8 [Aj a],Ab g3 1 [[.I route]]]) h0 (N3 a route)):=by refine Cd 0 func95 (N3.eq_1 ..) z ?_;rintro ids ⟨rfl,rfl,-⟩ G O S;exact gc
def Afi(b:Int)(c:Airspace)(G:Leg->σ_->R σ_)(z:σ_->Aa->Prop)(y_:YF)(o_ g_:Nat)(aa:∀(A:Leg),YOk prog y_ o_ g_ [(.A (If A))] z (G A))(S:∀(A:Leg) (s:σ_) (v:PV),G A s≠.pan v)(Z:σ_)(U:Aa)(V:z Z U):L6 b c G Z≠.bad->Bs prog 200 [(.yld y_ o_ g_),(.cp [(.I b)] 0),(.cp (Aj c) 0)] U (Am6 z (L6 b c G Z)):=by
 refine Ans func200 O (by decide) O O<|D8 (Ae (L6.eq_1 ..) ?_);refine go ?_;refine Bo O (λhc=>?_) (λhc=>?_)
 .refine go ?_;exact Kq O O (Avu func200 V)
 refine go ?_;intro a hz ac X;refine Gh [0,2,23,24,25] ?_;refine Ld (P:=prog) a.Segments _ _ (λj=>λs=>λfr h=>∃(hh:Aa),z s hh/\fr=Ac [(0,.yld y_ o_ g_),(2,.cp (Aj c) 0),(23,.K a.Segments),(24,.I (a.Segments.length:Int)),(25,.I j)]/\hh=h) Z ?_ ?_ ?_
 .exact⟨_,V,O,O⟩
 .rintro j a1 ab W hW s fr h ⟨hh,D,rfl,rfl⟩;refine Ae (m':=Im c G a1 s) O (Ae (Im.eq_1 ..) ?_);refine go ?_;refine Cb _ O O O O ((Agd c a1) _) (λv _=>Avu func200 D) λm _=>go ?_;intro a2 ad ae;refine A2c O O O O D (aa ({Segment:=a1,Volume:=a2.Volume,Length:=a2.Length,Minutes:=m}:Leg)) (S ({Segment:=a1,Volume:=a2.Volume,Length:=a2.Length,Minutes:=m}:Leg) _) (λ_=>(Zc O (Zc O Ef))) λs1 af ag Y=>?_;refine Az (.B false) O O (Bfz O)<|go ?_;exact D1 (Z4 (hW _ _ _ ⟨_,Y,O,O⟩)) (.r4 (.cons (Vf (A6 ab) X) .nil))
 rintro s fr h ⟨hh,D,rfl,rfl⟩;refine go ?_;exact Arn func200 O D
def Aln (z:AV)(h:Aa):I1 prog 199 [z] .ret h (Ys (λ_:Unit=>h) .ret (.ok ())):=by refine Rj func199 O (by decide) O O ?_ ⟨(),O⟩;refine D8 (Ae (m':=(Kx).bind λ_=>.ok ()) O ?_);refine A4<|Ail O<|Cb _ O O O O ((Z0 z) _) (λv A=>by unfold Kx at A;cases A) λ_ _=>?_;refine Ad<|Sv func199 O O O
def Aoe (h0:Aa)(ids:List Nat)(G:Ids h0 ids 1)(z:Nat)(A:List AV)(D:A.length=1):(∃a,F3=.ok a)->I1 prog 199 [(.ptr (ix ids 0) z 0 0)] (.pan (.iface 271 (.A [])) false) (hp h0 ids [Ab z 1 [A]]) (Ys (λp=>hp h0 ids [Ab z 1 [[(.I 1)]]]) (.pan (.iface 271 (.A [])) true) (F3)):=by refine Rj func199 O (by decide) O O<|D8 (Ae (F3.eq_1) ?_);refine A4<|Aim O<|Dj [0] G O O (Xb D (by exact G.sub' O O)) O O O O O O (λv S=>by unfold E3 at S;cases S) ?_;rintro _ _ _ _ ⟨rfl,rfl⟩;refine Gj [0] G O O O ?_;refine D6<|go ?_;exact Sv func199 O O O
instance A89 (a):CP prog 92 [.A (Aj a)] (Xs a) (λp=>AV.tup [.K p.1,.I p.2]):=by
 show CP _ _ _ ((Ur a).catch' (Kw 271 ((F3).bind λ_=>.ok ([],1)) (λ_=>.bad))) _;refine Abv 8 func92 O (by decide) O O λh0 ids z=>?_;have hU:∀(v:PV) (fr:Nat->AV) (xs:List (Option AO)) (A:Nat) (G:List AV) (aa:xs.length=8) (U:G.length=1) (ab:xs.take 1=[some (.rows A 1 [G])]) (V:fr 2=.emp) (X:fr 3=.q ids 0 A),WU prog 92 33 false (Ng (λ(p:((List Int)×Int))=>AV.tup [(.L 1 (rI .i64) p.1),(.I p.2)]) h0 (Kw 271 ((F3).bind λ_=>.ok ([],1)) (λ_=>.bad))) (.pan v) (.pan v.av false) fr [⟨199,[.q ids 0 A]⟩] (hp h0 ids xs) .ret:=by
  intro v fr xs A G aa U ab V X;refine A7y O (λhv=>?_) (λS=>?_)
  .subst hv;exact Aey (Hc:=F3) (fin:=λ_=>([],1)) (c:=1) (cells:=λp=>[Ab A 1 [[.I 1]]]) (vs:=λp=>[.emp,.I 1]) func92 z aa O ab (by first|(rw[Yh];done)|(rw[Yh];rfl)) (λhx=>by have:=Aoe h0 (ids.take 1) (z.take O) A G U hx;simp only[Gt (c:=1) (j:=0) O]at this;exact this) (by intro w;simp[F3,E3]) (λp=>(Apw V (Lr X (U3 (z.take O) (Gt O) O O O te O) A0))) (λp=>(.tupL (.cons (.emp _) .s1)))
  exact Are (by rw[Apr S])
 refine D8 (Ae (Ur.eq_1 _) ?_);refine Ah<|Ip 1 (.A (Aj a)) λg=>go ?_;intro g1;refine Aeu O O O ?_;refine A5t<|go ?_;intro ae;refine Kl (g0:=0) [1,2,3,11] 12 7 (λD=>D) (λD v=>[(4,v)]) (λD v Z=>[Ab g1 1 [[.I 0]],Ab g 8 [Aj a],none,none,none,none,none,Ccu v Z 1 rJ D]) .nil ?_ ?_
 .intro j a1 D v Z af _ vH W hW;refine Ae (O4.eq_1 ..)<|go ?_;intro g3;refine Dj [3,4] z O O (Aht (by exact z.sub' O O)) O O O O O O (λv _=>H5 (hU v _ _ _ _ O O O O O)) ?_;rintro _ _ _ _ ⟨g4,g5,rfl,rfl⟩;refine Gj [3,4] z O O O ?_;refine D6<|go ?_;refine Aaw [Ab g1 1 [[.I 0]],Ab g 8 [Aj a],Ab g3 1 [[.B false]],none,none,none,none,Ccu v Z 1 rJ D] [(1,.q ids 1 g),(2,.emp),(3,.q ids 0 g1),(4,v),(5,.I j),(6,.q ids 2 g3),(11,.I (a.Routes.length:Int)),(12,.I j),(17,.F 200 [.cp [.I j] 0,.cp (Aj a) 0])] z O (.keep (.keep (.keep (.drop (.drop (.keep (.keep (.keep .nil)))))))) (.s (.s (.s (.s (.s (.s (.s (.s (.cons (.funcL .nil (.cons (.ptrL (z.at O O) (z.at O O) O (Pp _)) (.cons (.ptrL (z.at O O) (z.at O O) O (Pp _)) .nil))) .nil)))))))))<|Gh [1,2,3,4,5,6,11,12,17] ?_;refine Acd (P:=prog) 5 (λ(gL:Nat) (ac:Loop)=>λo=>λ(h1:Aa)=>h1=hp h0 ids [Ab g1 1 [[.I 0]],Ab g 8 [Aj a],Ab g3 1 [[.B o]],none,none,some (.blk gL (.loop ac)),none,Ccu v Z 1 rJ D]:Nat->Loop->Bool->Aa->Prop) O O z O O O λgL ag ac Y ad=>⟨?_,?_,?_,?_⟩
  .refine Afi (j:Int) a _ _ _ _ _ (λa2=>Aky Y (by decide) O ad ?_ ?_) (λ_ _ _=>R.np_ne _ _) _ _ ?_
   .rintro o _ rfl;exact z.at O O
   .rintro ah o _ rfl;refine Ax7 (D8 (Ae (m':=Sz a2 o) O (Ae (Sz.eq_1 ..) ?_)));refine Apx [(18,.A (If a2)),(1,.q ids 1 g),(2,.emp),(3,.q ids 0 g1),(4,v),(5,.I j),(6,.q ids 2 g3),(11,.I (a.Routes.length:Int)),(12,.I j),(17,.F 200 [.cp [.I j] 0,.cp (Aj a) 0])] (Abl _ _ _)<|A4<|D9 6 te λg6=>go ?_;refine Uz z O O O Y.ready<|go ?_;refine Ck 64<|Ai5 z O O O O
   exact O
  .rintro o _ rfl;exact z.at O O
  .rintro o _ _ rfl;refine Amk [Ab g1 1 [[.I 0]],Ab g 8 [Aj a],Ab g3 1 [[.B o]],none,none,none,none,Ccu v Z 1 rJ D] z O O O<|go ?_;refine Bo O (λhc=>?_) (λhc=>?_)
   .refine A4<|Ov 2 O<|Bgg Ot 7 [(j:Int)] O λv2 g7 ai=>Ov 1 O<|Ad<|Bv ?_;refine Ci<|A4<|Ov 2 O<|Ad<|Ck 4<|Hx hW
   refine A8<|Ci<|A4<|Ov 2 O<|Ad<|Ck 4<|Hx hW
  rintro v1 _ o _ rfl;refine Amd [Ab g1 1 [[.I 0]],Ab g 8 [Aj a],Ab g3 1 [[.B o]],none,none,none,none,Ccu v Z 1 rJ D] z O O O<|H5 (hU v1 _ _ _ _ O O O O O)
 intro D v Z vH;refine By ?_;refine Ah<|Ov 1 O<|Ad<|Ai<|Eb O (CF _)<|Di O<|Ah<|Ov 2 O<|Gk (.I 0) ?_;refine Ad<|Ais (H5 (A4r func92 z (Aln _ _) (Ht (Aw (Ar z O O O te O) A0)) (.tupL (.cons (Ca vH (z.at O O) (z.out O) (λx=>Dw x)) .s1))))
instance A6d (a):CP prog 91 [.A (Aj a)] (P6 a) (.I):=by refine ci 17 1 func91 (P6.eq_1 _) λh0 ids z A=>gc
instance Aof (a s):CP prog 19 [.I a,.A (Br s)] (P9 a s) (λx=>(AV.agg (Br x))):=by refine ci 12 2 func19 (P9.eq_1 ..) λh0 ids z A=>go ?_;intro g g1;exact rc
def Afm (l:List Sector):Vv prog 32 [(.L 5 Br l),(.F 19 [])] (G2 l) 5 Br:=by
 refine Gq 1 func32 O (by decide) O O λh0 ids z=>D8 (Ae (G2.eq_1 _) ?_);refine go ?_;intro _;refine Kl (g0:=0) [1,7,8] 9 0 (λy=>y) (λy v=>[(4,v)]) (λy v g=>[Ccu v g 5 Br y,none]) .nil ?_ ?_
 .intro j a y v g A _ D W S;refine Ae (Wt.eq_1 ..)<|By ?_;refine Ah<|Ov 1 O<|Ad<|Ai<|Fs (t:=7) (L:=l) O λG=>Co O (AT.2 (A6 A))<|A8<|Ai<|A3<|Ah<|Ov 1 O<|Au _ O (Ay (Ex te te O A))<|Ov 1 O<|D9 1 te λg1=>Ov 1 O<|Gk (.A (Br a)) ?_;refine Ad<|Bv ?_;refine A4<|Zm 4 [1] O<|Cb _ O O O O ((Aof _ a) _) (λv _=>Gz func32 z) λr _=>Bgg Vs 0 [r] O λv1 V U=>go ?_;refine Ck 2<|Hx S
 intro y v g D;refine go ?_;exact Gg func32 z O O D O
instance Agf (l:List Sector):CP prog 32 [(.L 5 Br l),(.F 19 [])] (G2 l) (λ(x:List Sector)=>(AV.sl 5 (List.map Br x))):=(Afm l).cp (λx=>Vs x)
instance Anv (a c):CP prog 20 [.I a,.A (Bz c)] (P7 a c) (λx=>(AV.agg (Bz x))):=by refine ci 8 2 func20 (P7.eq_1 ..) λh0 ids z A=>go ?_;intro g g1;exact rc
def Af2 (l:List Config):Vv prog 33 [(.L 3 Bz l),(.F 20 [])] (Gx l) 3 Bz:=by
 refine Gq 1 func33 O (by decide) O O λh0 ids z=>D8 (Ae (Gx.eq_1 _) ?_);refine go ?_;intro _;refine Kl (g0:=0) [1,7,8] 9 0 (λy=>y) (λy v=>[(4,v)]) (λy v g=>[Ccu v g 3 Bz y,none]) .nil ?_ ?_
 .intro j a y v g A _ D W S;refine Ae (W2.eq_1 ..)<|By ?_;refine Ah<|Ov 1 O<|Ad<|Ai<|Fs (t:=7) (L:=l) O λG=>Co O (AT.2 (A6 A))<|A8<|Ai<|A3<|Ah<|Ov 1 O<|Au _ O (Ay (Ex te te O A))<|Ov 1 O<|D9 1 te λg1=>Ov 1 O<|Gk (.A (Bz a)) ?_;refine Ad<|Bv ?_;refine A4<|Zm 4 [1] O<|Cb _ O O O O ((Anv _ a) _) (λv _=>Gz func33 z) λr _=>Bgg Vp 0 [r] O λv1 V U=>go ?_;refine Ck 2<|Hx S
 intro y v g D;refine go ?_;exact Gg func33 z O O D O
instance Ag9 (l:List Config):CP prog 33 [(.L 3 Bz l),(.F 20 [])] (Gx l) (λ(x:List Config)=>(AV.sl 3 (List.map Bz x))):=(Af2 l).cp (λx=>Vp x)
def Apg (z:AV)(h:Aa):I1 prog 93 [z] .ret h (Ys (λ_:Unit=>h) .ret (.ok ())):=by refine Rj func93 O (by decide) O O ?_ ⟨(),O⟩;refine D8 (Ae (m':=(Kx).bind λ_=>.ok ()) O ?_);refine A4<|Ail O<|Cb _ O O O O ((Z0 z) _) (λv A=>by unfold Kx at A;cases A) λ_ _=>?_;refine Ad<|Sv func93 O O O
def Aqr (h0:Aa)(ids:List Nat)(G:Ids h0 ids 1)(z:Nat)(A:List AV)(D:A.length=1):(∃a,H2=.ok a)->I1 prog 93 [(.ptr (ix ids 0) z 0 0)] (.pan (.iface 271 (.A [])) false) (hp h0 ids [Ab z 1 [A]]) (Ys (λp=>hp h0 ids [Ab z 1 [[(.I 1)]]]) (.pan (.iface 271 (.A [])) true) (H2)):=by refine Rj func93 O (by decide) O O<|D8 (Ae (H2.eq_1) ?_);refine A4<|Aim O<|Dj [0] G O O (Xb D (by exact G.sub' O O)) O O O O O O (λv S=>by unfold E3 at S;cases S) ?_;rintro _ _ _ _ ⟨rfl,rfl⟩;refine Gj [0] G O O O ?_;refine D6<|go ?_;exact Sv func93 O O O
instance Be7 (a route):CP prog 22 [.A (Aj a),.I route] (Acm a route) (λp=>AV.tup [.L 4 If p.1,.I p.2]):=by
 show CP _ _ _ ((Ze a route).catch' (Kw 271 ((H2).bind λ_=>.ok ([],1)) (λ_=>.bad))) _;refine Abv 8 func22 O (by decide) O O λh0 ids z=>?_;have hU:∀(v:PV) (fr:Nat->AV) (xs:List (Option AO)) (A:Nat) (D:List AV) (Z:xs.length=8) (U:D.length=1) (aa:xs.take 1=[some (.rows A 1 [D])]) (V:fr 4=.emp) (W:fr 5=.q ids 0 A),WU prog 22 18 false (Ng (λ(p:((List Leg)×Int))=>AV.tup [(.L 4 If p.1),(.I p.2)]) h0 (Kw 271 ((H2).bind λ_=>.ok ([],1)) (λ_=>.bad))) (.pan v) (.pan v.av false) fr [⟨93,[.q ids 0 A]⟩] (hp h0 ids xs) .ret:=by
  intro v fr xs A D Z U aa V W;refine A7y O (λhv=>?_) (λG=>?_)
  .subst hv;exact Aey (Hc:=H2) (fin:=λ_=>([],1)) (c:=1) (cells:=λp=>[Ab A 1 [[.I 1]]]) (vs:=λp=>[.emp,.I 1]) func22 z Z O aa (by first|(rw[Yh];done)|(rw[Yh];rfl)) (λhx=>by have:=Aqr h0 (ids.take 1) (z.take O) A D U hx;simp only[Gt (c:=1) (j:=0) O]at this;exact this) (by intro w;simp[H2,E3]) (λp=>(Apw V (Lr W (U3 (z.take O) (Gt O) O O O te O) A0))) (λp=>(.tupL (.cons (.emp _) .s1)))
  exact Are (by rw[Apr G])
 refine D8 (Ae (Ze.eq_1 ..) ?_);refine Ah<|Ip 1 (.A (Aj a)) λg=>go ?_;intro g1;refine Aeu O O O ?_;refine A5t<|go ?_;intro Y;refine Dj [3,4] z O O (Aht (by exact z.sub' O O)) O O O O O O (λv _=>H5 (hU v _ _ _ _ O O O O O)) ?_;rintro _ _ _ _ ⟨g3,g4,rfl,rfl⟩;refine Gj [3,4] z O O O ?_;refine D6<|go ?_;refine Aaw [Ab g1 1 [[.I 0]],Ab g 8 [Aj a],Ab Y 1 [[.emp]],none,none,none,none,none] [(4,.emp),(5,.q ids 0 g1),(6,.q ids 2 Y),(11,.F 200 [.cp [.I route] 0,.cp (Aj a) 0])] z O (.keep (.keep (.keep (.drop (.drop (.keep (.keep (.keep .nil)))))))) (.s (.s (.s (.cons (.funcL .nil (.cons (.ptrL (z.at O O) (z.at O O) O (Pp _)) (.cons (.ptrL (z.at O O) (z.at O O) O (Pp _)) .nil))) .nil))))<|Ck 2<|Gh [4,5,6,11] ?_;refine Acd (P:=prog) 5 (λ(gL:Nat) (ab:Loop)=>λl=>λ(h1:Aa)=>∃(v:AV),∃(S:Nat),Av v (ix ids 7) S l.length/\h1=hp h0 ids [Ab g1 1 [[.I 0]],none,Ab Y 1 [[v]],none,none,some (.blk gL (.loop ab)),none,Ccu v S 4 If l]:Nat->Loop->(List Leg)->Aa->Prop) O O z O O O λgL ae ab X ac=>⟨?_,?_,?_,?_⟩
 .refine Afi route a _ _ _ _ _ (λa1=>Aky X (by decide) O ac ?_ ?_) (λ_ _ _=>R.np_ne _ _) _ _ ?_
  .rintro l _ ⟨v,S,vH,rfl⟩;exact z.at O O
  .rintro af l _ ⟨v,S,vH,rfl⟩;refine Ax7 (D8 (Ae (m':=Pf a1 l) O (Ae (Pf.eq_1 ..) ?_)));refine Apx [(12,.A (If a1)),(4,.emp),(5,.q ids 0 g1),(6,.q ids 2 Y),(11,.F 200 [.cp [.I route] 0,.cp (Aj a) 0])] (Abl _ _ _)<|A4<|D9 6 te λg6=>Gk (.A (If a1)) ?_;refine Ad<|Bv ?_;refine Uz z O O O X.ready<|Bv ?_;refine A3<|A4<|Zm 2 [2,6] O<|Bgg A1z 7 [a1] O λv1 g7 ad=>Cw (De ad z O O O O te O O O)<|go ?_;refine Ck 64<|Ai5 z O O O ⟨v1,g7,ad,O⟩
  exact⟨.emp,0,.nil,O⟩
 .rintro l _ ⟨v,S,vH,rfl⟩;exact z.at O O
 .rintro l _ _ ⟨v,S,vH,rfl⟩;refine Amk [Ab g1 1 [[.I 0]],none,Ab Y 1 [[v]],none,none,none,none,Ccu v S 4 If l] z O O O<|go ?_;exact Ais (H5 (A4r func22 z (Apg _ _) (Ht (Aw (Ar z O O O te O) A0)) (.tupL (.cons (Ca vH (z.at O O) (z.out O) (λx=>A1z x)) .s1))))
 rintro v2 _ l _ ⟨v,S,vH,rfl⟩;refine Amd [Ab g1 1 [[.I 0]],none,Ab Y 1 [[v]],none,none,none,none,Ccu v S 4 If l] z O O O<|H5 (hU v2 _ _ _ _ O O O O O)
def An4 {i r s h0 o0 g}:CJS prog 21 1 h0 [o0] (P8 i r s) [.I i,.A (Ed r),.p o0 g] [Ab g 8 [Aj s]] (λA=>(.A (Ks A))):=by refine cgj 2 func21 (P8.eq_1 ..) ?_;rintro ids ⟨rfl,-⟩ z D G;refine go ?_;intro g1 S r1 _;exact Abi [Ab g 8 [Aj s]] func21 z O (Aw (Ar z O O O te O) A0) O (.keep (.drop (.drop .nil))) (.aggL (.s .s2)) ⟨O,O⟩
def Akd {l s h0 o0 g}:CJS prog 34 1 h0 [o0] (Ls l s) [.L 7 Ed l,.F 21 [.p o0 g]] [Ab g 8 [Aj s]] (.L 3 Ks):=by
 refine cgj 2 func34 (Ls.eq_1 ..) ?_;rintro ids ⟨rfl,-⟩ U V X;refine go ?_;intro z;refine Gh [1,4,7,8,9] ?_;refine Ld (P:=prog) l _ _ (λj=>λy=>λfr h=>∃(v1:AV),∃(g1:Nat),Av v1 (ix ids 2) g1 y.length/\fr=Ac [(1,.F 21 [.q ids 0 g]),(4,v1),(7,.L 7 Ed l),(8,.I (l.length:Int)),(9,.I j)]/\h=hp h0 ids [Ab g 8 [Aj s],none,Ccu v1 g1 3 Ks y]) [] ?_ ?_ ?_
 .exact⟨.emp,0,.nil,O,O⟩
 .rintro j a D W G y fr h ⟨v1,g1,S,rfl,rfl⟩;refine Ae (m':=No s j a y) O (Ae (No.eq_1 ..) ?_);refine go ?_;intro Y;refine cG [0] An4 ?_;rintro r _ _ _ ⟨rfl,rfl⟩;refine F1 ?_;refine Bgg Azs 2 [r] O λv2 g3 A=>go ?_;refine Ck 2<|D1 (Z4 (G _ _ _ ⟨v2,g3,A,O,O⟩)) (.r4 (.o (ic D z)))
 rintro y fr h ⟨v1,g1,S,rfl,rfl⟩;refine go ?_;exact go1 (λx=>Azs x)
instance Ani (a m):CP prog 23 [.I a,.A (Qk m)] (Qj a m) (.I):=by refine ci 7 1 func23 (Qj.eq_1 ..) λh0 ids z A=>gc
end Go.Am
