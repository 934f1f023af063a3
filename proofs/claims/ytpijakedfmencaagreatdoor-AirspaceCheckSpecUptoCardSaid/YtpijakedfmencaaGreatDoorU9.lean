import Derived.Test.YtpijakedfmencaaGreatDoorU8
set_option linter.all false
set_option maxHeartbeats 4000000
set_option maxRecDepth 100000
open Go.Proofs.Tryz
namespace Go.Am
open Go Go.Proofs Go.Proofs.Tryz
abbrev FO:=@Bs.weak
attribute [local irreducible] WR WO WP WU Nu
def Ab0 (a:List Int)(G:Int):Vv prog 252 [(.K a),(.int .i64 G)] (Mv a G) 1 rJ:=by
 refine Gq (n:=48) 0 func252 O (by decide) O O λh0 ids S=>D8 (Ae (Mv.eq_1 _ _) ?_);refine go ?_;refine E4 O (λhc=>?_) (λhc=>?_)
 .refine go ?_;exact Kq (v:=⟨9,.str [99,97,110,110,111,116,32,98,101,32,110,101,103,97,116,105,118,101]⟩) O O (Gz func252 S)
 refine go ?_;intro _;refine Cb _ O O O O ((Asr (IntKind.wrap .u64 (a.length:Int)) (IntKind.wrap .u64 G)) _) (λv _=>Gz func252 S) λr _=>go ?_;refine Bo O (λW=>?_) (λW=>?_)
 .refine go ?_;exact Kq (v:=⟨9,.str [116,104,101,32,114,101,115,117,108,116,32,111,102,32,40,108,101,110,40,120,41,32,42,32,99,111,117,110,116,41,32,111,118,101,114,102,108,111,119,115]⟩) O O (Gz func252 S)
 refine A8<|Ah<|Bp (.int .u64 r.2)<|Bl (.I (wi r.2))<|Cf λX=>Bhq (y:=(0:Int)) (e:=rJ) (st:=1) (j:=0) S O O O O Dr.eq Dn.eq O O X.1 X.2.1 X.2.2 O O O O O λv g vH=>go ?_;intro Y;refine Bde (e:=rJ) (L:=(List.replicate (Int.toNat (wi r.2)) (0:Int))) (L2:=a) (v:=v) (g:=g) (st:=1) (j:=0) S O O O O vH O O Dr.eq Dn.eq O Y λaa=>Cm (.I (a.length:Int))<|Ad<|Bv ?_;refine Ai<|Ra (λD=>Qu D) (λD=>λfr h=>Av v (ix ids 0) g D.length/\fr=Ac [(7,v)]/\h=hp h0 ids [Ccu v g 1 rJ D]) ?_ λab=>?_
 .rintro D fr h ⟨ac,rfl,rfl⟩;refine Ae (Qu.eq_1 _)<|Ah<|Ao 2 [] [(4,v)]<|Ad<|Gg (a:=D) (v:=v) (g:=g) func252 S O O ac O
 refine A3<|Gh [7,8] ?_;refine Ko (P:=prog) (Ct λn z=>Ma n z) ((λD=>Qu D):(List Int)->R (List Int)) (Ct λn z=>λfr h=>Av v (ix ids 0) g z.length/\fr=Ac [(7,v),(8,.I n)]/\h=hp h0 ids [Ccu v g 1 rJ z]) ((a.length:Int),a++(List.replicate (Int.toNat (wi r.2)) (0:Int)).drop a.length) ?_ ?_
 .exact⟨aa,O,O⟩
 rintro vW hW ⟨n,z⟩ fr h ⟨U,rfl,rfl⟩;refine Ae (m':=Ma n z) O (Ae (Ma.eq_1 _ _) ?_);refine go ?_;intro _;refine E4 O (λad=>?_) (λad=>?_)
 .refine A8<|A3<|Bx [0,0,0,6,0,0,48,126,255,511] [pR 0,pR 1,pR 2,pR 3,pR 4,pR 5,pR 6,pE 7,pR 8,pR 9] D2<|Be [] [(38,.I n),(39,v),(40,.I n)]<|Da λhs=>Az (.ref (ix ids 0) g (Int.toNat n) (z.length-(Int.toNat n))) O O (Ea (Bg7 (e:=rJ) (L:=z) (j:=0) S O U O Dr.eq Dn.eq O hs))<|go ?_;intro V;refine Az (.ref (ix ids 0) g 0 (Int.toNat n)) O O (Ea (Bhl (e:=rJ) (L:=z) (j:=0) S O U O Dr.eq Dn.eq O V))<|Cz O O (λ_ _=>O) (λK hK=>A7s (e:=rJ) (L:=z) (v:=v) (g:=g) (st:=1) (j:=0) S O O O O U O Dr.eq Dn.eq O (Dy hs) (Dy V) λae=>hK _ _ (A9 []) ?_);clear hK K;refine go ?_;exact D1 (Hl (hW ((wi (n+((min (Int.toNat n) (z.length-(Int.toNat n)):Nat):Int))),over z (Int.toNat n) (Int.toNat n)) _ _ ⟨ae,O,O⟩))
 refine Di O<|N7<|D1 (ab z _ _ ⟨U,O,O⟩)
instance A6j (a:List Int)(z:Int):CP prog 252 [(.K a),(.int .i64 z)] (Mv a z) (λ(x:List Int)=>(AV.sl 1 (List.map rJ x))):=(Ab0 a z).cp (λx=>Dw x)
def Art {l vfrom h0 o0 o1}(z:Ids h0 [o0,o1] 2):Vl l vfrom≠.bad->Bs prog 253 [.L 1 (rM (AV.int .u64) AV.bool) l,.int .i64 vfrom] (hp h0 [o0,o1] [none,none]) (Kn (λG v h'=>∃(D:Nat),∃(g3:Nat),v=(.func (.func 278) [] [.ptr o0 D 0 0,.ptr o1 g3 0 0])/\h'=hp h0 [o0,o1] [Ab D 1 [[.L 1 (rM (AV.int .u64) AV.bool) l]],Ab g3 1 [[.int .i64 vfrom]]]) h0 (Vl l vfrom)):=by refine Cd 0 func253 (Vl.eq_1 _ _) z ?_;rintro ids ⟨rfl,rfl,-⟩ O R S;exact gc
instance A8x (d other):CP prog 298 [.mapi (mE (AV.int .u64) AV.bool d),.mapi (mE (AV.int .u64) AV.bool other)] (Pl d other) (.int .i64):=by
 refine ci 19 1 func298 (Pl.eq_1 _ _) λh0 ids S hF=>go ?_;refine Bcl (j:=0) (E:=(λp:Int×Bool=>((AV.int .u64 p.1),AV.bool p.2))) (M:=d) S O O O O Ao9.eq O λv x U=>go ?_;refine Gh [1,4,7] ?_;refine Bit (P:=prog) d (λa=>λn=>Gs other a n) (((λn=>.ok n)):Int->R Int) (λvZ=>λn=>λfr h=>∃(V:AO),A0n (ix ids 0) (λp:Int×Bool=>((AV.int .u64 p.1),AV.bool p.2)) d v V vZ/\fr=Ac [(1,.mapi (mE (AV.int .u64) AV.bool other)),(4,.I n),(7,v)]/\h=hp h0 ids [some V]) 0 (λ_ hL=>Akp other hL) ?_ ?_
 .exact⟨x,U,O,O⟩
 rintro vZ W hW n fr h ⟨V,G,rfl,rfl⟩ m_ hm X;refine go ?_;refine Bgc (E:=(λp:Int×Bool=>((AV.int .u64 p.1),AV.bool p.2))) (M:=d) (j:=0) S O O O O O G (λhZ=>?_) (λa z x2 Y D=>?_)
 .obtain rfl:=hm hZ;refine go ?_;refine Ck 1<|gc
 obtain rfl:=X a z Y;refine Bb3 (m':=Gs other a n) O (Bb3 (Gs.eq_1 _ _ _) ?_);refine go ?_;refine Bcp S O O O O D<|go ?_;refine Au (.B (Option.getD (Dq other a.1) false)) O (G0 (T2 (eK:=(AV.int .u64)) (eV:=AV.bool) (zv:=false) O Ao9.eq Az1.eq Ya.eq Atd O).1)<|go ?_;refine N8 O (λhc=>?_) (λhc=>?_)
 .refine go ?_;exact D1 (Z4 (hW z n _ _ ⟨x2,D.ok,O,O⟩))
 refine go ?_;exact D1 (Z4 (hW z (wi (n+1)) _ _ ⟨x2,D.ok,O,O⟩))
instance Au3 (d other):CP prog 279 [.mapi (mE (AV.int .u64) AV.bool d),.mapi (mE (AV.int .u64) AV.bool other)] (X9 d other) AV.bool:=by refine ci 35 0 func279 (X9.eq_1 _ _) λh0 ids z D=>gc
variable{σ_:Type}
def Ap1(b:(List (List (Int×Bool))))(c:Int)(V:Int->σ_->R σ_)(S:σ_->Aa->Prop)(Y:YF)(o_ g_:Nat)(af:∀(U:Int),YOk prog Y o_ g_ [(.int .i64 U)] S (V U))(aa:∀(U:Int) (s:σ_) (v:PV),V U s≠.pan v)(s_:σ_)(ab:Aa)(ag:S s_ ab):Pg b c V s_≠.bad->Bs prog 278 [(.yld Y o_ g_),(.cp [(.L 1 (rM (AV.int .u64) AV.bool) b)] 0),(.cp [(.int .i64 c)] 0)] ab (Am6 S (Pg b c V s_)):=by
 refine Ans (n:=31) func278 O (by decide) O O<|D8 (Ae (Pg.eq_1 _ _ _ _) ?_);refine go ?_;intro ac;refine Gh [0,1,2,6,7] ?_;refine Ld (P:=prog) b (λj a=>λs=>Oq b c V j a s) (((λs=>.ok s)):σ_->R σ_) (λj=>λs=>λfr h=>∃(hh:Aa),S s hh/\fr=Ac [(0,.yld Y o_ g_),(1,.cp [.L 1 (rM (AV.int .u64) AV.bool) b] 0),(2,.cp [.I c] 0),(6,.I (b.length:Int)),(7,.I j)]/\hh=h) s_ ?_ ?_ ?_
 .exact⟨_,ag,O,O⟩
 .rintro j a ha W hW s fr h ⟨hh,G,rfl,rfl⟩;refine Ae (m':=Oq b c V j a s) O (Ae (Oq.eq_1 _ _ _ _ _ _) ?_);refine Ah<|Bl (.B (decide ((j:Int)<(b.length:Int))))<|Ad<|Ai<|Co O (AT.2 (A6 ha))<|A8<|Ai<|A3<|Ah<|Bp (.I j)<|Cm (.I j)<|Ad<|Ai<|Ra (λs2=>O2 s2) (λs2=>λfr h=>∃(X:Aa),S s2 X/\fr=Ac [(0,.yld Y o_ g_),(1,.cp [.L 1 (rM (AV.int .u64) AV.bool) b] 0),(2,.cp [.I c] 0),(6,.I (b.length:Int)),(7,.I j),(29,.B false)]/\X=h) ?_ λhJ=>?_
  .rintro s2 fr h ⟨X,ad,rfl,rfl⟩;refine Ae (O2.eq_1 _)<|go ?_;exact D1 (Z4 (hW s2 _ _ ⟨_,ad,O,O⟩)) (.r4 (.o (ic ha ac)))
  refine go ?_;refine On (λD=>?_) (λD=>?_)
  .refine Jr (tj:=13) (.L 1 (rM (AV.int .u64) AV.bool) b) O O (cb D) O (A7 (Y9 Asp.eq O))<|Jr (tj:=13) (.I c) O O (cb D) O (A7 (Y9 Dn.eq O))<|Ap5 λa1 hz ah=>Jr (tj:=13) (.cp [.mapi (mE (AV.int .u64) AV.bool a1)] 0) O O (cb D) O (Ay (Ajb Asp.eq Ao9.eq O hz ah))<|Jr (tj:=13) (.mapi (mE (AV.int .u64) AV.bool a1)) O O (cb D) O (A7 (Y9 Ao9.eq O))<|Jr (tj:=13) (.L 1 (rM (AV.int .u64) AV.bool) b) O O (cb D) O (A7 (Y9 Asp.eq O))<|Jr (tj:=13) (.I j) O O (cb D) O B2<|Jr (tj:=13) (.cp [.mapi (mE (AV.int .u64) AV.bool a)] 0) O O (cb D) O (Ay (Ex Asp.eq Ao9.eq O ha))<|Jr (tj:=13) (.mapi (mE (AV.int .u64) AV.bool a)) O O (cb D) O (A7 (Y9 Ao9.eq O))<|D7 _ O (C6 (tj:=13) O (cb D)) O O O ((Au3 a1 a) _) (λv _ _ _=>Avu func278 G) (Zc O (Aej O Ef)) λr _=>Az (.B r) O O (Aer (t:=true) (cb D) O)<|Az (.B r) O O B2<|On (λz=>?_) (λz=>?_)
   .refine Jr (tj:=24) (.yld Y o_ g_) O O (cb z) O B2<|Jr (tj:=24) (.I j) O O (cb z) O B2<|A2c (b:=V (j:Int)) (hw:=C6 (tj:=24) O (cb z)) O O O O G (af (j:Int)) (aa (j:Int) _) (λ_=>(Zc O (Zc O Ef))) λs1 ai aj ae=>?_;refine Jr (tj:=24) (.B false) O O (cb z) O (Bfz O)<|Az (.B false) O O (Aer (t:=true) (cb z) O)<|Fp<|D1 (hJ s1 _ _ ⟨_,ae,O,O⟩)
   refine Tf (tj:=24) (b:=false) O O (cb z) O O<|Tf (tj:=24) (b:=false) O O (cb z) O O<|Awf (tj:=24) (b:=false) O O (cb z) O O<|Tf (tj:=24) (b:=false) O O (cb z) O O<|Az (.B false) O O (Aer (t:=false) (cb z) O)<|Fp<|D1 (hJ s _ _ ⟨_,G,O,O⟩)
  refine Tf (tj:=13) (b:=false) O O (cb D) O O<|Tf (tj:=13) (b:=false) O O (cb D) O O<|Tf (tj:=13) (b:=false) O O (cb D) O O<|Tf (tj:=13) (b:=false) O O (cb D) O O<|Tf (tj:=13) (b:=false) O O (cb D) O O<|Tf (tj:=13) (b:=false) O O (cb D) O O<|Tf (tj:=13) (b:=false) O O (cb D) O O<|Tf (tj:=13) (b:=false) O O (cb D) O O<|Awf (tj:=13) (b:=false) O O (cb D) O O<|Az (.B false) O O (Aer (t:=false) (cb D) O)<|Az (.B false) O O B2<|Tf (tj:=24) (b:=false) O O O O O<|Tf (tj:=24) (b:=false) O O O O O<|Awf (tj:=24) (b:=false) O O O O O<|Tf (tj:=24) (b:=false) O O O O O<|Az (.B false) O O (Aer (t:=false) O O)<|Fp<|D1 (hJ s _ _ ⟨_,G,O,O⟩)
 rintro s fr h ⟨hh,G,rfl,rfl⟩;refine go ?_;exact Arn func278 O G
def Am3 (l:(List (List (Int×Bool))))(G:Int):Vv prog 219 [(.L 1 (rM (AV.int .u64) AV.bool) l),(.int .i64 G)] (Mw l G) 1 rJ:=by
 refine Gq (n:=48) 7 func219 O (by decide) O O λh0 ids z=>D8 (Ae (Mw.eq_1 _ _) ?_);refine Av9<|go ?_;refine Ch (e:=rJ) (L:=[-1]) (st:=1) (rows:=[[.I (-1)]]) O Dr.eq Dn.eq O O O O O (.cons (AB _) .nil) (λx=>Dw x) O O<|go ?_;intro _;refine Aon (j:=0) [.K [-1],.I (l.length:Int)] z O O O O O O ((Ab0 [-1] (l.length:Int)) _ _ (z.at O O)) (λv _=>H5 (Gz func219 z)) λr _ v g vH=>?_;refine D9 1 Dr.eq λg1=>Cw (De vH z O O O O Dr.eq O O O)<|Ad<|Bv ?_;refine Ah<|Ao 2 [1] [(14,.I G),(13,v)]<|Tp λa hz ac=>Au (.ptr (ix ids 0) g (Int.toNat G) 0) O (Ay (Rb z O vH O Dr.eq Dn.eq O hz ac))<|Cw (Xw (y:=0) z O O vH O ac Dn.eq O O O O O O) ?_;have an:=GG (i:=(Int.toNat G)) (y:=0) vH;have aw:=BO (a:=0) (A6 ac);refine go ?_;refine Blu (e:=rJ) (L:=[G]) (st:=1) (j:=2) (rows:=[[.I G]]) z O O O O Dr.eq Dn.eq O O O O O (.cons (AB _) .nil) (λx=>Dw x) O O O λv1 g2 ad=>D9 3 Dr.eq λg3=>Cw (De ad z O O O O Dr.eq O O O)<|Ad<|Bv ?_;refine Ai<|Ra (λl5=>Qn l5) (λl5=>λfr h=>Av v (ix ids 0) g l5.length/\fr=Ac [(5,.q ids 1 g1)]/\h=hp h0 ids [Ccu v g 1 rJ l5,Ab g1 1 [[v]],none,none,none,none,none,none]) ?_ λhJ=>?_
 .rintro l5 fr h ⟨ae,rfl,rfl⟩;refine Ae (Qn.eq_1 _)<|Ah<|Ao 2 [1] [(4,v)]<|Ad<|Ais (H5 (A5u (a:=l5) (v:=v) (g:=g) func219 z O O ae O))
 refine A3<|Gh [0,5,6] ?_;refine Ko (P:=prog) (Ct λl1 l2=>Mi l l1 l2) ((λl5=>Qn l5):(List Int)->R (List Int)) (Ct λl1 l2=>λfr h=>∃(v2:AV),∃(g4:Nat),Av v (ix ids 0) g l1.length/\Av v2 (ix ids 2) g4 l2.length/\fr=Ac [(0,.L 1 (rM (AV.int .u64) AV.bool) l),(5,.q ids 1 g1),(6,.q ids 3 g3)]/\h=hp h0 ids [Ccu v g 1 rJ l1,Ab g1 1 [[v]],Ccu v2 g4 1 rJ l2,Ab g3 1 [[v2]],none,none,none,none]) ((r.set (Int.toNat G) 0),[G]) ?_ ?_
 .exact⟨v1,g2,an,ad,O,O⟩
 rintro vW hW ⟨l1,l2⟩ fr h ⟨v2,g4,af,ag,rfl,rfl⟩;refine Ae (m':=Mi l l1 l2) O (Ae (Mi.eq_1 _ _ _) ?_);refine go ?_;intro _;refine E4 O (λhc=>?_) (λhc=>?_)
 .refine go ?_;refine A0a<|Ah<|Ao 1 [3] [(21,v2)]<|Tp λa1 ao ap=>Au (.ptr (ix ids 2) g4 (Int.toNat 0) 0) O (Ay (Rb z O ag O Dr.eq Dn.eq O ao ap))<|go ?_;intro g5 hs;refine A9v (e:=rJ) (L:=l2) (j:=2) O z O O O ag O O Dr.eq Dn.eq O hs λv3 g6 ah=>Cw (De ah z O O O O Dr.eq O O O)<|go ?_;refine A1r<|go ?_;refine Dj [5,6] z O O (Art (by exact z.sub' O O)) O O O O O O (λv _=>H5 (Gz func219 z)) ?_;rintro _ _ _ _ ⟨g7,g8,rfl,rfl⟩;refine Gj [5,6] z O O O ?_;refine D6<|go ?_;refine Aaw [Ccu v g 1 rJ l1,Ab g1 1 [[v]],Ccu v3 g6 1 rJ (l2.drop 1),Ab g3 1 [[v3]],Ab g5 1 [[.I a1]],none,none,none] [(0,.L 1 (rM (AV.int .u64) AV.bool) l),(5,.q ids 1 g1),(6,.q ids 3 g3),(7,.q ids 4 g5),(28,.func (.func 278) [] [.cp [.L 1 (rM (AV.int .u64) AV.bool) l] 0,.cp [.I a1] 0])] z O (.keep (.keep (.keep (.keep (.keep (.drop (.drop (.keep .nil)))))))) (.s (.s (.s (.s (.cons (.funcL .nil (.cons (.ptrL (z.at O O) (z.at O O) O (Pp _)) (.cons (.ptrL (z.at O O) (z.at O O) O (Pp _)) .nil))) .nil)))))<|Gh [0,5,6,7,28] ?_;refine Acd (P:=prog) 7 (λ(gL:Nat) (ai:Loop)=>Ct λW V=>λ(h1:Aa)=>∃(S:AV),∃(Y:Nat),Av v (ix ids 0) g W.length/\Av S (ix ids 2) Y V.length/\h1=hp h0 ids [Ccu v g 1 rJ W,Ab g1 1 [[v]],Ccu S Y 1 rJ V,Ab g3 1 [[S]],Ab g5 1 [[.I a1]],none,none,some (.blk gL (.loop ai))]:Nat->Loop->((List Int)×(List Int))->Aa->Prop) O O z O O O λgL ax ai ab aj=>⟨?_,?_,?_,?_⟩
  .refine Ap1 l a1 _ _ _ _ _ (λX=>Aky ab (by decide) O aj ?_ ?_) (λ_ _ _=>R.np_ne _ _) _ _ ?_
   .rintro⟨W,V⟩ _ ⟨S,Y,D,U,rfl⟩;exact z.at O O
   .rintro ay ⟨W,V⟩ _ ⟨S,Y,D,U,rfl⟩;refine Ax7 (D8 (Ae (m':=Ir a1 X W V) O (Ae (Ir.eq_1 _ _ _ _) ?_)));refine Apx [(29,.I X),(0,.L 1 (rM (AV.int .u64) AV.bool) l),(5,.q ids 1 g1),(6,.q ids 3 g3),(7,.q ids 4 g5),(28,.func (.func 278) [] [.cp [.L 1 (rM (AV.int .u64) AV.bool) l] 0,.cp [.I a1] 0])] (Abl _ _ _)<|go ?_;refine Uz z O O O ab.ready<|Bv ?_;refine A3<|Ai<|Ah<|Ao 2 [1] [(31,.I X),(30,v)]<|Tp λa3 ak aa=>Au (.ptr (ix ids 0) g (Int.toNat X) 0) O (Ay (Rb z O D O Dr.eq Dn.eq O ak aa))<|go ?_;refine E4 O (λaq=>?_) (λaq=>?_)
    .refine Di O<|Ai5 (s:=(W,V)) (jL:=7) z O O O ⟨S,Y,D,U,O⟩
    refine A8<|Ai<|Bx [0,0,0,0,12,28,60,127,255] [pR 0,pR 1,pR 2,pR 3,pR 4,pR 5,pR 6,pR 7,pE 8] D2<|Be [1,1,4] [(35,v),(36,.I X),(37,v),(38,.I a1)]<|Ap5 λa4 ar al=>Az (.ptr (ix ids 0) g (Int.toNat a1) 0) O O (Ay (Rb z O D O Dr.eq Dn.eq O ar al))<|Az (.I a4) O O (A7 (Ajg z O D O al Dn.eq O))<|Be [] [(41,.I (wi (a4+1)))]<|Az (.ptr (ix ids 0) g (Int.toNat X) 0) O O (Ay (Rb z O D O Dr.eq Dn.eq O ak aa))<|Cv O (λ_ _=>O) (λK hK=>Bi (Xw (y:=(wi (a4+1))) z O O D O aa Dn.eq O O O O O O) (hK _ _ Bh ?_));clear hK K;have au:=GG (i:=(Int.toNat X)) (y:=(IntKind.wrap .i64 (a4+1))) D;have az:=BO (a:=(IntKind.wrap .i64 (a4+1))) (A6 aa);refine Fp<|Bv ?_;refine A4<|Ao 2 [3] [(44,.I X),(43,S)]<|Ch (e:=rJ) (L:=[X]) (st:=1) (rows:=[[.I X]]) O Dr.eq Dn.eq O O O O O (.cons (AB _) .nil) (λx=>Dw x) O O<|Cf λhl=>Ce (e:=rJ) (L:=V) (L2:=[X]) (v:=S) (g:=Y) (st:=1) (j:=2) z O O O O U O (B7 O) Dr.eq Dr.eq O Dn.eq O O O hl λv5 av am=>Cw (De am z O O O O Dr.eq O O O)<|go ?_;exact Ai5 (s:=((W.set (Int.toNat X) (wi (a4+1))),V++[X])) (jL:=7) z O O O ⟨v5,av,au,am,O⟩
   exact⟨v3,g6,af,ah,O⟩
  .rintro⟨W,V⟩ _ ⟨S,Y,D,U,rfl⟩;exact z.at O O
  .rintro⟨W,V⟩ _ _ ⟨S,Y,D,U,rfl⟩;refine Amk [Ccu v g 1 rJ W,Ab g1 1 [[v]],Ccu S Y 1 rJ V,Ab g3 1 [[S]],Ab g5 1 [[.I a1]],none,none,none] z O O O<|Ci<|A7p<|Ci<|Ck 16<|D1 (Hl (hW (W,V) _ _ ⟨S,Y,D,U,O,O⟩))
  rintro v6 _ ⟨W,V⟩ _ ⟨S,Y,D,U,rfl⟩;refine Amd [Ccu v g 1 rJ W,Ab g1 1 [[v]],Ccu S Y 1 rJ V,Ab g3 1 [[S]],Ab g5 1 [[.I a1]],none,none,none] z O O O<|H5 (Gz func219 z)
 refine Di O<|N7<|Ck 12<|D1 (hJ l1 _ _ ⟨af,O,O⟩)
instance A52 (l:(List (List (Int×Bool))))(z:Int):CP prog 219 [(.L 1 (rM (AV.int .u64) AV.bool) l),(.int .i64 z)] (Mw l z) (λ(x:List Int)=>(AV.sl 1 (List.map rJ x))):=(Am3 l z).cp (λx=>Dw x)
instance Bck (a):CP prog 164 [.A (Aj a)] (Wo a) (λp=>AV.tup [.int .i64 p.1,.int .i64 p.2.1,.B p.2.2.1,.int .i64 p.2.2.2]):=by
 refine ci 21 1 func164 (Wo.eq_1 _) λh0 ids R S=>go ?_;intro g r _;refine N8 O (λD=>?_) (λD=>?_)
 .refine go ?_;intro r1 _ G _;refine E4 O (λz=>?_) (λz=>?_)
  .refine go ?_;exact rt (hz:=by exact .tupL (.s (.s .s2)))
  refine go ?_;exact rt (hz:=by exact .tupL (.s (.s .s2)))
 refine go ?_;exact rt (hz:=by exact .tupL (.s (.s .s2)))
instance Bel (ok wrong):CP prog 165 [.B ok,.int .i64 wrong] (Pr ok wrong) (.int .i64):=by refine ci 8 0 func165 (Pr.eq_1 _ _) λh0 ids z D=>gc
instance A8a (a):CP prog 163 [.A (Aj a)] (P0 a) (.int .i64):=by refine ci 17 1 func163 (P0.eq_1 _) λh0 ids z D=>gc
instance Bgx:CP prog 220 [] (Ae3) (λx=>(AV.agg (Anp x))):=by refine ci 4 1 func220 Ae3.eq_1 λh0 ids z D=>Ah<|D9 0 Bw.eq λg=>Ad<|Bv ?_;refine Ah<|Ao 2 [] [(2,.q ids 0 g),(1,.A ((rV rF) (#v[255,256,257,259,260]:(Vector Nat 5))))]<|Gk (.A ((rV rF) (#v[255,256,257,259,260]:(Vector Nat 5)))) ?_;refine Ad<|Bv ?_;refine Ah<|Ao 1 [0] [(3,.A ((rV rF) (#v[255,256,257,259,260]:(Vector Nat 5))++[]))] ?_;refine Gk (.A (List.append ((rV rF) (#v[255,256,257,259,260]:(Vector Nat 5))) [])) ?_;refine Ad<|Vi (a:=({fValid:=(#v[255,256,257,259,260]:(Vector Nat 5))}:T303)) (vs:=[.A ((rV rF) (#v[255,256,257,259,260]:(Vector Nat 5))++[])]) func220 z (Aw (Ar z O O O Bw.eq O) A0) (.aggL (Bai _ .nil))
instance Ar0 (a r):CP prog 254 [.A (Aj a),.A (Bk r)] (Y1 a r) AV.bool:=by refine ci 5 2 func254 (Y1.eq_1 _ _) λh0 ids z D=>gc
instance Bcc (s):CP prog 120 [.A (Ax s)] (Y5 s) AV.bool:=by refine ci 18 1 func120 (Y5.eq_1 _) λh0 ids z D=>gc
instance Axm (s):CP prog 200 [.L 2 Ax s,.func (.func 120) [] []] (L9 s) (.int .i64):=by
 refine ci 19 0 func200 (L9.eq_1 _) λh0 ids z D=>go ?_;intro _;refine Ph [0,1,7] 8 (λ_=>[]) (λ_=>[]) ?_ ?_
 .rintro j a _ G _ W _;refine Ae (Oh.eq_1 _ _)<|gc
 rintro _;exact gc
instance Auq (s):CP prog 119 [.L 2 Ax s,.func (.func 120) [] []] (Jl s) AV.bool:=by refine ci 9 0 func119 (Jl.eq_1 _) λh0 ids z D=>gc
instance Avg (l):CP prog 45 [.L 2 Ax l] (T4 l) (.int .i64):=by refine ci 5 0 func45 (T4.eq_1 _) λh0 ids z D=>gc
instance Ar1 (a r):CP prog 255 [.A (Aj a),.A (Bk r)] (Zs a r) AV.bool:=by
 refine ci 28 2 func255 (Zs.eq_1 _ _) λh0 ids W X=>Ah<|Ip 0 (.A (Aj a)) λg=>Ip 1 (.A (Bk r)) λg1=>Cm (.B false)<|Ad<|Bv ?_;refine Ah<|Ao 4 [1] [(8,.B (r.N==0))]<|Oc 4 8 12 [2,3] (.B ((r.N==0)&&(decide (r.Airport>=0)))) O ?_ (λz _ S=>?_) (λz _ S=>?_)
 .refine Bp (.B ((r.N==0)&&(decide (r.Airport>=0))))<|Oc 7 13 20 [3] (.B (((r.N==0)&&(decide (r.Airport>=0)))&&(decide (r.Airport<(a.Airports.length:Int))))) O ?_ (λD _ G=>?_) (λD _ G=>?_)
  .refine Bp (.B (((r.N==0)&&(decide (r.Airport>=0)))&&(decide (r.Airport<(a.Airports.length:Int)))))<|G9 6 21 27 [] .bool O ?_ (λU _ R=>?_) (λU _ R=>?_)
   .intro b;refine Cm (.B b)<|Ad<|rt
   .refine Ao 2 [1] [(23,.A (Ax r.Hours))]<|Bj1 (tj:=21) O O O (λ_ _=>O) (λK V=>Dd (e:=Ax) (L:=[r.Hours]) (st:=2) (rows:=[[.I r.Hours.From,.I r.Hours.To]]) B2k.eq Px.eq O O O O O (.cons (AB _) .nil) (λx=>Gu x) O O (V _ _ ?_));clear V K;refine oc ((Avg [r.Hours]) _) λr1 _=>Ao 2 [] [(27,.B (r1==0))]<|A6m (R (r1==0))
   refine Ao 6 [] [(27,.B false)]<|A6m (R false)
  .refine Ao 4 [1,0] [(17,.L 2 Dh a.Airports),(15,.I r.Airport)]<|F5 (tj:=13) (.I (a.Airports.length:Int)) O O O (D4 (Jy Bxi.eq))<|Ao 2 [] [(20,.B (decide (r.Airport<(a.Airports.length:Int))))]<|Ib G (.r (.cons (Afb D) .nil))
  refine Ao 7 [] [(20,.B false)]<|Ib G (.r (.cons (Afc D) .nil))
 .refine Ao 4 [1] [(12,.B (decide (r.Airport>=0)))]<|Ib S (.r2 (.cons (Afb z) .nil))
 refine Ao 4 [] [(12,.B false)]<|Ib S (.r2 (.cons (Afc z) .nil))
instance Avp (r):CP prog 257 [.A (Bk r)] (Q5 r) AV.bool:=by
 refine ci 12 1 func257 (Q5.eq_1 _) λh0 ids G R=>go ?_;intro g;refine Oc 5 6 11 [] (.B ((r.Airport==0)&&((r.Hours.From==0)&&(r.Hours.To==0)))) O ?_ (λz _ D=>?_) (λz _ D=>?_)
 .exact gc
 .refine Ao 3 [0] [(9,.A [.I 0,.I 0]),(8,.A (Ax r.Hours))]<|F5 (tj:=6) (.B ((r.Hours.From==0)&&(r.Hours.To==0))) O O O (Bb (Bhd O O) O Bhn)<|gc
 exact gc
instance Ars (a r):CP prog 256 [.A (Aj a),.A (Bk r)] (Zd a r) AV.bool:=by refine ci 12 2 func256 (Zd.eq_1 _ _) λh0 ids z D=>gc
instance Arx (a r):CP prog 258 [.A (Aj a),.A (Bk r)] (Zf a r) AV.bool:=by refine ci 17 2 func258 (Zf.eq_1 _ _) λh0 ids z D=>gc
instance Ary (a r):CP prog 259 [.A (Aj a),.A (Bk r)] (Zj a r) AV.bool:=by
 refine ci 23 2 func259 (Zj.eq_1 _ _) λh0 ids V W=>Ah<|Ip 0 (.A (Aj a)) λg=>Ip 1 (.A (Bk r)) λg1=>Cm (.B false)<|Ad<|Bv ?_;refine Ah<|Ao 1 [1] [(5,.A (Bk r))]<|oc ((Avp r) _) λr1 _=>Bp (.B r1)<|Oc 4 7 11 [3] (.B (r1&&(decide (r.N>=0)))) O ?_ (λz _ R=>?_) (λz _ R=>?_)
 .refine Bp (.B (r1&&(decide (r.N>=0))))<|Oc 4 12 16 [3] (.B ((r1&&(decide (r.N>=0)))&&(decide (r.N<=60)))) O ?_ (λD _ G=>?_) (λD _ G=>?_)
  .refine Bp (.B ((r1&&(decide (r.N>=0)))&&(decide (r.N<=60))))<|Oc 5 17 22 [] (.B (((r1&&(decide (r.N>=0)))&&(decide (r.N<=60)))&&((Int.tmod r.N 10)==0))) O ?_ (λS _ U=>?_) (λS _ U=>?_)
   .exact gc
   .refine Ao 2 [1] [(19,.I r.N)]<|F5 (tj:=17) (.I (Int.tmod r.N 10)) O O O (Bb O O (Amc O (by decide)))<|gc
   exact gc
  .refine Ao 4 [1] [(16,.B (decide (r.N<=60)))]<|Ib G (.r (.cons (Afb D) .nil))
  refine Ao 4 [] [(16,.B false)]<|Ib G (.r (.cons (Afc D) .nil))
 .refine Ao 4 [1] [(11,.B (decide (r.N>=0)))]<|Ib R (.r (.cons (Afb z) .nil))
 refine Ao 4 [] [(11,.B false)]<|Ib R (.r (.cons (Afc z) .nil))
def Ar4 {r s0 s1 h0 o0 o1 g g1}(S:Ids h0 [o0,o1] 2):CGS prog 221 h0 [o0,o1] (Vd r s0 s1) [.A (Bk r),.ptr o0 g 0 0,.ptr o1 g1 0 0] [Ab g 8 [Aj s0],Ab g1 5 [Anp s1]] (λW=>(.B W)):=by
 refine Cd 1 func221 (Vd.eq_1 _ _ _) S ?_;rintro ids ⟨rfl,rfl,-⟩ R X Y;refine go ?_;intro V;refine On (λU=>?_) (λU=>?_)
 .refine U2 (t:=8) U O<|gc
 refine U2 (t:=8) U O<|Be [2] [(9,.q ids 2 V),(10,.I r.Kind),(11,.B (decide (r.Kind>=5))),(12,.B (decide (r.Kind>=5))),(13,.B (decide (r.Kind>=5)))]<|On (λz=>?_) (λz=>?_)
 .refine U2 (t:=13) z O<|gc
 refine U2 (t:=13) z O<|Be [2] [(14,.ptr (ix ids 2) V 0 3),(15,.I r.Class),(16,.B (decide (r.Class<0))),(17,.B (decide (r.Class<0))),(18,.B (decide (r.Class<0)))]<|On (λD=>?_) (λD=>?_)
 .refine U2 (t:=18) D O<|gc
 refine U2 (t:=18) D O<|go ?_;refine On (λG=>?_) (λG=>?_)
 .refine U2 (t:=26) G O<|gc
 refine U2 (t:=26) G O<|go ?_;intro hi;refine Jr (tj:=26) (.ptr (ix ids 1) g1 0 (Int.toNat r.Kind)) O O O O (Ay (Ho Bh6.eq Bw7.eq O hi))<|Jr (tj:=26) (fnE (Ap s1.fValid (Int.toNat r.Kind) 0)) O O O O (A7 (Ar R O O O Bw7.eq (Et (e:=rF) (E:=(λx:Nat=>(fnE x))) (λ_=>O) (Dy hi) 0)))<|Be [0,2] [(32,.A (Aj s0)),(33,.A (Bk r))]<|Ku (λhf=>?_) (λ_=>?_)
 .refine Atz (t:=31) hf O<|D7 _ O (C6 (tj:=26) O O) O O O ((Ar0 s0 r) _) (λv _ _ _=>Cr (K:=2) (N:=1) func221 R) Bh λr1 _=>gc
 refine Ku (λhf=>?_) (λ_=>?_)
 .refine Atz (t:=31) hf O<|D7 _ O (C6 (tj:=26) O O) O O O ((Ar1 s0 r) _) (λv _ _ _=>Cr (K:=2) (N:=1) func221 R) Bh λr2 _=>gc
 refine Ku (λhf=>?_) (λ_=>?_)
 .refine Atz (t:=31) hf O<|D7 _ O (C6 (tj:=26) O O) O O O ((Ars s0 r) _) (λv _ _ _=>Cr (K:=2) (N:=1) func221 R) Bh λr3 _=>gc
 refine Ku (λhf=>?_) (λ_=>?_)
 .refine Atz (t:=31) hf O<|D7 _ O (C6 (tj:=26) O O) O O O ((Arx s0 r) _) (λv _ _ _=>Cr (K:=2) (N:=1) func221 R) Bh λr4 _=>gc
 refine Ku (λhf=>?_) (λ_=>?_)
 .refine Atz (t:=31) hf O<|D7 _ O (C6 (tj:=26) O O) O O O ((Ary s0 r) _) (λv _ _ _=>Cr (K:=2) (N:=1) func221 R) Bh λr5 _=>gc
 exact Ajq
def Af6 {s s0 s1 h0 o0 o1 g g1}(z:Ids h0 [o0,o1] 2):CGS prog 237 h0 [o0,o1] (Lq s s0 s1) [.L 8 Bk s,.func (.func 221) [] [.ptr o0 g 0 0,.ptr o1 g1 0 0]] [Ab g 8 [Aj s0],Ab g1 5 [Anp s1]] (λD=>(.int .i64 D)):=by
 refine Cd 0 func237 (Lq.eq_1 _ _ _) z ?_;rintro ids ⟨rfl,rfl,-⟩ G O R;refine go ?_;intro _;refine Ph [0,1,7] 8 (λ_=>[]) (λ_=>[Ab g 8 [Aj s0],Ab g1 5 [Anp s1]]) ?_ ?_
 .rintro j a _ S _ W _;refine Ae (Oy.eq_1 _ _ _ _)<|go ?_;refine cG [0,1] Ar4 ?_;rintro r _ _ _ ⟨rfl,rfl⟩;exact gc
 rintro _;exact gc
def Ab4 {s s0 s1 h0 o0 o1 g g1}(z:Ids h0 [o0,o1] 2):CGS prog 222 h0 [o0,o1] (Jn s s0 s1) [.L 8 Bk s,.func (.func 221) [] [.ptr o0 g 0 0,.ptr o1 g1 0 0]] [Ab g 8 [Aj s0],Ab g1 5 [Anp s1]] (λD=>(.B D)):=by refine Cd 0 func222 (Jn.eq_1 _ _ _) z ?_;rintro ids ⟨rfl,rfl,-⟩ G O R;refine go ?_;refine cG [0,1] Af6 ?_;rintro r _ _ _ ⟨rfl,rfl⟩;exact gc
instance Bhe (a):CP prog 166 [.A (Aj a)] (Tv a) (.int .i64):=by
 refine ci 17 2 func166 (Tv.eq_1 _) λh0 ids z R=>go ?_;intro g r _ g1;refine Bjf (.A (Anp r)) (Bcv r) ?_;refine Ad<|Bv ?_;refine Ah<|Ao 2 [] [(4,.func (.func 221) [] [.q ids 0 g,.q ids 1 g1])]<|Ad<|Ai<|Ah<|Ao 2 [0] [(8,.L 8 Bk a.Rules)]<|E7 a.Rules<|Ao 2 [] [(11,.B (decide ((a.Rules.length:Int)>64)))]<|G9 5 11 16 [] .bool O ?_ (λD _ G=>?_) (λD _ G=>?_)
 .refine go ?_;intro b;exact gc
 .exact gc
 refine Ao 3 [0] [(14,.func (.func 221) [] [.q ids 0 g,.q ids 1 g1]),(13,.L 8 Bk a.Rules)]<|Dj [0,1] z O O (Ab4 (by exact z.sub' O O)) O O O (C6 (tj:=11) O O) O O (λv _=>Es func166 z) ?_;rintro r1 _ _ _ ⟨rfl,rfl⟩;refine Gj [0,1] z O O O ?_;refine D6<|gc
def Asl {n h0 o0}(z:Ids h0 [o0] 1):Wy n≠.bad->Bs prog 227 [.int .i64 n] (hp h0 [o0] [none]) (Kn (λD v h'=>∃(g1:Nat),v=(.func (.func 261) [] [.ptr o0 g1 0 0])/\h'=hp h0 [o0] [Ab g1 1 [[.int .i64 n]]]) h0 (Wy n)):=by refine Cd 0 func227 (Wy.eq_1 _) z ?_;rintro ids ⟨rfl,-⟩ G O R;exact gc
def Ar3{ε_:Type}(b:Int)(D:Int->Int->σ_->R (σ_ ⊕ ε_))(z:(σ_ ⊕ ε_)->Aa->Prop)(y_:YF)(o_ g_:Nat)(ah:∀(G:Int) (S:Int),Bc5 prog y_ o_ g_ [(.int .i64 G),(.int .i64 S)] z (D G S))(aa:∀(G:Int) (S:Int) (s:σ_) (v:PV),D G S s≠.pan v)(s_:σ_)(ab:Aa)(ai:z (.inl s_) ab):Q8 b D s_≠.bad->Bs prog 261 [(.yld y_ o_ g_),(.cp [(.int .i64 b)] 0)] ab (Am6 z (Q8 b D s_)):=by
 refine Ans (n:=22) func261 O (by decide) O O<|D8 (Ae (Q8.eq_1 _ _ _) ?_);refine Ah<|Bl (.I b)<|Bp (.I 0)<|Ad<|Ra (λs4=>Us s4) (λs4=>λfr h=>∃(V:Aa),z (.inl s4) V/\fr=Ac []/\V=h) ?_ λaj=>?_
 .rintro s4 fr h ⟨V,ac,rfl,rfl⟩;refine Ae (Us.eq_1 _)<|Arn func261 O ac
 refine A3<|Gh [0,1,5,6] ?_;refine Ko (P:=prog) (Ct λx s=>Qh b D x s) ((alt (λs4=>Us s4) (λr=>.ok r)):(σ_ ⊕ (σ_ ⊕ ε_))->R (σ_ ⊕ ε_)) (Ct λx s=>λfr h=>∃(hh:Aa),z (.inl s) hh/\fr=Ac [(0,.yld y_ o_ g_),(1,.cp [.I b] 0),(5,.I b),(6,.I x)]/\hh=h) (0,s_) ?_ ?_
 .exact⟨_,ai,O,O⟩
 rintro vW hW ⟨x,s⟩ fr h ⟨hh,ad,rfl,rfl⟩;refine Ae (m':=Qh b D x s) O (Ae (Qh.eq_1 _ _ _ _) ?_);refine go ?_;refine E4 O (λhc=>?_) (λhc=>?_)
 .refine A8<|Ai<|A3<|Ah<|Bp (.I x)<|Cm (.I x)<|Ad<|Ah<|Bp (.I x)<|Bl (.I (wi (x+1)))<|Cm (.I (wi (x+1)))<|Ad<|Ra (λW=>Qi x W) (λW=>λfr h=>∃(X:Aa),z (.inl W) X/\fr=Ac [(0,.yld y_ o_ g_),(1,.cp [.I b] 0),(5,.I b),(6,.I x)]/\X=h) ?_ λhJ=>?_
  .rintro W fr h ⟨X,ae,rfl,rfl⟩;refine Ae (Qi.eq_1 _ _)<|Ci<|A4<|Bl (.I (wi (x+1)))<|Bp (.I (wi (x+1)))<|Ad<|D1 (Hl (hW ((wi (x+1)),W) _ _ ⟨_,ae,O,O⟩))
  refine A3<|Gh [0,1,3,4,5,6] ?_
  refine Ko (P:=prog) (Ct λk s1=>Qb b D x k s1) ((alt (λW=>Qi x W) (λr=>.ok (.inr (.inr (r))))):(σ_ ⊕ (σ_ ⊕ ε_))->R ((Int×σ_) ⊕ (σ_ ⊕ (σ_ ⊕ ε_)))) (Ct λk s1=>λfr h=>∃(Y:Aa),z (.inl s1) Y/\fr=Ac [(0,.yld y_ o_ g_),(1,.cp [.I b] 0),(3,.I x),(4,.I k),(5,.I b),(6,.I x)]/\Y=h) ((wi (x+1)),s) ?_ ?_
  .exact⟨_,ad,O,O⟩
  rintro am ak ⟨k,s1⟩ fr h ⟨Y,U,rfl,rfl⟩
  refine Ae (m':=Qb b D x k s1) O (Ae (Qb.eq_1 _ _ _ _ _) ?_)
  refine go ?_
  refine E4 O (λal=>?_) (λal=>?_)
  .refine go ?_;refine A81 (b:=D x k) O O O U (ah x k) (aa x k _) (λs2 hb an af=>?_) (λe ao ap ag=>?_)
   .refine Bl (.B false)<|Ad<|Gv false O<|A8<|Ci<|A4<|Bp (.I k)<|Bl (.I (wi (k+1)))<|Cm (.I (wi (k+1)))<|Ad<|D1 (Hl (ak ((wi (k+1)),s2) _ _ ⟨_,af,O,O⟩))
   refine Bl (.B true)<|Ad<|Gv true O<|N7<|Aud<|N7<|Aud<|Bgz func261 O ag
  refine Di O<|N7<|A07<|D1 (hJ s1 _ _ ⟨_,U,O,O⟩)
 refine go ?_;exact D1 (aj s _ _ ⟨_,ad,O,O⟩)
instance Asv (a y):CP prog 228 [.A (Bk a),.A (Bk y)] (Wl a y) AV.bool:=by refine ci 60 2 func228 (Wl.eq_1 _ _) λh0 ids z D=>gc
instance Bcr (a):CP prog 260 [.int .i64 a] (Ss a) AV.bool:=by refine ci 6 0 func260 (Ss.eq_1 _) λh0 ids z D=>gc
instance Af7 (a y):CP prog 225 [.int .i64 a,.int .i64 y] (Ly a y) (.int .i64):=by refine ci 20 0 func225 (Ly.eq_1 _ _) λh0 ids z D=>gc
instance Abn (s1 s2):CP prog 226 [.K s1,.K s2] (Lb s1 s2) (.int .i64):=by
 refine ci 36 0 func226 (Lb.eq_1 _ _) λh0 ids z D=>go ?_;intro _;refine Ph [0,1,9,10] 11 (λ_=>[]) (λ_=>[]) ?_ ?_
 .rintro j a _ G _ W _;refine Ae (U6.eq_1 _ _ _)<|gc
 rintro _;exact gc
instance Aou (vals):CP prog 224 [.K vals] (Y8 vals) (.int .i64):=by
 refine ci 18 0 func224 (Y8.eq_1 _) λh0 ids z D=>go ?_;intro _;refine Ph [3,6,7] 8 (λ_=>[]) (λ_=>[]) ?_ ?_
 .rintro j a _ G _ W _;refine Ae (Ag8.eq_1 _)<|gc
 rintro _;exact gc
def Aod {set h0 o0 g}(R:Ids h0 [o0] 1):Df prog 223 h0 [o0] (P2 set) [.K set,.ptr o0 g 0 0] [Ab g 1 [[.emp]]] (λU=>(.tup [])) (λU=>[Ab g 1 [[.K U]]]):=by
 refine Cd 0 func223 (P2.eq_1 _) R ?_;rintro ids ⟨rfl,-⟩ G W S;refine Ai<|jn (λx=>G5 set x) [0,1] (λx=>[(23,.B x)]) (λx=>[Ab g 1 [[.emp]]]) ?_ λ_=>?_
 .rintro x;refine Ae (G5.eq_1 _ _)<|By ?_;refine Bo O (λV=>?_) (λV=>?_)
  .exact gc
  refine A8<|Al8 (K:=1) (N:=0) (a:=[]) (vs:=[]) [Ab g 1 [[.K []]]] func223 G O O O (.fz (.cons (.emp _) .nil) O (Bc O Rm) .nil) (.same _) ⟨O,O⟩
 refine Bx [0,1,3,7,15,31,63,127,255,511,255,1279,4095,255,255,32767,65535,131071,262143,524287,1048575] [pR 0,pR 1,pR 2,pR 3,pR 4,pR 5,pR 6,pR 7,pR 8,pR 9,pR 10,pR 11,pR 13,pR 14,pE 12,pE 15,pE 16,pE 17,pR 18,pR 19,pR 20] D2<|go ?_;refine On (λD=>?_) (λD=>?_)
 .refine U2 (t:=6) D O<|Be [0] [(7,.emp)]<|Jr (tj:=6) (.I 0) O O O O (D4 (Arh Dr.eq))<|Be [] [(9,.B (0==0)),(10,.B (0==0))]<|On (λz=>?_) (λz=>?_)
  .refine U2 (t:=10) z O<|gc
  refine U2 (t:=10) z O<|go ?_
  refine Jr (tj:=10) (.I 0) O O O O (D4 (Arh Dr.eq))<|Be [0] [(16,.K set),(17,.emp)]<|D7 _ O (C6 (tj:=10) O O) O O O ((Af7 (set.length:Int) 0) _) (λv _ _ _=>Cr (K:=1) (N:=0) func223 G) (A9 [0]) λr _=>D7 _ O (C6 (tj:=10) O O) O O O (λD=>FO (.s (.cons (.emp _) .nil)) ((Abn set []) _ D)) (λv _ _ _=>Cr (K:=1) (N:=0) func223 G) Bh λr1 _=>A9h (tj:=10) O O O O (λ_ _=>O) (λK S=>Dd (e:=rJ) (L:=[r,r1]) (st:=1) (rows:=[[.I r],[.I r1]]) Dr.eq Dn.eq O O O O O (.cons (AB _) (.cons (AB _) .nil)) (λx=>Dw x) O O (S _ _ Bh ?_))
  clear S K
  refine D7 _ O (C6 (tj:=10) O O) O O O ((Aou [r,r1]) _) (λv _ _ _=>Cr (K:=1) (N:=0) func223 G) Bh λr2 _=>gc
 refine U2 (t:=6) D O<|gc
def S8 (z:List Int)(b:List Rule):Vv prog 262 [(.K z),(.cp [(.L 8 Bk b)] 0)] (K8 z b) 2 Ax:=by
 refine Gq (n:=22) 0 func262 O (by decide) O O λh0 ids S=>D8 (Ae (K8.eq_1 _ _) ?_);refine go ?_;intro _;refine Kl (g0:=0) [1,6,7] 8 0 (λD=>D) (λD v=>[(3,v)]) (λD v g=>[Ccu v g 2 Ax D]) .nil ?_ ?_
 .rintro j a D v g U _ G W hW;refine Ae (Z2.eq_1 _ _ _)<|By ?_;refine Ah<|Bl (.B (decide ((j:Int)<(z.length:Int))))<|Ad<|Ai<|Fs (t:=6) (L:=z) O λV=>Co O (AT.2 (A6 U))<|A8<|Ai<|A3<|Ah<|Au (.cp [.I a] 0) O (Ay (Ex Dr.eq Dn.eq O U))<|Ao 2 [] [(5,.I a)]<|Ad<|A4<|Ao 3 [] [(14,.I a),(13,.L 8 Bk b),(12,v)]<|Tp λa1 hz R=>Au (.cp (Bk a1) 0) O (Ay (Ajb Byb.eq Om.eq O hz R))<|Ao 2 [] [(17,.A (Ax a1.Hours))]<|Ch (e:=Ax) (L:=[a1.Hours]) (st:=2) (rows:=[[.I a1.Hours.From,.I a1.Hours.To]]) O B2k.eq Px.eq O O O O O (.cons (AB _) .nil) (λx=>Gu x) O O ?_;refine Cf λX=>Ce (e:=Ax) (L:=D) (L2:=[a1.Hours]) (v:=v) (g:=g) (st:=2) (j:=0) S O O O O G O (B7 O) B2k.eq B2k.eq O Px.eq O O O X λv1 g1 Y=>gc
 rintro D v g G;refine go ?_;exact Gg (a:=D) (v:=v) (g:=g) func262 S O O G O
instance Bcd (z:List Int)(b:List Rule):CP prog 262 [(.K z),(.cp [(.L 8 Bk b)] 0)] (K8 z b) (λ(x:List Span)=>(AV.sl 2 (List.map Ax x))):=(S8 z b).cp (λx=>Gu x)
def Abt (s:List Span):Vv prog 280 [(.L 2 Ax s)] (P4 s) 2 Ax:=by
 refine Gq (n:=8) 0 func280 O (by decide) O O λh0 ids z=>Uo (P4.eq_1 _)<|go ?_;refine Aet (L:=s) O B2k.eq O λc G=>Ad ?_;by_cases D:s.length*16<=Bj;case neg=>rw[if_neg D];exact Ajj
 rw[if_pos D];refine Gv c O ?_;cases c with
 |true=>have R:=G rfl;subst R;refine Ah<|Cm .emp<|Ad<|Gg (a:=[]) (v:=.emp) (g:=0) func280 z O O .nil O
 |false=>refine A8<|Ah<|Aj7 O B2k.eq Px.eq<|Bp (.L 2 Ax s)<|Ce (e:=Ax) (L:=[]) (L2:=s) (v:=.emp) (g:=0) (st:=2) (j:=0) z O O O O .nil O (B7 O) B2k.eq B2k.eq O Px.eq O O O (by simpa using D) λv g H=>Cm v<|Ad<|Gg (a:=s) (v:=v) (g:=g) func280 z O O H O
instance A7k (s:List Span):CP prog 280 [(.L 2 Ax s)] (P4 s) (λx=>.L 2 Ax x):=(Abt s).cp (λx=>Gu x)
def Aa0 {l h0 o0}(D:Ids h0 [o0] 1):Qx l≠.bad->Bs prog 285 [.L 2 Ax l] (hp h0 [o0] [none]) (Kn (λU v h'=>∃(R:Nat),v=(.ptr o0 R 0 0)/\h'=hp h0 [o0] [Ab R 1440 [(rV rB) U]]) h0 (Qx l)):=by
 refine Cd 1 func285 (Qx.eq_1 _) D ?_;rintro ids ⟨rfl,-⟩ S X Y;refine Bv ?_;refine Ah<|Cm .nilp<|Ad<|Ah<|O0 (j:=0) (row:=((rV rB) (G3 1440 false))) S O O O O Buz.eq (Wm (n:=1440) (e:=rB) (E:=AV.bool) (λ_=>O) _).symm ((Oz (λx=>A6f x) O) _) λg=>go ?_;intro _;refine Ui [3,7,8] 9 (λo=>[]) (λo=>[Ab g 1440 [(rV rB) o],none]) ?_ ?_
 .rintro j a o ha _ W _;refine Ae (Wx.eq_1 _ _)<|go ?_;intro g1;refine Au (.I (if 0>a.From then 0 else a.From)) O (A03 O)<|Cm (.I (if 0>a.From then 0 else a.From))<|Ad<|jn (λz=>Agt z) [3,7,8,9] (λz=>[]) (λz=>[Ab g 1440 [(rV rB) z],none]) ?_ λ_=>?_
  .rintro z;refine Ae (Agt.eq_1 _)<|By ?_;refine Ci<|A4<|Ao 2 [] [(9,.I (wi ((j:Int)+1)))]<|Ad<|gc
  refine A3<|lpL [3,5,7,8,9] (Ct λm G=>[(6,.I m)]) (Ct λm G=>[Ab g 1440 [(rV rB) G],Ab g1 2 [Ax a]]) ?_;rintro⟨m,G⟩ W _;refine Ae (Po.eq_1 _ _ _)<|go ?_;refine Au (.I (if 1440<a.To then 1440 else a.To)) O (Bap O)<|go ?_;refine E4 O (λV=>?_) (λV=>?_)
  .refine go ?_;intro hi;refine Au (.ptr (ix ids 0) g 0 (Int.toNat m)) O (Ay (Ho Buz.eq Ya.eq O hi))<|Cw (Yo (e:=rB) (E:=AV.bool) (x:=true) (λ_=>O) S O O O Ya.eq O O (Dy hi) O O O)<|gc
  refine go ?_;refine Ck 2<|gc
 rintro o;exact gc
instance Arr (a y):CP prog 281 [.B a,.B y] (Ael a y) AV.bool:=by refine ci 10 0 func281 (Ael.eq_1 _ _) λh0 ids z D=>gc
def Ac8 {s h0 o0 o1 g}(z:Ids h0 [o0,o1] 2):Jf s≠.bad->Bs prog 287 [.ptr o0 g 0 0] (hp h0 [o0,o1] [Ab g 1440 [(rV rB) s],none]) (Kn (λG v h'=>∃(D:Nat),v=(.func (.func 311) [] [.ptr o1 D 0 0])/\h'=hp h0 [o0,o1] [Ab g 1440 [(rV rB) s],Ab D 1 [[.ptr o0 g 0 0]]]) h0 (Jf s)):=by refine Cd 0 func287 (Jf.eq_1 _) z ?_;rintro ids ⟨rfl,rfl,-⟩ O R S;exact gc
def Amy(b:(Vector Bool 1440))(U:Span->σ_->R σ_)(S:σ_->Aa->Prop)(y_:YF)(o_ g_:Nat)(ai:∀(V:Span),YOk prog y_ o_ g_ [(.A (Ax V))] S (U V))(ac:∀(V:Span) (s:σ_) (v:PV),U V s≠.pan v)(s_:σ_)(ad:Aa)(aj:S s_ ad):Le b U s_≠.bad->Bs prog 311 [(.yld y_ o_ g_),(.cp [(.cp ((rV rB) b) 0)] 0)] ad (Am6 S (Le b U s_)):=by
 refine Ans (n:=35) func311 O (by decide) O O<|D8 (Ae (Le.eq_1 _ _ _) ?_);refine Ah<|Cm (.I 0)<|Ad<|Ra (λs4=>H7 s4) (λs4=>λfr h=>∃(X:Aa),S s4 X/\fr=Ac []/\X=h) ?_ λak=>?_
 .rintro s4 fr h ⟨X,ae,rfl,rfl⟩;refine Ae (H7.eq_1 _)<|Arn func311 O ae
 refine A3<|Gh [0,1,3] ?_;refine Ko (P:=prog) (Ct λz s=>C4 b U z s) ((λs4=>H7 s4):σ_->R σ_) (Ct λz s=>λfr h=>∃(hh:Aa),S s hh/\fr=Ac [(0,.yld y_ o_ g_),(1,.cp [.cp ((rV rB) b) 0] 0),(3,.I z)]/\hh=h) (0,s_) ?_ ?_
 .exact⟨_,aj,O,O⟩
 rintro vW hW ⟨z,s⟩ fr h ⟨hh,Y,rfl,rfl⟩;refine Ae (m':=C4 b U z s) O (Ae (C4.eq_1 _ _ _ _) ?_);refine go ?_;refine E4 O (λhc=>?_) (λhc=>?_)
 .refine go ?_;intro hi;refine Au (.cp ((rV rB) b) (Int.toNat z)) O (Ay (Axj Buz.eq Ya.eq O hi))<|Au (.B (Ap b (Int.toNat z) false)) O (A7 (Y9 Ya.eq (Et (e:=rB) (E:=AV.bool) (λ_=>O) (Dy hi) false)))<|go ?_;refine N8 O (λal=>?_) (λal=>?_)
  .refine A8<|Ah<|Bp (.I z)<|Bl (.I (wi (z+1)))<|Cm (.I (wi (z+1)))<|Ad<|Ai<|Ra (Ct λD s2=>H9 U z D s2) (Ct λD s2=>λfr h=>∃(aa:Aa),S s2 aa/\fr=Ac [(0,.yld y_ o_ g_),(1,.cp [.cp ((rV rB) b) 0] 0),(3,.I z),(4,.I D)]/\aa=h) ?_ λam=>?_
   .rintro⟨D,s2⟩ fr h ⟨aa,af,rfl,rfl⟩;refine Ae (H9.eq_1 _ _ _ _)<|Ai<|Ah<|Bp (.yld y_ o_ g_)<|Bp (.I z)<|Bp (.I D)<|Bl (.A [.I z,.I D])<|Bec (b:=U ({From:=z,To:=D}:Span)) O O O af (ai ({From:=z,To:=D}:Span)) (ac ({From:=z,To:=D}:Span) _) λs3 aq ar ag=>Bl (.B false)<|Ad<|Gv false O<|A8<|A4<|Bp (.I D)<|Cm (.I D)<|Ad<|Ci<|A4<|Bp (.I D)<|Bl (.I (wi (D+1))) ?_;refine Cm (.I (wi (D+1)))<|Ad<|D1 (Hl (hW ((wi (D+1)),s3) _ _ ⟨_,ag,O,O⟩))
   refine A3<|Gh [0,1,3,4] ?_
   refine Ko (P:=prog) (Ct λG s1=>Dz b G s1) ((Ct λD s2=>H9 U z D s2):(Int×σ_)->R ((Int×σ_) ⊕ σ_)) (Ct λG s1=>λfr h=>∃(ab:Aa),S s1 ab/\fr=Ac [(0,.yld y_ o_ g_),(1,.cp [.cp ((rV rB) b) 0] 0),(3,.I z),(4,.I G)]/\ab=h) ((wi (z+1)),s) ?_ ?_
   .exact⟨_,Y,O,O⟩
   rintro au an ⟨G,s1⟩ fr h ⟨ab,W,rfl,rfl⟩
   refine Ae (m':=Dz b G s1) O (Ae (Dz.eq_1 _ _ _) ?_)
   refine Ai<|Ah<|Bp (.I G)<|Bl (.B (decide (G<1440)))<|Bp (.B (decide (G<1440)))<|G9 6 19 25 [0,1,3,4] .bool O ?_ (λao _ hJ=>?_) (λao _ hJ=>?_)
   .intro b1;refine Ad<|Bo O (λap=>?_) (λap=>?_)
    .refine go ?_;exact D1 (Hl (an ((wi (G+1)),s1) _ _ ⟨_,W,O,O⟩))
    refine Di O<|N7<|D1 (am (G,s1) _ _ ⟨_,W,O,O⟩)
   .refine go ?_;intro ah;refine F5 (tj:=19) (.cp ((rV rB) b) (Int.toNat G)) O O O (Ay (Axj Buz.eq Ya.eq O ah))<|F5 (tj:=19) (.B (Ap b (Int.toNat G) false)) O O O (A7 (Y9 Ya.eq (Et (e:=rB) (E:=AV.bool) (λ_=>O) (Dy ah) false)))<|gc
   exact gc
  refine go ?_;exact D1 (Hl (hW ((wi (z+1)),s) _ _ ⟨_,Y,O,O⟩))
 refine go ?_;exact D1 (ak s _ _ ⟨_,Y,O,O⟩)
def Ady {s1 h0 o0 o1 o2 g g1}(X:Ids h0 [o0,o1,o2] 3):Hd s1≠.bad->Bs prog 310 [.emp,.func (.func 311) [] [.ptr o0 g 0 0]] (hp h0 [o0,o1,o2] [Ab g 1 [[.ptr o1 g1 0 0]],Ab g1 1440 [(rV rB) s1],none]) (Kn (λa_ v h'=>∃(Y:AV),∃(g6:Nat),Av Y o2 g6 a_.length/\Y=v/\h'=hp h0 [o0,o1,o2] [none,none,Ccu Y g6 2 Ax a_]) h0 (Hd s1)):=by
 refine Cd 3 func310 (Hd.eq_1 _) X ?_;rintro ids ⟨rfl,rfl,rfl,-⟩ z hF hK;refine Bv ?_;refine Av9<|Ah<|Ip 3 .emp λG=>go ?_;refine Aaw [none,none,none,Ab G 1 [[.emp]],none,none] [(2,.q ids 3 G),(6,.func (.func 311) [] [.cp [.cp ((rV rB) s1) 0] 0])] z O (.drop (.drop (.keep (.keep (.keep (.keep .nil)))))) (.s (.cons (.funcL .nil (.cons (.ptrL (z.at O O) (z.at O O) O (.cons (.ptrL (z.at O O) (z.at O O) ((Oz (λx=>A6f x) O) _).1 (Pp _)) .nil)) .nil)) .nil))<|Gh [2,6] ?_;refine Acd (P:=prog) 4 (λ(gL:Nat) (U:Loop)=>λl=>λ(h1:Aa)=>∃(v1:AV),∃(g3:Nat),Av v1 (ix ids 2) g3 l.length/\h1=hp h0 ids [none,none,Ccu v1 g3 2 Ax l,Ab G 1 [[v1]],some (.blk gL (.loop U)),none]:Nat->Loop->(List Span)->Aa->Prop) O O z O O O λgL aa U D V=>⟨?_,?_,?_,?_⟩
 .refine Amy s1 _ _ _ _ _ (λa=>Aky D (by decide) O V ?_ ?_) (λ_ _ _=>R.np_ne _ _) _ _ ?_
  .rintro l _ ⟨v1,g3,S,rfl⟩;exact z.at O O
  .rintro ab l _ ⟨v1,g3,S,rfl⟩;refine Ax7 (D8 (Ae (m':=F7 a l) O (Ae (F7.eq_1 _ _) ?_)));refine Apx [(7,.A (Ax a)),(2,.q ids 3 G),(6,.func (.func 311) [] [.cp [.cp ((rV rB) s1) 0] 0])] (Abl _ _ _)<|A4<|D9 5 Px.eq λg4=>Gk (.A (Ax a)) ?_;refine Ad<|Bv ?_;refine Uz z O O O D.ready<|Bv ?_;refine A3<|A4<|Ao 2 [3,5] [(9,.A (Ax a)),(8,v1)]<|Ch (e:=Ax) (L:=[a]) (st:=2) (rows:=[[.I a.From,.I a.To]]) O B2k.eq Px.eq O O O O O (.cons (AB _) .nil) (λx=>Gu x) O O<|Cf λhl=>Ce (e:=Ax) (L:=l) (L2:=[a]) (v:=v1) (g:=g3) (st:=2) (j:=2) z O O O O S O (B7 O) B2k.eq B2k.eq O Px.eq O O O hl λv2 g5 W=>Cw (De W z O O O O B2k.eq O O O)<|go ?_;refine Ck 32<|Ai5 (s:=(l++[a])) (jL:=4) z O O O ⟨v2,g5,W,O⟩
  exact⟨.emp,0,.nil,O⟩
 .rintro l _ ⟨v1,g3,S,rfl⟩;exact z.at O O
 .rintro l _ _ ⟨v1,g3,S,rfl⟩;refine Amk [none,none,Ccu v1 g3 2 Ax l,Ab G 1 [[v1]],none,none] z O O O<|go ?_;exact Ais (H5 (Bi2 (K:=3) (N:=3) (a:=l) (vs:=[v1]) [none,none,Ccu v1 g3 2 Ax l] func310 z O O O (.keep (.keep (.keep (.drop (.keep (.keep .nil)))))) (.same _) ⟨v1,g3,S,O,O⟩))
 rintro v3 _ l _ ⟨v1,g3,S,rfl⟩;refine Amd [none,none,Ccu v1 g3 2 Ax l,Ab G 1 [[v1]],none,none] z O O O<|H5 (Cr (K:=3) (N:=3) func310 z)
def Vt {s1 h0 o0 o1 o2 g g1}(z:Ids h0 [o0,o1,o2] 3):E5 s1≠.bad->Bs prog 286 [.func (.func 311) [] [.ptr o0 g 0 0]] (hp h0 [o0,o1,o2] [Ab g 1 [[.ptr o1 g1 0 0]],Ab g1 1440 [(rV rB) s1],none]) (Kn (λD v h'=>∃(v2:AV),∃(g3:Nat),Av v2 o2 g3 D.length/\v2=v/\h'=hp h0 [o0,o1,o2] [none,none,Ccu v2 g3 2 Ax D]) h0 (E5 s1)):=by refine Cd 0 func286 (E5.eq_1 _) z ?_;rintro ids ⟨rfl,rfl,rfl,-⟩ G O R;refine go ?_;refine cG [0,1,2] Ady ?_;rintro r _ _ _ ⟨v1,S,U,rfl,rfl⟩;exact gc
def Ade (a:List Span)(b:List Span):Vv prog 269 [(.L 2 Ax a),(.L 2 Ax b),(.func (.func 281) [] [])] (N5 a b) 2 Ax:=by
 refine Gq (n:=37) 3 func269 O (by decide) O O λh0 ids z=>D8 (Ae (N5.eq_1 _ _) ?_);refine go ?_;refine Dj [1] z O O (Aa0 (by exact z.sub' O O)) O O O O O O (λv _=>Gz func269 z) ?_;rintro d _ _ _ ⟨g,rfl,rfl⟩;refine Gj [1] z O O O ?_;refine D6<|Bp (.L 2 Ax b)<|Dj [2] z O O (Aa0 (by exact z.sub' O O)) O O O O O O (λv _=>Gz func269 z) ?_;rintro e _ _ _ ⟨g1,rfl,rfl⟩;refine Gj [2] z O O O ?_;refine D6<|go ?_;refine Ui [2,7,8] 14 (λo=>[]) (λo=>[none,Ab g 1440 [(rV rB) o],Ab g1 1440 [(rV rB) e],none]) ?_ ?_
 .rintro j a1 o D _ W _;refine Ae (W9.eq_1 _ _ _)<|By ?_;refine Ah<|Bl (.B (decide ((j:Int)<1440)))<|Ad<|Ai<|Co O (by have:=(Cs D).1;omega)<|A8<|Ai<|A3<|Ah<|Ao 2 [] [(9,.I j)]<|Ad<|Bx [0,0,0,0,0,8,56,120,0,0,256,1792,3840,8188,1,32767,65535] [pR 0,pR 1,pR 2,pR 3,pR 4,pR 5,pR 6,pR 7,pR 8,pR 9,pR 10,pR 11,pR 12,pR 14,pE 13,pR 15,pE 16] D2<|Be [] [(17,.q ids 1 g),(18,.I j),(19,.func (.func 281) [] []),(20,.q ids 1 g),(21,.I j),(22,.q ids 1 g)]<|Az (.ptr (ix ids 1) g 0 j) O O (Ay (C8 Buz.eq Ya.eq O (Cs D).1))<|Az (.B (Ap o j false)) O O (A7 (Ar z O O O Ya.eq (Et (e:=rB) (E:=AV.bool) (λ_=>O) (Cs D).1 false)))<|Be [] [(25,.q ids 2 g1),(26,.I j),(27,.q ids 2 g1)]<|Az (.ptr (ix ids 2) g1 0 j) O O (Ay (C8 Buz.eq Ya.eq O (Cs D).1))<|Az (.B (Ap e j false)) O O (A7 (Ar z O O O Ya.eq (Et (e:=rB) (E:=AV.bool) (λ_=>O) (Cs D).1 false)))<|Be [] [(31,.q ids 1 g)] ?_;refine D7 _ O O O O O ((Arr (Ap o j false) (Ap e j false)) _) (λv _ _ _=>Gz func269 z) (A9 []) λr _=>Az (.ptr (ix ids 1) g 0 j) O O (Ay (C8 Buz.eq Ya.eq O (Cs D).1))<|Cv O (λ_ _=>O) (λK G=>Bi (Yo (e:=rB) (E:=AV.bool) (x:=r) (λ_=>O) z O O O Ya.eq O O (Cs D).1 O O O) (G _ _ Bh ?_));clear G K;exact gc
 rintro o;refine By ?_;refine Ah<|Bl (.B (decide (((List.range 1440).length:Int)<1440)))<|Ad<|Ai<|Eb O (by simp)<|go ?_;refine Dj [1,3] z O O (Ac8 (by exact z.sub' O O)) O O O O O O (λv _=>Gz func269 z) ?_;rintro _ _ _ _ ⟨S,rfl,rfl⟩;refine Gj [1,3] z O O O ?_;refine D6<|Dj [3,1,0] z O O (Vt (by exact z.sub' O O)) O O O O O O (λv _=>Gz func269 z) ?_;rintro r2 _ _ _ ⟨v,g3,R,rfl,rfl⟩;refine Gj [3,1,0] z O O O ?_;refine D6<|go ?_;exact Gg (a:=r2) (v:=v) (g:=g3) func269 z O O R O
instance A8d (a:List Span)(b:List Span):CP prog 269 [(.L 2 Ax a),(.L 2 Ax b),(.func (.func 281) [] [])] (N5 a b) (λ(x:List Span)=>(AV.sl 2 (List.map Ax x))):=(Ade a b).cp (λx=>Gu x)
def Akv (a:List Span)(b:List Span):Vv prog 265 [(.L 2 Ax a),(.L 2 Ax b)] (W5 a b) 2 Ax:=by refine Gq (n:=8) 0 func265 O (by decide) O O λh0 ids z=>D8 (Ae (Avc _ _) ?_);refine go ?_;refine Aon (j:=0) [.L 2 Ax a,.L 2 Ax b,.func (.func 281) [] []] z O O O O O O ((Ade a b) _ _ (z.at O O)) (λv _=>Gz func265 z) λr _ v g D=>go ?_;exact Gg (a:=r) (v:=v) (g:=g) func265 z O O D O
instance Bg2 (a:List Span)(b:List Span):CP prog 265 [(.L 2 Ax a),(.L 2 Ax b)] (W5 a b) (λ(x:List Span)=>(AV.sl 2 (List.map Ax x))):=(Akv a b).cp (λx=>Gu x)
instance Axt (covered some1):CP prog 263 [.L 2 Ax covered,.L 2 Ax some1] (Zn covered some1) (.int .i64):=by
 refine ci 57 3 func263 (Zn.eq_1 _ _) λh0 ids G hF=>Ah<|Cm (.I 0)<|Ad<|Ah<|Bp (.L 2 Ax covered)<|Aon (j:=2) [.L 2 Ax covered] G O O O O O O ((Abt covered) _ _ (G.at O O)) (λv _=>Es func263 G) λl _ v g vH=>go ?_;refine Gh [1,4,5] ?_;refine Ko (P:=prog) (Ct λn l1=>W0 some1 n l1) ((λr=>.ok r):Int->R Int) (Ct λn l1=>λfr h=>∃(v1:AV),∃(g1:Nat),Av v1 (ix ids 2) g1 l1.length/\fr=Ac [(1,.L 2 Ax some1),(4,.I n),(5,v1)]/\h=hp h0 ids [none,none,Ccu v1 g1 2 Ax l1]) (0,l) ?_ ?_
 .exact⟨v,g,vH,O,O⟩
 rintro vW hW ⟨n,l1⟩ fr h ⟨v1,g1,S,rfl,rfl⟩;refine Ae (m':=W0 some1 n l1) O (Ae (W0.eq_1 _ _ _) ?_);refine go ?_;refine Ch (e:=Ax) (L:=[({From:=0,To:=1440}:Span)]) (st:=2) (rows:=[[.I 0,.I 1440]]) O B2k.eq Px.eq O O O O O (.cons .s2 .nil) (λx=>Gu x) O O<|Bp v1<|oc (Vv.lend (Akv [({From:=0,To:=1440}:Span)] l1) (EW (.s (.cons (Ca S (G.at O O) O (λx=>Gu x)) .nil))) (λx=>Gu x) (λx c V=>by simp only[Ax,AN,BW,or_false]at V;rcases V with rfl|rfl<;>exact .int _ _)) λrest _=>?_;refine go ?_;intro _;refine Bo O (λV=>?_) (λV=>?_)
 .exact gc
 refine go ?_;intro g2 _;refine Ui [1,4,5,6,7,21,22] 23 (Ct λz D=>[]) (Ct λz D=>[Ab g2 2 [[.I z,.I D]],none,Ccu v1 g1 2 Ax l1]) ?_ ?_
 .rintro j a ⟨z,D⟩ ha _ W _;refine Ae (Ahh.eq_1 _ _ _ _)<|By ?_;refine Ah<|Bl (.B (decide ((j:Int)<(some1.length:Int))))<|Ad<|Ai<|Fs (t:=1) (L:=some1) O λac=>Co O (AT.2 (A6 ha))<|A8<|Ai<|A3<|Ah<|Au (.cp (Ax a) 0) O (Ay (Ex B2k.eq Px.eq O ha))<|Bl (.A (Ax a))<|D9 1 Px.eq λg3=>Gk (.A (Ax a)) ?_;refine Ad<|Bv ?_;refine Ai<|jn (λU=>Sp z D a U) [1,4,5,6,7,9,21,22,23] (λU=>[(45,.B U)]) (λU=>[Ab g2 2 [[.I z,.I D]],Ab g3 2 [Ax a],Ccu v1 g1 2 Ax l1]) ?_ λ_=>?_
  .rintro U;refine Ae (Sp.eq_1 _ _ _ _)<|By ?_;refine Bo O (λX=>?_) (λX=>?_)
   .refine go ?_;refine Ck 2<|gc
   refine go ?_;refine Ck 2<|gc
  refine go ?_;intro a1 hz ad;refine On (λY=>?_) (λY=>?_)
  .refine U2 (t:=34) Y O<|go ?_;refine Jr (tj:=34) (.I (if D>a1.From then D else a1.From)) O O O O (A03 O)<|gc
  refine U2 (t:=34) Y O<|gc
 rintro⟨z,D⟩;refine go ?_;refine Bo O (λaa=>?_) (λaa=>?_)
 .exact gc
 refine A8<|Ah<|Ao 2 [0] [(52,.A [.I z,.I D]),(51,v1)]<|Ch (e:=Ax) (L:=[({From:=z,To:=D}:Span)]) (st:=2) (rows:=[[.I z,.I D]]) O B2k.eq Px.eq O O O O O (.cons .s2 .nil) (λx=>Gu x) O O<|Cf λhl=>Ce (e:=Ax) (L:=l1) (L2:=[({From:=z,To:=D}:Span)]) (v:=v1) (g:=g1) (st:=2) (j:=2) G O O O O S O (B7 O) B2k.eq B2k.eq O Px.eq O O O hl λv2 g4 ab=>go ?_;refine Ck 1<|D1 (Hl (hW ((wi (n+1)),l1++[({From:=z,To:=D}:Span)]) _ _ ⟨v2,g4,ab,O,O⟩))
def Acv (s:List Int):Vv prog 264 [(.K s)] (Rl s) 1 rJ:=by
 refine Gq (n:=8) 0 func264 O (by decide) O O λh0 ids z=>Uo (Rl.eq_1 _)<|go ?_;refine Aet (L:=s) O Dr.eq O λc G=>Ad ?_;by_cases D:s.length*8<=Bj;case neg=>rw[if_neg D];exact Ajj
 rw[if_pos D];refine Gv c O ?_;cases c with
 |true=>have R:=G rfl;subst R;refine Ah<|Cm .emp<|Ad<|Gg (a:=[]) (v:=.emp) (g:=0) func264 z O O .nil O
 |false=>refine A8<|Ah<|Aj7 O Dr.eq Dn.eq<|Bp (.K s)<|Ce (e:=rJ) (L:=[]) (L2:=s) (v:=.emp) (g:=0) (st:=1) (j:=0) z O O O O .nil O (B7 O) Dr.eq Dr.eq O Dn.eq O O O (by simpa using D) λv g H=>Cm v<|Ad<|Gg (a:=s) (v:=v) (g:=g) func264 z O O H O
instance A8k (s:List Int):CP prog 264 [(.K s)] (Rl s) (λx=>.L 1 rJ x):=(Acv s).cp (λx=>Dw x)
instance Avo (l some1):CP prog 229 [.L 8 Bk l,.K some1] (Aan l some1) (λx=>(AV.sl 1 (List.map rJ x))):=by
 refine ci 61 2 func229 (Aan.eq_1 _ _) λh0 ids X hF=>go ?_;intro g;refine A0a<|go ?_;refine oc (Vv.lend (S8 some1 l) (EW (.s (.cons (.ptrL (X.at O O) O O (Pp _)) .nil))) (λx=>Gu x) (λx c Y=>by simp only[Ax,AN,BW,or_false]at Y;rcases Y with rfl|rfl<;>exact .int _ _)) λr _=>?_;refine oc (λhb=>FO (.cons (.emp _) .s1) ((Axt [] r) _ hb)) λmany _=>go ?_;refine E4 O (λY=>?_) (λY=>?_)
 .refine go ?_;exact rt (hz:=by exact .emp _)
 refine go ?_;refine A1r<|Ai<|Ra (λV=>Yz V) (λV=>λfr h=>fr=Ac [(4,.K V)]/\h=hp h0 ids [none,none]) ?_ λaa=>?_
 .rintro V fr h ⟨rfl,rfl⟩;refine Ae (Yz.eq_1 _)<|gc
 refine A3<|Baz [(1,.K some1),(4,.K []),(5,.func (.func 262) [] [.q ids 0 g]),(6,.I many)] (HN _) (.s (.cons (.emp _) .s2)) O O<|Ko (P:=prog) (Ct λz set=>Vh l many z set) ((λV=>Yz V):(List Int)->R (List Int)) (Ct λz set=>λfr h=>fr=Ac [(1,.K z),(4,.K set),(5,.func (.func 262) [] [.q ids 0 g]),(6,.I many)]/\h=hp h0 ids [Ab g 1 [[.L 8 Bk l]],none]) (some1,[]) ?_ ?_
 .exact⟨O,O⟩
 rintro vW hW ⟨z,set⟩ fr h ⟨rfl,rfl⟩;refine Ae (m':=Vh l many z set) O (Ae (Vh.eq_1 _ _ _ _) ?_);refine go ?_;intro _;refine E4 O (λac=>?_) (λac=>?_)
 .refine A8<|Ra (Ct λD U=>Zi D U) (Ct λD U=>λfr h=>∃(v2:AV),∃(g3:Nat),Av v2 (ix ids 1) g3 U.length/\fr=Ac [(1,.K D),(4,v2),(5,.func (.func 262) [] [.q ids 0 g]),(6,.I many)]/\h=hp h0 ids [Ab g 1 [[.L 8 Bk l]],Ccu v2 g3 1 rJ U]) ?_ λad=>?_
  .rintro⟨D,U⟩ fr h ⟨v2,g3,ae,rfl,rfl⟩;refine Ae (Zi.eq_1 _ _)<|Baz (h2:=hp h0 ids [Ab g 1 [[.L 8 Bk l]],none]) [(1,.K D),(4,.K U),(5,.func (.func 262) [] [.q ids 0 g]),(6,.I many)] (Drops.sub (.keep (.drop .nil)) X.len) (.s (.cons (Ca ae (X.at O O) (X.at O O) (λx=>Dw x)) .s2)) O O<|Hl<|hW (D,U) _ _<|⟨O,O⟩
  refine go ?_
  intro _
  refine Ph [5,6,22,23] 24 (Ct λG S=>[(1,.K G),(4,.K S)]) (Ct λG S=>[Ab g 1 [[.L 8 Bk l]],none]) ?_ ?_
  .rintro j a ⟨G,S⟩ ha _ W _;refine Ae (Aen.eq_1 _ _ _ _ _ _)<|By ?_;refine Ah<|Bl (.B (decide ((j:Int)<(z.length:Int))))<|Ad<|Ai<|Fs (t:=22) (L:=z) O λag=>Co O (AT.2 (A6 ha))<|A8<|Ai<|A3<|Ah<|Bp (.I j)<|Au (.cp [.I a] 0) O (Ay (Ex Dr.eq Dn.eq O ha))<|Ao 3 [] [(8,.I a),(7,.I j)]<|Ad<|Ah<|Bp (.K S)<|Aon (j:=1) [.K S] X O O O O O O ((Acv S) _ _ (X.at O O)) (λv _=>Es func229 X) λr1 _ v g1 vH=>Au (.I a) O B2 ?_;refine Ch (e:=rJ) (L:=[a]) (st:=1) (rows:=[[.I a]]) O Dr.eq Dn.eq O O O O O (.cons (AB _) .nil) (λx=>Dw x) O O<|Cf λhl=>Ce (e:=rJ) (L:=r1) (L2:=[a]) (v:=v) (g:=g1) (st:=1) (j:=1) X O O O O vH O (B7 O) Dr.eq Dr.eq O Dn.eq O O O hl λv1 g2 ab=>Cm v1<|Ad<|Bv ?_;refine Ai<|Bx [0,0,3,0,0,0,32,112,255,511,1023] [pR 0,pR 1,pR 3,pR 4,pR 5,pR 6,pR 7,pE 2,pE 8,pE 9,pR 10] D2<|go ?_;intro hs;refine Ll (Vv.lend (S8 (r1++[a]) l) (EW (.cons (Ca ab (X.at O O) O (λx=>Dw x)) (.cons (.ptrL (X.at O O) O O (Pp _)) .nil))) (λx=>Gu x) (λx c Y=>by simp only[Ax,AN,BW,or_false]at Y;rcases Y with rfl|rfl<;>exact .int _ _)) (hpd:=(Ag O (Ea (Am0 Dr.eq Dn.eq O hs)) (Ag O (Bb O O O) (Ag O B2 (Ag O B2 (Ag O B2 (Q7 O Ef))))))) λr2 _=>?_;refine Ll (Vv.lend (S8 (G.drop (Int.toNat (wi ((j:Int)+1)))) l) (EW (.s (.cons (.ptrL (X.at O O) O O (Pp _)) .nil))) (λx=>Gu x) (λx c Y=>by simp only[Ax,AN,BW,or_false]at Y;rcases Y with rfl|rfl<;>exact .int _ _)) λr3 _=>?_;refine go ?_;intro n _;refine Bo O (λaf=>?_) (λaf=>?_)
   .refine go ?_;intro ah;exact D1 (ad ((G.drop (Int.toNat (wi ((j:Int)+1)))),r1++[a]) _ _ ⟨v1,g2,ab,O,O⟩)
   refine go ?_;refine Ck 2<|gc
  rintro⟨G,S⟩
  refine Ae (Awj _ _ _)<|Ae (Bjx _ _ _)<|By ?_
  refine Ah<|Bl (.B (decide ((z.length:Int)<(z.length:Int))))<|Ad<|Ai<|Eb O (CF _)<|Di O<|Di O<|N7<|Ck 1<|D1 (aa S _ _ ⟨O,O⟩)
 refine Di O<|N7<|Ck 1<|D1 (aa set _ _ ⟨O,O⟩)
def Aol {set s h0 o0 g}(D:Ids h0 [o0] 1):Df prog 223 h0 [o0] (Qg set s) [.K set,.ptr o0 g 0 0] [Ab g 1 [[.K s]]] (λU=>(.tup [])) (λU=>[Ab g 1 [[.K U]]]):=by
 refine Cd 0 func223 (Qg.eq_1 _ _) D ?_;rintro ids ⟨rfl,-⟩ G V R;refine Ai<|jn (λx=>G7 set s x) [0,1] (λx=>[(23,.B x)]) (λx=>[Ab g 1 [[.K s]]]) ?_ λ_=>?_
 .rintro x;refine Ae (G7.eq_1 _ _ _)<|gc
 refine Bx [0,1,3,7,15,31,63,127,255,511,255,1279,4095,255,255,32767,65535,131071,262143,524287,1048575] [pR 0,pR 1,pR 2,pR 3,pR 4,pR 5,pR 6,pR 7,pR 8,pR 9,pR 10,pR 11,pR 13,pR 14,pE 12,pE 15,pE 16,pE 17,pR 18,pR 19,pR 20] D2<|go ?_;refine On (λS=>?_) (λS=>?_)
 .refine U2 (t:=6) S O<|go ?_;refine On (λz=>?_) (λz=>?_)
  .refine U2 (t:=10) z O<|gc
  refine U2 (t:=10) z O<|Be [] [(11,.K set)]<|Jr (tj:=10) (.I (set.length:Int)) O O O O (D4 (Jy Dr.eq))<|Be [0] [(13,.K s)]<|Jr (tj:=10) (.I (s.length:Int)) O O O O (D4 (Jy Dr.eq))<|Be [0] [(16,.K set),(17,.K s)]<|D7 _ O (C6 (tj:=10) O O) O O O ((Af7 (set.length:Int) (s.length:Int)) _) (λv _ _ _=>Cr (K:=1) (N:=0) func223 G) (A9 [0]) λr _=>D7 _ O (C6 (tj:=10) O O) O O O ((Abn set s) _) (λv _ _ _=>Cr (K:=1) (N:=0) func223 G) Bh λr1 _=>A9h (tj:=10) O O O O (λ_ _=>O) (λK R=>Dd (e:=rJ) (L:=[r,r1]) (st:=1) (rows:=[[.I r],[.I r1]]) Dr.eq Dn.eq O O O O O (.cons (AB _) (.cons (AB _) .nil)) (λx=>Dw x) O O (R _ _ Bh ?_));clear R K;refine D7 _ O (C6 (tj:=10) O O) O O O ((Aou [r,r1]) _) (λv _ _ _=>Cr (K:=1) (N:=0) func223 G) Bh λr2 _=>gc
 refine U2 (t:=6) S O<|gc
instance Bfi (a):CP prog 168 [.A (Aj a)] (Xz a) (λp=>AV.tup [.K p.1,.int .i64 p.2]):=by
 refine ci 90 7 func168 (Xz.eq_1 _) λh0 ids D hF=>Av9<|Ah<|Ip 0 (.A (Aj a)) λg=>D9 1 Dr.eq λg1=>Cm (.I 0)<|Ad<|Bv ?_;refine Ai<|Ah<|Ao 1 [0] [(13,.A (Aj a))]<|oc ((Bhe a) _) λe _=>Cm (.I e)<|Ad<|Ah<|Ao 2 [] [(16,.B (e !=0))]<|Ad<|Bo O (λhc=>?_) (λhc=>?_)
 .refine Ah<|Bp (.I e)<|Gk .emp ?_;refine Cm (.I e)<|Ad<|Ais (H5 (Bba func168 D (Aw (Ar D O O O Dr.eq O) (Ht A0)) (.tupL (.cons (.emp _) .s1))))
 refine A8<|Ah<|Bl (.func (.func 223) [] [.q ids 1 g1])<|D9 2 Bu3.eq λG=>Gk (.func (.func 223) [] [.q ids 1 g1]) ?_;refine Ad<|Bv ?_;refine Ai<|Ah<|Ao 2 [0] [(20,.L 8 Bk a.Rules)]<|E7 a.Rules<|Dj [3] D O O (Asl (by exact D.sub' O O)) O O O O O O (λv _=>H5 (Es func168 D)) ?_;rintro _ _ _ _ ⟨g3,rfl,rfl⟩;refine Gj [3] D O O O ?_;refine D6<|Ad<|Bv ?_;refine Ra (λo1=>O9 a o1) (λo1=>λfr h=>fr=Ac [(1,.q ids 0 g),(2,.q ids 1 g1),(5,.q ids 2 G)]/\h=hp h0 ids [Ab g 8 [Aj a],Ab g1 1 [[.K o1]],Ab G 1 [[.func (.func 223) [] [.q ids 1 g1]]],none,none,none,none]) ?_ λad=>?_
 .rintro o1 fr h ⟨rfl,rfl⟩;refine Ae (O9.eq_1 _ _)<|Ai<|Ah<|Ao 2 [0] [(42,.L 4 E2 a.Classes)]<|E7 a.Classes<|Bp (.I 0)<|Ad<|A3<|Fs (t:=42) (L:=a.Classes) O λar=>Ui [1,2,5,43] 44 (λo2=>[]) (λo2=>[Ab g 8 [Aj a],Ab g1 1 [[.K o2]],Ab G 1 [[.func (.func 223) [] [.q ids 1 g1]]],none,none,none,none]) ?_ ?_
  .rintro j a5 o2 ai _ W _;refine Ae (Ack.eq_1 _ _ _)<|By ?_;refine Ah<|Bl (.B (decide ((j:Int)<(a.Classes.length:Int))))<|Ad<|Ai<|Co O (AT.2 (A6 ai))<|A8<|Ai<|A3<|Ah<|Ao 2 [] [(8,.I j)]<|Ad<|Ah<|Ao 2 [0] [(48,.L 2 Dh a.Airports)]<|E7 a.Airports<|Bp (.I 0)<|Ad<|A3<|Fs (t:=48) (L:=a.Airports) O λaj=>?_;refine Ui [1,2,5,8,43,44,49] 50 (λo3=>[]) (λo3=>[Ab g 8 [Aj a],Ab g1 1 [[.K o3]],Ab G 1 [[.func (.func 223) [] [.q ids 1 g1]]],none,none,none,none]) ?_ ?_
   .rintro V a6 o3 ak _ W _;refine Ae (Ada.eq_1 _ _ _ _)<|By ?_;refine Ah<|Bl (.B (decide ((V:Int)<(a.Airports.length:Int))))<|Ad<|Ai<|Co O (AT.2 (A6 ak))<|A8<|Ai<|A3<|Ah<|Ao 2 [] [(9,.I V)]<|Ad<|Ah<|Cm .emp<|Ad<|Ai<|Ah<|Ao 2 [0] [(54,.L 8 Bk a.Rules)] ?_;refine E7 a.Rules<|Bp (.I 0)<|Ad<|A3<|Kl (g0:=0) [1,2,5,8,9,43,44,49,50,54,55] 56 6 (λz=>z) (λz v1=>[(10,v1)]) (λz v1 g4=>[Ab g 8 [Aj a],Ab g1 1 [[.K o3]],Ab G 1 [[.func (.func 223) [] [.q ids 1 g1]]],none,none,none,Ccu v1 g4 1 rJ z]) .nil ?_ ?_
    .rintro U S z v1 g4 ae _ vH W af;refine Ae (Acw.eq_1 _ _ _ _ _)<|By ?_;refine Ah<|Bl (.B (decide ((U:Int)<(a.Rules.length:Int))))<|Ad<|Ai<|Fs (t:=54) (L:=a.Rules) O λal=>Co O (AT.2 (A6 ae))<|A8<|Ai<|A3<|Ah<|Bp (.I U)<|Au (.cp (Bk S) 0) O (Ay (Ex Byb.eq Om.eq O ae))<|Bl (.A (Bk S))<|D9 5 Om.eq λg5=>Cm (.I U)<|Gk (.A (Bk S)) ?_;refine Ad<|Bv ?_;refine Ah<|Ao 4 [5] [(64,.B (S.Kind==1))]<|Oc 5 64 69 [1,2,5,8,9,10,11,12,43,44,49,50,54,55,56] (.B ((S.Kind==1)&&(S.Class==(j:Int)))) O ?_ (λY _ hJ=>?_) (λY _ hJ=>?_)
     .refine Bp (.B ((S.Kind==1)&&(S.Class==(j:Int))))<|Oc 5 70 75 [1,2,5,8,9,10,11,43,44,49,50,54,55,56] (.B (((S.Kind==1)&&(S.Class==(j:Int)))&&(S.Airport==(V:Int)))) O ?_ (λaa _ ab=>?_) (λaa _ ab=>?_)
      .refine Ad<|Bo O (λam=>?_) (λam=>?_)
       .refine A4<|Ao 2 [] [(77,.I U),(76,v1)]<|Ch (e:=rJ) (L:=[(U:Int)]) (st:=1) (rows:=[[.I U]]) O Dr.eq Dn.eq O O O O O (.cons (AB _) .nil) (λx=>Dw x) O O<|Cf λhl=>Ce (e:=rJ) (L:=z) (L2:=[(U:Int)]) (v:=v1) (g:=g4) (st:=1) (j:=6) D O O O O vH O (B7 O) Dr.eq Dr.eq O Dn.eq O O O hl λv2 g6 au=>Cm v2<|Ad<|Bv ?_;refine Ci<|A4<|Ao 2 [] [(56,.I (wi ((U:Int)+1)))]<|Ad<|Ck 32<|Hx af
       refine A8<|Ci<|A4<|Ao 2 [] [(56,.I (wi ((U:Int)+1)))]<|Ad<|Ck 32<|Hx af
      .refine Ao 5 [5] [(75,.B (S.Airport==(V:Int))),(74,.B (S.Airport==(V:Int))),(73,.I V),(72,.I S.Airport),(71,.ptr (ix ids 5) g5 0 4)]<|Ib ab (.r4 (.r4 (.r4 (.r2 (.cons (Afb aa) .nil)))))
      refine Ao 5 [] [(75,.B false),(74,.und),(73,.und),(72,.und),(71,.und)]<|Ib ab (.r4 (.r4 (.r4 (.r2 (.cons (Afc aa) .nil)))))
     .refine Ao 5 [5] [(69,.B (S.Class==(j:Int))),(68,.B (S.Class==(j:Int))),(67,.I j),(66,.I S.Class),(65,.ptr (ix ids 5) g5 0 3)]<|Ib hJ (.r4 (.r4 (.r4 (.r2 (.r (.cons (Afb Y) .nil))))))
     refine Ao 5 [] [(69,.B false),(68,.und),(67,.und),(66,.und),(65,.und)]<|Ib hJ (.r4 (.r4 (.r4 (.r2 (.r (.cons (Afc Y) .nil))))))
    rintro z v1 g4 vH;refine By ?_;refine Ah<|Bl (.B (decide ((a.Rules.length:Int)<(a.Rules.length:Int))))<|Ad<|Ai<|Eb O (CF _)<|Di O<|Aaw [Ab g 8 [Aj a],Ab g1 1 [[.K o3]],Ab G 1 [[.func (.func 223) [] [.q ids 1 g1]]],none,none,none,none] [(1,.q ids 0 g),(2,.q ids 1 g1),(5,.q ids 2 G),(8,.I j),(10,.K z),(43,.I (a.Classes.length:Int)),(44,.I j),(49,.I (a.Airports.length:Int)),(50,.I V)] D O (.keep (.keep (.keep (.keep (.keep (.keep (.drop .nil))))))) (.s (.s (.s (.s (.cons (Ca vH (D.at O O) (D.at O O) (λx=>Dw x)) (.s (.s .s2)))))))<|Bx [0,0,2,0,14,31] [pR 0,pR 1,pR 2,pR 3,pE 4,pE 5] D2<|Be [2,0] [(81,.func (.func 223) [] [.q ids 1 g1]),(82,.ptr (ix ids 0) g 0 7),(83,.L 8 Bk a.Rules),(84,.K z)]<|Ll ((Avo a.Rules z) _) (hpd:=(A9 [2])) λr3 _=>?_;refine R3 [1] D O O (Aol (by exact D.sub' O O)) O O O O O O O (λv _ _ _=>H5 (Es func168 D)) ?_;rintro r4 _ _ _ ⟨rfl,rfl⟩;refine Vg [1] [Ab g 8 [Aj a],Ab g1 1 [[.K r4]],Ab G 1 [[.func (.func 223) [] [.q ids 1 g1]]],none,none,none,none] D O O O O ⟨Bh,?_⟩;refine W6<|Fp<|Bv ?_;refine Ci<|A4<|Ao 2 [] [(50,.I (wi ((V:Int)+1)))]<|Ad<|gc
   rintro o3;refine By ?_;refine Ah<|Bl (.B (decide ((a.Airports.length:Int)<(a.Airports.length:Int))))<|Ad<|Ai<|Eb O (CF _)<|Di O<|Ci<|A4<|Ao 2 [] [(44,.I (wi ((j:Int)+1)))]<|Ad<|gc
  rintro o2;refine By ?_;refine Ah<|Bl (.B (decide ((a.Classes.length:Int)<(a.Classes.length:Int))))<|Ad<|Ai<|Eb O (CF _)<|Di O<|Ah<|Ao 1 [1] [(89,.K o2)]<|Gk (.K o2) ?_;refine Cm (.I 0)<|Ad<|Ais (H5 (Bba func168 D (Aw (Ar D O O O Dr.eq O) (Ht A0)) (.tupL .s2)))
 refine A3<|Aaw [Ab g 8 [Aj a],Ab g1 1 [[.emp]],Ab G 1 [[.func (.func 223) [] [.q ids 1 g1]]],none,none,none,none] [(1,.q ids 0 g),(2,.q ids 1 g1),(5,.q ids 2 G),(22,.func (.func 261) [] [.cp [.I (a.Rules.length:Int)] 0])] D O (.keep (.keep (.keep (.drop (.keep (.keep (.keep .nil))))))) (.s (.s (.s (.cons (.funcL .nil (.cons (.ptrL (D.at O O) (D.at O O) O (Pp _)) .nil)) .nil))))<|Gh [1,2,5,22] ?_;refine Ax3 (P:=prog) 4 (λ_=>(Go.Code.exit 0)) (λ(gL:Nat) (ac:Loop)=>Sum.elim (λ_=>λ(h1:Aa)=>h1=hp h0 ids [Ab g 8 [Aj a],Ab g1 1 [[.emp]],Ab G 1 [[.func (.func 223) [] [.q ids 1 g1]]],none,some (.blk gL (.loop ac)),none,none]) (λo=>λ(h2:Aa)=>h2=hp h0 ids [Ab g 8 [Aj a],Ab g1 1 [[.K o]],Ab G 1 [[.func (.func 223) [] [.q ids 1 g1]]],none,some (.blk gL (.loop {ac with state:=.done,pending:=some (Go.Code.exit 0)})),none,none]):Nat->Loop->(Unit ⊕ (List Int))->Aa->Prop) O O D O O O λgL av ac X ag=>⟨?_,?_,?_,?_,?_,?_⟩
 .refine Ar3 (a.Rules.length:Int) _ _ _ _ _ (λa1 a2=>A56 (jm:=λ_=>(Go.Code.exit 0)) X (by decide) O ag ?_ ?_) (λ_ _ _ _=>R.np_ne _ _) _ _ ?_
  .rintro _ _ rfl;exact D.at O O
  .rintro aw _ _ rfl;refine Bke (D8 (Ae (m':=Tj a a1 a2) O (Ae (Tj.eq_1 _ _ _) ?_)));refine Apx [(24,.I a2),(23,.I a1),(1,.q ids 0 g),(2,.q ids 1 g1),(5,.q ids 2 G),(22,.func (.func 261) [] [.cp [.I (a.Rules.length:Int)] 0])] (Abl _ _ _)<|Ah<|Cm (.I a1)<|Ad<|A4<|Cm (.I a2)<|Ad<|Uz D O O O X.ready<|Bv ?_;refine A3<|Ai<|Bx [0,1,0,7,15,0,32,0,224,480,1023] [pR 0,pR 1,pR 2,pR 3,pR 4,pR 5,pR 6,pR 7,pR 8,pR 9,pE 10] D2<|Be [0] [(25,.ptr (ix ids 0) g 0 7),(26,.L 8 Bk a.Rules),(27,.I a1)]<|Ap5 λa3 hz an=>Az (.cp (Bk a3) 0) O O (Ay (Ajb Byb.eq Om.eq O hz an))<|Be [0] [(29,.A (Bk a3)),(30,.ptr (ix ids 0) g 0 7),(31,.L 8 Bk a.Rules),(32,.I a2)]<|Ap5 λa4 ao ap=>Az (.cp (Bk a4) 0) O O (Ay (Ajb Byb.eq Om.eq O ao ap))<|Be [] [(34,.A (Bk a4))]<|D7 _ O O O O O ((Asv a3 a4) _) (λv _ _ _=>Be5) Bh λr1 _=>Fp<|Bo O (λaq=>?_) (λaq=>?_)
   .refine Ah<|Ao 3 [2] [(38,.I a2),(37,.I a1),(36,.func (.func 223) [] [.q ids 1 g1])]<|Ch (e:=rJ) (L:=[a1,a2]) (st:=1) (rows:=[[.I a1],[.I a2]]) O Dr.eq Dn.eq O O O O O (.cons (AB _) (.cons (AB _) .nil)) (λx=>Dw x) O O<|Dj [1] D O O (Aod (by exact D.sub' O O)) O O O O O O (λv _=>Be5) ?_;rintro r2 _ _ _ ⟨rfl,rfl⟩;refine Gj [1] D O O O ?_;refine D6<|Ad<|Bv ?_;exact A7b (e:=r2) O O D O O O O
   refine A8<|Ci<|A8v (s:=()) (jL:=4) D O O O O
  exact O
 .rintro _ _ rfl;exact D.at O O
 .rintro o _ rfl;exact D.at O O
 .rintro _ _ rfl;refine Amk [Ab g 8 [Aj a],Ab g1 1 [[.emp]],Ab G 1 [[.func (.func 223) [] [.q ids 1 g1]]],none,none,none,none] D O O O<|Ci<|Aaw [Ab g 8 [Aj a],Ab g1 1 [[.K []]],Ab G 1 [[.func (.func 223) [] [.q ids 1 g1]]],none,none,none,none] [(1,.q ids 0 g),(2,.q ids 1 g1),(5,.q ids 2 G)] D O (.keep (.fz (.cons (.emp _) .nil) O O (.keep (.keep (.keep (.keep (.keep .nil))))))) (.s .s2)<|ad [] _ _<|⟨O,O⟩
 .rintro o _ rfl;refine Amk [Ab g 8 [Aj a],Ab g1 1 [[.K o]],Ab G 1 [[.func (.func 223) [] [.q ids 1 g1]]],none,none,none,none] D O O O<|Di O<|D1 (ad o _ _ ⟨O,O⟩)
 rintro v _ x_ h_ ah;rcases x_ with x_|x_
 .obtain _:=x_;obtain rfl:=ah;refine Amd [Ab g 8 [Aj a],Ab g1 1 [[.emp]],Ab G 1 [[.func (.func 223) [] [.q ids 1 g1]]],none,none,none,none] D O O O<|H5 (Es func168 D)
 revert ah;revert h_;revert x_;rintro o _ rfl;refine Amd [Ab g 8 [Aj a],Ab g1 1 [[.K o]],Ab G 1 [[.func (.func 223) [] [.q ids 1 g1]]],none,none,none,none] D O O O<|H5 (Es func168 D)
instance A6k (a):CP prog 167 [.A (Aj a)] (P3 a) (.int .i64):=by refine ci 14 1 func167 (P3.eq_1 _) λh0 ids z D=>gc
instance Agd (a segment):CP prog 231 [.A (Aj a),.int .i64 segment] (Pd a segment) (λx=>(AV.sl 2 (List.map Ax x))):=by
 refine ci 52 2 func231 (Pd.eq_1 _ _) λh0 ids R V=>go ?_;intro g;refine Bo O (λS=>?_) (λS=>?_)
 .refine go ?_;exact Kq (v:=⟨324,.unit⟩) O O (Es func231 R)
 refine go ?_;intro a1 hz U g1;refine Bo O (λD=>?_) (λD=>?_)
 .refine go ?_;exact Kq (v:=⟨324,.unit⟩) O O (Es func231 R)
 refine go ?_;intro _;refine jn (λz=>Lg a a1 z) [2,5] (λz=>[(6,.L 2 Ax z)]) (λz=>[Ab g 8 [Aj a],Ab g1 5 [C3 a1]]) ?_ λ_=>?_
 .rintro z;refine Ae (Lg.eq_1 _ _ _)<|gc
 refine Bo O (λG=>?_) (λG=>?_)
 .refine go ?_;refine Ch (e:=Ax) (L:=[({From:=0,To:=1440}:Span)]) (st:=2) (rows:=[[.I 0,.I 1440]]) O B2k.eq Px.eq O O O O O (.cons .s2 .nil) (λx=>Gu x) O O<|gc
 exact gc
def Avk (m:(List (Int×Bool)))(h0:Aa)(z:Nat)(g:Nat)(D:Ids h0 [z] 1):maps_Keys_233 m≠.bad->Bs prog 233 [.map z g] (hp h0 [z] [some (.mp g (mE (AV.int .i64) AV.bool m))]) (Kn (λG v h'=>v=(.func (.func 268) [] [(.cp0 [.map z g])])/\h'=hp h0 [z] [some (.mp g (mE (AV.int .i64) AV.bool m))]) h0 (maps_Keys_233 m)):=λ_=>(A59 (.mk func233 rfl (by decide)) Tryz.maps_Keys_233).mono (by rintro r h' ⟨rfl,rfl⟩;exact⟨_,rfl,rfl,rfl⟩)
def As9 (m:(List (Int×Bool)))(h0:Aa)(z:Nat)(g:Nat)(D:Ids h0 [z] 1):Ahp m≠.bad->Bs prog 232 [.func (.func 268) [] [(.cp0 [.map z g])]] (hp h0 [z] [some (.mp g (mE (AV.int .i64) AV.bool m))]) (Kn (λG v h'=>v=(.K G)/\h'=hp h0 [z] [some (.mp g (mE (AV.int .i64) AV.bool m))]) h0 (Ahp m)):=A06 D (.mk func232 rfl (by decide)) underlying3 Tryz.sorted_keys_232_233
theorem Z0 (w):CP prog 174 [.nili,w] (Kx) (λ_=>AV.tup []):=by refine ci 15 0 func174 Kx.eq_1 λh0 ids z D=>go ?_;refine Au (.B true) O (Bb O O (Bjj X3.eq))<|go ?_;exact A15 func174 z O (.tupL .nil)
def Akj (z:AV)(h:Aa):I1 prog 230 [z] .ret h (Ys (λ_:Unit=>h) .ret (.ok ())):=by refine Rj (n:=3) func230 O (by decide) O O ?_ ⟨(),O⟩;refine D8 (Ae (m':=(Kx).bind λ_=>.ok ()) O ?_);refine A4<|Ail O<|Cb _ O O O O ((Z0 z) _) (λv D=>by unfold Kx at D;cases D) λ_ _=>?_;refine Ad<|Sv func230 O O O
def Xb {p h0 o0}{r:List AV}{g}(hr:r.length=1)(z:Ids h0 [o0] 1):Df prog 174 h0 [o0] (E3 p) [.iface 324 (.A (Bhs p)),.ptr o0 g 0 0] [Ab g 1 [r]] (λD=>(.tup [])) (λD=>[Ab g 1 [[.int .i64 1]]]):=by refine Cd 1 func174 (E3.eq_1 _) z ?_;rintro ids ⟨rfl,-⟩ G R S;refine go ?_;refine Au (.B false) O (Bb O O (Bh9 X3.eq))<|go ?_;intro g1;refine Cw (Hm (v:=(.I 1)) G O O O Yf.eq O O O hr O)<|gc
def Aml (h0:Aa)(ids:List Nat)(R:Ids h0 ids 1)(z:Nat)(D:List AV)(G:D.length=1):(∃a,Fv=.ok a)->I1 prog 230 [(.ptr (ix ids 0) z 0 0)] (.pan (.iface 324 (.A [])) false) (hp h0 ids [Ab z 1 [D]]) (Ys (λp=>hp h0 ids [Ab z 1 [[(.int .i64 1)]]]) (.pan (.iface 324 (.A [])) true) (Fv)):=by refine Rj (n:=3) func230 O (by decide) O O<|D8 (Ae (Fv.eq_1) ?_);refine A4<|Aim O<|Dj [0] R O O (Xb G (by exact R.sub' O O)) O O O O O O (λv S=>by unfold E3 at S;cases S) ?_;rintro _ _ _ _ ⟨rfl,rfl⟩;refine Gj [0] R O O O ?_;refine D6<|go ?_;exact Sv (a:=()) func230 O O O
instance A8h (a):CP prog 170 [.A (Aj a)] (Vz a) (λp=>AV.tup [.K p.1,.int .i64 p.2]):=by
 show CP _ _ _ ((Tb a).catch' (Kw 324 ((Fv).bind λ_=>.ok ([],1)) (λ_=>.bad))) _;refine Abv (n:=29) 4 func170 O (by decide) O O λh0 ids z=>?_;have hU:∀(v:PV) (fr:Nat->AV) (xs:List (Option AO)) (D:Nat) (G:List AV) (X:xs.length=4) (S:G.length=1) (Y:xs.take 1=[some (.rows D 1 [G])]) (U:fr 2=.emp) (V:fr 3=.q ids 0 D),WU prog 170 29 false (Ng (λ(p:((List Int)×Int))=>AV.tup [(.L 1 (rI .i64) p.1),(.I p.2)]) h0 (Kw 324 ((Fv).bind λ_=>.ok ([],1)) (λ_=>.bad))) (.pan v) (.pan v.av false) fr [⟨230,[.q ids 0 D]⟩] (hp h0 ids xs) .ret:=by
  intro v fr xs D G X S Y U V;refine A7y (t:=324) O (λhv=>?_) (λR=>?_)
  .subst hv;exact Aey (Hc:=Fv) (fin:=λ_=>([],1)) (c:=1) (cells:=λp=>[Ab D 1 [[.I 1]]]) (vs:=λp=>[.emp,.I 1]) func170 z X O Y (by first|(rw[Yh];done)|(rw[Yh];rfl)) (λhx=>by have:=Aml h0 (ids.take 1) (z.take O) D G S hx;simp only[Gt (c:=1) (j:=0) O]at this;exact this) (by intro w;simp[Fv,E3]) (λp=>(Apw U (Lr V (U3 (z.take O) (Gt O) O O O Yf.eq O) A0))) (λp=>(.tupL (.cons (.emp _) .s1)))
  exact Are (by rw[Apr R])
 refine D8 (Ae (Tb.eq_1 _) ?_);refine Ah<|Ip 1 (.A (Aj a)) λg=>go ?_;intro g1;refine Aeu O O O ?_;refine Ad<|Ah<|Oa (j:=2) z O O O O λg2=>Cm (.map (ix ids 2) g2)<|Ad<|Bv ?_;refine Ai<|Ah<|Ao 2 [1] [(10,.L 5 C3 a.Segments)]<|E7 a.Segments<|Bp (.I 0)<|Ad<|A3<|Ui [1,2,3,4,10,11] 12 (λm=>[]) (λm=>[Ab g1 1 [[.I 0]],Ab g 8 [Aj a],some (.mp g2 (mE AV.I AV.bool m)),none]) ?_ ?_
 .rintro j a1 m aa _ W _;refine Ae (S3.eq_1 _ _ _ _)<|By ?_;refine Ah<|Bl (.B (decide ((j:Int)<(a.Segments.length:Int))))<|Ad<|Ai<|Fs (t:=10) (L:=a.Segments) O λab=>Co O (AT.2 (A6 aa))<|A8<|Ai<|A3<|Ah<|Bp (.I j)<|Au (.cp (C3 a1) 0) O (Ay (Ex Aop.eq Ajw.eq O aa))<|Bl (.A (C3 a1))<|D9 3 Ajw.eq λg3=>Cm (.I j)<|Gk (.A (C3 a1)) ?_;refine Ad<|Bv ?_;refine Ah<|Ao 2 [1] [(18,.I j),(17,.A (Aj a))]<|Cb _ O O O O ((Agd a (j:Int)) _) (λv _=>hU v _ _ _ _ O O O O O) λr _=>go ?_;intro _;refine E4 O (λhc=>?_) (λhc=>?_)
  .refine go ?_;refine Jv (j:=2) (eK:=AV.I) (eV:=AV.bool) (M:=m) (ky:=a1.Volume) (w:=true) z O O O O O O Bii.eq Dn.eq Atd<|Ad<|Bv ?_;refine Ci<|A4<|Ao 2 [] [(12,.I (wi ((j:Int)+1)))]<|Ad<|Ck 8<|gc
  refine A8<|Ci<|A4<|Ao 2 [] [(12,.I (wi ((j:Int)+1)))]<|Ad<|Ck 8<|gc
 rintro m;refine By ?_;refine Ah<|Bl (.B (decide ((a.Segments.length:Int)<(a.Segments.length:Int))))<|Ad<|Ai<|Eb O (CF _)<|Di O<|Ah<|Bp (.map (ix ids 2) g2)<|Dj [2] z O O (Avk m _ (ix ids 2) g2 (by exact z.sub' O O)) O O O O O O (λv _=>hU v _ _ _ _ O O O O O) ?_;rintro _ _ _ _ ⟨rfl,rfl⟩;refine Gj [2] z O O O ?_;refine D6<|Dj [2] z O O (As9 m _ (ix ids 2) g2 (by exact z.sub' O O)) O O O O O O (λv _=>hU v _ _ _ _ O O O O O) ?_;rintro l _ _ _ ⟨rfl,rfl⟩;refine Gj [2] z O O O ?_;refine D6<|go ?_;exact Ard (a:=(l,0)) (vs:=[.K l,.I 0]) func170 z (Akj _ _) (Ht (Aw (Ar z O O O Yf.eq O) A0)) (.tupL .s2)
instance A70 (a):CP prog 169 [.A (Aj a)] (Qc a) (.int .i64):=by refine ci 20 1 func169 (Qc.eq_1 _) λh0 ids z D=>gc
def Aht {a route h0 o0 o1}(z:Ids h0 [o0,o1] 2):N3 a route≠.bad->Bs prog 175 [.A (Aj a),.int .i64 route] (hp h0 [o0,o1] [none,none]) (Kn (λG v h'=>∃(D:Nat),∃(g3:Nat),v=(.func (.func 235) [] [.ptr o1 g3 0 0,.ptr o0 D 0 0])/\h'=hp h0 [o0,o1] [Ab D 8 [Aj a],Ab g3 1 [[.int .i64 route]]]) h0 (N3 a route)):=by refine Cd 0 func175 (N3.eq_1 _ _) z ?_;rintro ids ⟨rfl,rfl,-⟩ O R S;exact gc
def Afi(b:Int)(c:Airspace)(S:Leg->σ_->R σ_)(z:σ_->Aa->Prop)(y_:YF)(o_ g_:Nat)(ac:∀(D:Leg),YOk prog y_ o_ g_ [(.A (If D))] z (S D))(V:∀(D:Leg) (s:σ_) (v:PV),S D s≠.pan v)(s_:σ_)(X:Aa)(Y:z s_ X):L6 b c S s_≠.bad->Bs prog 235 [(.yld y_ o_ g_),(.cp [(.int .i64 b)] 0),(.cp (Aj c) 0)] X (Am6 z (L6 b c S s_)):=by
 refine Ans (n:=51) func235 O (by decide) O O<|D8 (Ae (L6.eq_1 _ _ _ _) ?_);refine go ?_;refine Bo O (λhc=>?_) (λhc=>?_)
 .refine go ?_;exact Kq (v:=⟨324,.unit⟩) O O (Avu func235 Y)
 refine go ?_;intro a hz ae aa;refine Gh [0,2,23,24,25] ?_;refine Ld (P:=prog) a.Segments (λ_ a1=>λs=>Im c S a1 s) (((λs=>.ok s)):σ_->R σ_) (λj=>λs=>λfr h=>∃(hh:Aa),z s hh/\fr=Ac [(0,.yld y_ o_ g_),(2,.cp (Aj c) 0),(23,.K a.Segments),(24,.I (a.Segments.length:Int)),(25,.I j)]/\hh=h) s_ ?_ ?_ ?_
 .exact⟨_,Y,O,O⟩
 .rintro j a1 ad W hW s fr h ⟨hh,G,rfl,rfl⟩;refine Ae (m':=Im c S a1 s) O (Ae (Im.eq_1 _ _ _ _) ?_);refine go ?_;refine Cb _ O O O O ((Agd c a1) _) (λv _=>Avu func235 G) λm _=>go ?_;intro U af ag;refine A2c (b:=S ({Segment:=a1,Volume:=U.Volume,Length:=U.Length,Minutes:=m}:Leg)) O O O O G (ac ({Segment:=a1,Volume:=U.Volume,Length:=U.Length,Minutes:=m}:Leg)) (V ({Segment:=a1,Volume:=U.Volume,Length:=U.Length,Minutes:=m}:Leg) _) (λ_=>(Zc O (Zc O Ef))) λs1 ah ai ab=>?_;refine Az (.B false) O O (Bfz O)<|Fp<|Gv false O<|A8<|Ci<|A4<|Bl (.I (wi ((j:Int)+1)))<|Bp (.I (wi ((j:Int)+1)))<|Ad<|D1 (Z4 (hW s1 _ _ ⟨_,ab,O,O⟩)) (.r4 (.cons (Vf (A6 ad) aa) .nil))
 rintro s fr h ⟨hh,G,rfl,rfl⟩;refine go ?_;exact Arn func235 O G
def Aln (z:AV)(h:Aa):I1 prog 234 [z] .ret h (Ys (λ_:Unit=>h) .ret (.ok ())):=by refine Rj (n:=3) func234 O (by decide) O O ?_ ⟨(),O⟩;refine D8 (Ae (m':=(Kx).bind λ_=>.ok ()) O ?_);refine A4<|Ail O<|Cb _ O O O O ((Z0 z) _) (λv D=>by unfold Kx at D;cases D) λ_ _=>?_;refine Ad<|Sv func234 O O O
def An3 (h0:Aa)(ids:List Nat)(R:Ids h0 ids 1)(z:Nat)(D:List AV)(G:D.length=1):(∃a,Fw=.ok a)->I1 prog 234 [(.ptr (ix ids 0) z 0 0)] (.pan (.iface 324 (.A [])) false) (hp h0 ids [Ab z 1 [D]]) (Ys (λp=>hp h0 ids [Ab z 1 [[(.int .i64 1)]]]) (.pan (.iface 324 (.A [])) true) (Fw)):=by refine Rj (n:=3) func234 O (by decide) O O<|D8 (Ae (Fw.eq_1) ?_);refine A4<|Aim O<|Dj [0] R O O (Xb G (by exact R.sub' O O)) O O O O O O (λv S=>by unfold E3 at S;cases S) ?_;rintro _ _ _ _ ⟨rfl,rfl⟩;refine Gj [0] R O O O ?_;refine D6<|go ?_;exact Sv (a:=()) func234 O O O
instance A89 (a):CP prog 172 [.A (Aj a)] (Xs a) (λp=>AV.tup [.K p.1,.int .i64 p.2]):=by
 show CP _ _ _ ((Ur a).catch' (Kw 324 ((Fw).bind λ_=>.ok ([],1)) (λ_=>.bad))) _;refine Abv (n:=33) 8 func172 O (by decide) O O λh0 ids z=>?_;have hU:∀(v:PV) (fr:Nat->AV) (xs:List (Option AO)) (D:Nat) (S:List AV) (ad:xs.length=8) (X:S.length=1) (ae:xs.take 1=[some (.rows D 1 [S])]) (Y:fr 2=.emp) (aa:fr 3=.q ids 0 D),WU prog 172 33 false (Ng (λ(p:((List Int)×Int))=>AV.tup [(.L 1 (rI .i64) p.1),(.I p.2)]) h0 (Kw 324 ((Fw).bind λ_=>.ok ([],1)) (λ_=>.bad))) (.pan v) (.pan v.av false) fr [⟨234,[.q ids 0 D]⟩] (hp h0 ids xs) .ret:=by
  intro v fr xs D S ad X ae Y aa;refine A7y (t:=324) O (λhv=>?_) (λU=>?_)
  .subst hv;exact Aey (Hc:=Fw) (fin:=λ_=>([],1)) (c:=1) (cells:=λp=>[Ab D 1 [[.I 1]]]) (vs:=λp=>[.emp,.I 1]) func172 z ad O ae (by first|(rw[Yh];done)|(rw[Yh];rfl)) (λhx=>by have:=An3 h0 (ids.take 1) (z.take O) D S X hx;simp only[Gt (c:=1) (j:=0) O]at this;exact this) (by intro w;simp[Fw,E3]) (λp=>(Apw Y (Lr aa (U3 (z.take O) (Gt O) O O O Yf.eq O) A0))) (λp=>(.tupL (.cons (.emp _) .s1)))
  exact Are (by rw[Apr U])
 refine D8 (Ae (Ur.eq_1 _) ?_);refine Ah<|Ip 1 (.A (Aj a)) λg=>Cm .emp<|D9 0 Yf.eq λg1=>Ad<|Bv ?_;refine Ah<|Bl (.func (.func 234) [] [.q ids 0 g1])<|Aeu O O O ?_;refine A5t<|Ad<|Ah<|Cm .emp<|Ad<|Ai<|Ah<|Ao 2 [1] [(10,.L 7 Ed a.Routes)]<|E7 a.Routes<|Bp (.I 0)<|Ad<|A3<|Fs (t:=10) (L:=a.Routes) O λai=>Kl (g0:=0) [1,2,3,11] 12 7 (λG=>G) (λG v=>[(4,v)]) (λG v g2=>[Ab g1 1 [[.I 0]],Ab g 8 [Aj a],none,none,none,none,none,Ccu v g2 1 rJ G]) .nil ?_ ?_
 .rintro j a1 G v g2 ah _ vH W hW;refine Ae (O4.eq_1 _ _ _)<|By ?_;refine Ah<|Bl (.B (decide ((j:Int)<(a.Routes.length:Int))))<|Ad<|Ai<|Co O (AT.2 (A6 ah))<|A8<|Ai<|A3<|Ah<|Ao 2 [] [(5,.I j)]<|Ad<|Ah<|D9 2 Ya.eq λg3=>Gk (.B false) ?_;refine Ad<|Bv ?_;refine Ai<|Ah<|Ao 2 [1] [(16,.I j),(15,.A (Aj a))]<|Dj [3,4] z O O (Aht (by exact z.sub' O O)) O O O O O O (λv _=>H5 (hU v _ _ _ _ O O O O O)) ?_;rintro _ _ _ _ ⟨g4,g5,rfl,rfl⟩;refine Gj [3,4] z O O O ?_;refine D6<|Ad<|Bv ?_;refine A3<|Aaw [Ab g1 1 [[.I 0]],Ab g 8 [Aj a],Ab g3 1 [[.B false]],none,none,none,none,Ccu v g2 1 rJ G] [(1,.q ids 1 g),(2,.emp),(3,.q ids 0 g1),(4,v),(5,.I j),(6,.q ids 2 g3),(11,.I (a.Routes.length:Int)),(12,.I j),(17,.func (.func 235) [] [.cp [.I j] 0,.cp (Aj a) 0])] z O (.keep (.keep (.keep (.drop (.drop (.keep (.keep (.keep .nil)))))))) (.s (.s (.s (.s (.s (.s (.s (.s (.cons (.funcL .nil (.cons (.ptrL (z.at O O) (z.at O O) O (Pp _)) (.cons (.ptrL (z.at O O) (z.at O O) O (Pp _)) .nil))) .nil)))))))))<|Gh [1,2,3,4,5,6,11,12,17] ?_;refine Acd (P:=prog) 5 (λ(gL:Nat) (af:Loop)=>λo=>λ(h1:Aa)=>h1=hp h0 ids [Ab g1 1 [[.I 0]],Ab g 8 [Aj a],Ab g3 1 [[.B o]],none,none,some (.blk gL (.loop af)),none,Ccu v g2 1 rJ G]:Nat->Loop->Bool->Aa->Prop) O O z O O O λgL aj af ab ag=>⟨?_,?_,?_,?_⟩
  .refine Afi (j:Int) a _ _ _ _ _ (λV=>Aky ab (by decide) O ag ?_ ?_) (λ_ _ _=>R.np_ne _ _) _ _ ?_
   .rintro o _ rfl;exact z.at O O
   .rintro ak o _ rfl;refine Ax7 (D8 (Ae (m':=Sz V o) O (Ae (Sz.eq_1 _ _) ?_)));refine Apx [(18,.A (If V)),(1,.q ids 1 g),(2,.emp),(3,.q ids 0 g1),(4,v),(5,.I j),(6,.q ids 2 g3),(11,.I (a.Routes.length:Int)),(12,.I j),(17,.func (.func 235) [] [.cp [.I j] 0,.cp (Aj a) 0])] (Abl _ _ _)<|A4<|D9 6 Awh.eq λg6=>Gk (.A (If V)) ?_;refine Ad<|Bv ?_;refine Uz z O O O ab.ready<|Bv ?_;refine A3<|A4<|Ao 2 [2] [(20,.B o)]<|Oc 5 20 25 [1,2,3,4,6] (.B (o||((V.Minutes.length:Int)==0))) O ?_ (λac _ hJ=>?_) (λac _ hJ=>?_)
    .refine Gk (.B (o||((V.Minutes.length:Int)==0))) ?_;refine Ad<|Bv ?_;refine Ci<|Ck 64<|Ai5 (s:=(o||((V.Minutes.length:Int)==0))) (jL:=5) z O O O O
    .refine Ao 5 [] [(25,.B true)]<|Ib hJ (.r4 (.r (.cons (Ava ac) .nil)))
    refine Ao 2 [6] [(22,.L 2 Ax V.Minutes)]<|F5 (tj:=20) (.I (V.Minutes.length:Int)) O O O (D4 (Jy B2k.eq))<|Ao 2 [] [(25,.B ((V.Minutes.length:Int)==0))]<|Ib hJ (.r4 (.r (.cons (Av1 ac) .nil)))
   exact O
  .rintro o _ rfl;exact z.at O O
  .rintro o _ _ rfl;refine Amk [Ab g1 1 [[.I 0]],Ab g 8 [Aj a],Ab g3 1 [[.B o]],none,none,none,none,Ccu v g2 1 rJ G] z O O O<|Ci<|Ah<|Ao 1 [2] [(26,.B o)]<|Ad<|Bo O (λhc=>?_) (λhc=>?_)
   .refine A4<|Ao 2 [] [(28,.I j),(27,v)]<|Ch (e:=rJ) (L:=[(j:Int)]) (st:=1) (rows:=[[.I j]]) O Dr.eq Dn.eq O O O O O (.cons (AB _) .nil) (λx=>Dw x) O O<|Cf λhl=>Ce (e:=rJ) (L:=G) (L2:=[(j:Int)]) (v:=v) (g:=g2) (st:=1) (j:=7) z O O O O vH O (B7 O) Dr.eq Dr.eq O Dn.eq O O O hl λv2 g7 al=>Cm v2<|Ad<|Bv ?_;refine Ci<|A4<|Ao 2 [] [(12,.I (wi ((j:Int)+1)))]<|Ad<|Ck 4<|Hx hW
   refine A8<|Ci<|A4<|Ao 2 [] [(12,.I (wi ((j:Int)+1)))]<|Ad<|Ck 4<|Hx hW
  rintro v1 _ o _ rfl;refine Amd [Ab g1 1 [[.I 0]],Ab g 8 [Aj a],Ab g3 1 [[.B o]],none,none,none,none,Ccu v g2 1 rJ G] z O O O<|H5 (hU v1 _ _ _ _ O O O O O)
 rintro G v g2 vH;refine By ?_;refine Ah<|Bl (.B (decide ((a.Routes.length:Int)<(a.Routes.length:Int))))<|Ad<|Ai<|Eb O (CF _)<|Di O<|Ah<|Ao 2 [] [(2,v)]<|Gk (.I 0) ?_;refine Ad<|Ais (H5 (A4r (a:=(G,0)) (vs:=[v,.I 0]) func172 z (Aln _ _) (Ht (Aw (Ar z O O O Yf.eq O) A0)) (.tupL (.cons (Ca vH (z.at O O) (z.out O) (λx=>Dw x)) .s1))))
instance A6d (a):CP prog 171 [.A (Aj a)] (P6 a) (.int .i64):=by
 refine ci 17 1 func171 (P6.eq_1 _) λh0 ids D G=>Ah<|Ip 0 (.A (Aj a)) λg=>Cm (.I 0)<|Ad<|Bv ?_;refine Ah<|Ao 1 [0] [(6,.A (Aj a))]<|oc ((A89 a) _) λr _=>Ao 5 [] [(4,.I r.2),(3,.K r.1)]<|Ad<|Ai<|Ah<|Ao 2 [] [(11,.B (r.2!=0))]<|Ad<|Bo O (λz=>?_) (λz=>?_)
 .refine Ah<|Ao 2 [] [(2,.I r.2)]<|Ad<|rt
 refine A8<|Ah<|Bp (.K r.1)<|E7 r.1<|Bl (.B ((r.1.length:Int)==0))<|oc ((Bel ((r.1.length:Int)==0) 110) _) λr1 _=>Cm (.I r1)<|Ad<|rt
instance Aof (a s):CP prog 66 [.int .i64 a,.A (Br s)] (P9 a s) (λx=>(AV.agg (Br x))):=by refine ci 12 2 func66 (P9.eq_1 _ _) λh0 ids z D=>go ?_;intro g g1;exact rt (hr:=by exact(Aw (Ar z O O O H4.eq O) A0)) (hz:=by exact .aggL (.s (.cons (.emp _) (.s .s2))))
def Afm (l:List Sector):Vv prog 79 [(.L 5 Br l),(.func (.func 66) [] [])] (G2 l) 5 Br:=by
 refine Gq (n:=23) 1 func79 O (by decide) O O λh0 ids z=>D8 (Ae (G2.eq_1 _) ?_);refine go ?_;intro _;refine Kl (g0:=0) [1,7,8] 9 0 (λy=>y) (λy v=>[(4,v)]) (λy v g=>[Ccu v g 5 Br y,none]) .nil ?_ ?_
 .rintro j a y v g G _ D W S;refine Ae (Wt.eq_1 _ _ _)<|By ?_;refine Ah<|Bl (.B (decide ((j:Int)<(l.length:Int))))<|Ad<|Ai<|Fs (t:=7) (L:=l) O λR=>Co O (AT.2 (A6 G))<|A8<|Ai<|A3<|Ah<|Bp (.I j)<|Au (.cp (Br a) 0) O (Ay (Ex Bxw.eq H4.eq O G))<|Bl (.A (Br a))<|D9 1 H4.eq λg1=>Cm (.I j)<|Gk (.A (Br a)) ?_;refine Ad<|Bv ?_;refine A4<|Ao 4 [1] [(17,.A (Br a)),(16,.I j),(15,.func (.func 66) [] []),(14,v)]<|Cb _ O O O O ((Aof (j:Int) a) _) (λv _=>Gz func79 z) λr _=>Ch (e:=Br) (L:=[r]) (st:=5) (rows:=[[.str r.Name,.L 1 rS r.Names,.K r.Volumes,.I r.Radar,.I r.Procedural]]) O Bxw.eq H4.eq O O O O O (.cons (AB _) .nil) (λx=>Vs x) O O<|Cf λU=>Ce (e:=Br) (L:=y) (L2:=[r]) (v:=v) (g:=g) (st:=5) (j:=0) z O O O O D O (B7 O) Bxw.eq Bxw.eq O H4.eq O O O U λv1 X V=>go ?_;refine Ck 2<|Hx S
 rintro y v g D;refine go ?_;exact Gg (a:=y) (v:=v) (g:=g) func79 z O O D O
instance Agf (l:List Sector):CP prog 79 [(.L 5 Br l),(.func (.func 66) [] [])] (G2 l) (λ(x:List Sector)=>(AV.sl 5 (List.map Br x))):=(Afm l).cp (λx=>Vs x)
instance Anv (a c):CP prog 67 [.int .i64 a,.A (Bz c)] (P7 a c) (λx=>(AV.agg (Bz x))):=by refine ci 8 2 func67 (P7.eq_1 _ _) λh0 ids z D=>go ?_;intro g g1;exact rt (hr:=by exact(Aw (Ar z O O O Aef.eq O) A0)) (hz:=by exact .aggL (.s (.cons (.emp _) .s1)))
def Af2 (l:List Config):Vv prog 80 [(.L 3 Bz l),(.func (.func 67) [] [])] (Gx l) 3 Bz:=by
 refine Gq (n:=23) 1 func80 O (by decide) O O λh0 ids z=>D8 (Ae (Gx.eq_1 _) ?_);refine go ?_;intro _;refine Kl (g0:=0) [1,7,8] 9 0 (λy=>y) (λy v=>[(4,v)]) (λy v g=>[Ccu v g 3 Bz y,none]) .nil ?_ ?_
 .rintro j a y v g G _ D W S;refine Ae (W2.eq_1 _ _ _)<|By ?_;refine Ah<|Bl (.B (decide ((j:Int)<(l.length:Int))))<|Ad<|Ai<|Fs (t:=7) (L:=l) O λR=>Co O (AT.2 (A6 G))<|A8<|Ai<|A3<|Ah<|Bp (.I j)<|Au (.cp (Bz a) 0) O (Ay (Ex Tt.eq Aef.eq O G))<|Bl (.A (Bz a))<|D9 1 Aef.eq λg1=>Cm (.I j)<|Gk (.A (Bz a)) ?_;refine Ad<|Bv ?_;refine A4<|Ao 4 [1] [(17,.A (Bz a)),(16,.I j),(15,.func (.func 67) [] []),(14,v)]<|Cb _ O O O O ((Anv (j:Int) a) _) (λv _=>Gz func80 z) λr _=>Ch (e:=Bz) (L:=[r]) (st:=3) (rows:=[[.str r.Name,.L 1 rS r.Names,.K r.Sectors]]) O Tt.eq Aef.eq O O O O O (.cons (AB _) .nil) (λx=>Vp x) O O<|Cf λU=>Ce (e:=Bz) (L:=y) (L2:=[r]) (v:=v) (g:=g) (st:=3) (j:=0) z O O O O D O (B7 O) Tt.eq Tt.eq O Aef.eq O O O U λv1 X V=>go ?_;refine Ck 2<|Hx S
 rintro y v g D;refine go ?_;exact Gg (a:=y) (v:=v) (g:=g) func80 z O O D O
instance Ag9 (l:List Config):CP prog 80 [(.L 3 Bz l),(.func (.func 67) [] [])] (Gx l) (λ(x:List Config)=>(AV.sl 3 (List.map Bz x))):=(Af2 l).cp (λx=>Vp x)
def Apg (z:AV)(h:Aa):I1 prog 173 [z] .ret h (Ys (λ_:Unit=>h) .ret (.ok ())):=by refine Rj (n:=3) func173 O (by decide) O O ?_ ⟨(),O⟩;refine D8 (Ae (m':=(Kx).bind λ_=>.ok ()) O ?_);refine A4<|Ail O<|Cb _ O O O O ((Z0 z) _) (λv D=>by unfold Kx at D;cases D) λ_ _=>?_;refine Ad<|Sv func173 O O O
def App (h0:Aa)(ids:List Nat)(R:Ids h0 ids 1)(z:Nat)(D:List AV)(G:D.length=1):(∃a,H2=.ok a)->I1 prog 173 [(.ptr (ix ids 0) z 0 0)] (.pan (.iface 324 (.A [])) false) (hp h0 ids [Ab z 1 [D]]) (Ys (λp=>hp h0 ids [Ab z 1 [[(.int .i64 1)]]]) (.pan (.iface 324 (.A [])) true) (H2)):=by refine Rj (n:=3) func173 O (by decide) O O<|D8 (Ae (H2.eq_1) ?_);refine A4<|Aim O<|Dj [0] R O O (Xb G (by exact R.sub' O O)) O O O O O O (λv S=>by unfold E3 at S;cases S) ?_;rintro _ _ _ _ ⟨rfl,rfl⟩;refine Gj [0] R O O O ?_;refine D6<|go ?_;exact Sv (a:=()) func173 O O O
instance Be7 (a route):CP prog 69 [.A (Aj a),.int .i64 route] (Acm a route) (λp=>AV.tup [.L 4 If p.1,.int .i64 p.2]):=by
 show CP _ _ _ ((Ze a route).catch' (Kw 324 ((H2).bind λ_=>.ok ([],1)) (λ_=>.bad))) _;refine Abv (n:=18) 8 func69 O (by decide) O O λh0 ids z=>?_;have hU:∀(v:PV) (fr:Nat->AV) (xs:List (Option AO)) (D:Nat) (S:List AV) (aa:xs.length=8) (V:S.length=1) (ab:xs.take 1=[some (.rows D 1 [S])]) (W:fr 4=.emp) (X:fr 5=.q ids 0 D),WU prog 69 18 false (Ng (λ(p:((List Leg)×Int))=>AV.tup [(.L 4 If p.1),(.I p.2)]) h0 (Kw 324 ((H2).bind λ_=>.ok ([],1)) (λ_=>.bad))) (.pan v) (.pan v.av false) fr [⟨173,[.q ids 0 D]⟩] (hp h0 ids xs) .ret:=by
  intro v fr xs D S aa V ab W X;refine A7y (t:=324) O (λhv=>?_) (λU=>?_)
  .subst hv;exact Aey (Hc:=H2) (fin:=λ_=>([],1)) (c:=1) (cells:=λp=>[Ab D 1 [[.I 1]]]) (vs:=λp=>[.emp,.I 1]) func69 z aa O ab (by first|(rw[Yh];done)|(rw[Yh];rfl)) (λhx=>by have:=App h0 (ids.take 1) (z.take O) D S V hx;simp only[Gt (c:=1) (j:=0) O]at this;exact this) (by intro w;simp[H2,E3]) (λp=>(Apw W (Lr X (U3 (z.take O) (Gt O) O O O Yf.eq O) A0))) (λp=>(.tupL (.cons (.emp _) .s1)))
  exact Are (by rw[Apr U])
 refine D8 (Ae (Ze.eq_1 _ _) ?_);refine Ah<|Ip 1 (.A (Aj a)) λg=>go ?_;intro g1;refine Aeu O O O ?_;refine A5t<|Ad<|Ah<|D9 2 Byj.eq λg2=>Ad<|Bv ?_;refine Ai<|Ah<|Ao 2 [1] [(10,.I route),(9,.A (Aj a))]<|Dj [3,4] z O O (Aht (by exact z.sub' O O)) O O O O O O (λv _=>H5 (hU v _ _ _ _ O O O O O)) ?_;rintro _ _ _ _ ⟨g3,g4,rfl,rfl⟩;refine Gj [3,4] z O O O ?_;refine D6<|go ?_;refine Aaw [Ab g1 1 [[.I 0]],Ab g 8 [Aj a],Ab g2 1 [[.emp]],none,none,none,none,none] [(4,.emp),(5,.q ids 0 g1),(6,.q ids 2 g2),(11,.func (.func 235) [] [.cp [.I route] 0,.cp (Aj a) 0])] z O (.keep (.keep (.keep (.drop (.drop (.keep (.keep (.keep .nil)))))))) (.s (.s (.s (.cons (.funcL .nil (.cons (.ptrL (z.at O O) (z.at O O) O (Pp _)) (.cons (.ptrL (z.at O O) (z.at O O) O (Pp _)) .nil))) .nil))))<|Ck 2<|Gh [4,5,6,11] ?_;refine Acd (P:=prog) 5 (λ(gL:Nat) (ac:Loop)=>λl=>λ(h1:Aa)=>∃(v:AV),∃(G:Nat),Av v (ix ids 7) G l.length/\h1=hp h0 ids [Ab g1 1 [[.I 0]],none,Ab g2 1 [[v]],none,none,some (.blk gL (.loop ac)),none,Ccu v G 4 If l]:Nat->Loop->(List Leg)->Aa->Prop) O O z O O O λgL af ac Y ad=>⟨?_,?_,?_,?_⟩
 .refine Afi route a _ _ _ _ _ (λa1=>Aky Y (by decide) O ad ?_ ?_) (λ_ _ _=>R.np_ne _ _) _ _ ?_
  .rintro l _ ⟨v,G,vH,rfl⟩;exact z.at O O
  .rintro ag l _ ⟨v,G,vH,rfl⟩;refine Ax7 (D8 (Ae (m':=Pf a1 l) O (Ae (Pf.eq_1 _ _) ?_)));refine Apx [(12,.A (If a1)),(4,.emp),(5,.q ids 0 g1),(6,.q ids 2 g2),(11,.func (.func 235) [] [.cp [.I route] 0,.cp (Aj a) 0])] (Abl _ _ _)<|A4<|D9 6 Awh.eq λg6=>Gk (.A (If a1)) ?_;refine Ad<|Bv ?_;refine Uz z O O O Y.ready<|Bv ?_;refine A3<|A4<|Ao 2 [2,6] [(14,.A (If a1)),(13,v)]<|Ch (e:=If) (L:=[a1]) (st:=4) (rows:=[[.I a1.Segment,.I a1.Volume,.I a1.Length,.L 2 Ax a1.Minutes]]) O Byj.eq Awh.eq O O O O O (.cons (AB _) .nil) (λx=>A1z x) O O<|Cf λhl=>Ce (e:=If) (L:=l) (L2:=[a1]) (v:=v) (g:=G) (st:=4) (j:=7) z O O O O vH O (B7 O) Byj.eq Byj.eq O Awh.eq O O O hl λv1 g7 ae=>Cw (De ae z O O O O Byj.eq O O O)<|go ?_;refine Ck 64<|Ai5 (s:=(l++[a1])) (jL:=5) z O O O ⟨v1,g7,ae,O⟩
  exact⟨.emp,0,.nil,O⟩
 .rintro l _ ⟨v,G,vH,rfl⟩;exact z.at O O
 .rintro l _ _ ⟨v,G,vH,rfl⟩;refine Amk [Ab g1 1 [[.I 0]],none,Ab g2 1 [[v]],none,none,none,none,Ccu v G 4 If l] z O O O<|go ?_;exact Ais (H5 (A4r (a:=(l,0)) (vs:=[v,.I 0]) func69 z (Apg _ _) (Ht (Aw (Ar z O O O Yf.eq O) A0)) (.tupL (.cons (Ca vH (z.at O O) (z.out O) (λx=>A1z x)) .s1))))
 rintro v2 _ l _ ⟨v,G,vH,rfl⟩;refine Amd [Ab g1 1 [[.I 0]],none,Ab g2 1 [[v]],none,none,none,none,Ccu v G 4 If l] z O O O<|H5 (hU v2 _ _ _ _ O O O O O)
def An4 {i r s h0 o0 g}(z:Ids h0 [o0] 1):CGS prog 68 h0 [o0] (P8 i r s) [.int .i64 i,.A (Ed r),.ptr o0 g 0 0] [Ab g 8 [Aj s]] (λG=>(.A (Ks G))):=by refine Cd 2 func68 (P8.eq_1 _ _ _) z ?_;rintro ids ⟨rfl,-⟩ D R S;refine go ?_;intro g1 U r1 _;exact Abi (K:=1) (N:=2) [Ab g 8 [Aj s]] func68 D O (Aw (Ar D O O O A08.eq O) A0) O (.keep (.drop (.drop .nil))) (.aggL (.s .s2)) ⟨O,O⟩
def Akd {l s h0 o0 g}(D:Ids h0 [o0] 1):CGS prog 81 h0 [o0] (Ls l s) [.L 7 Ed l,.func (.func 68) [] [.ptr o0 g 0 0]] [Ab g 8 [Aj s]] (λV=>(.L 3 Ks V)):=by
 refine Cd 2 func81 (Ls.eq_1 _ _) D ?_;rintro ids ⟨rfl,-⟩ G hF hK;refine go ?_;intro z;refine Gh [1,4,7,8,9] ?_;refine Ld (P:=prog) l (λj a=>λy=>No s j a y) (((λy=>.ok y)):(List Way)->R (List Way)) (λj=>λy=>λfr h=>∃(v1:AV),∃(g1:Nat),Av v1 (ix ids 2) g1 y.length/\fr=Ac [(1,.func (.func 68) [] [.q ids 0 g]),(4,v1),(7,.L 7 Ed l),(8,.I (l.length:Int)),(9,.I j)]/\h=hp h0 ids [Ab g 8 [Aj s],none,Ccu v1 g1 3 Ks y]) [] ?_ ?_ ?_
 .exact⟨.emp,0,.nil,O,O⟩
 .rintro j a X W Y y fr h ⟨v1,g1,S,rfl,rfl⟩;refine Ae (m':=No s j a y) O (Ae (No.eq_1 _ _ _ _) ?_);refine go ?_;intro g2;refine cG [0] An4 ?_;rintro r _ _ _ ⟨rfl,rfl⟩;refine F1 ?_;refine Ch (e:=Ks) (L:=[r]) (st:=3) (rows:=[[.I r.From,.I r.To,.L 4 If r.Legs]]) O Xv.eq A08.eq O O O O O (.cons (AB _) .nil) (λx=>Azs x) O O<|Cf λhl=>Ce (e:=Ks) (L:=y) (L2:=[r]) (v:=v1) (g:=g1) (st:=3) (j:=2) G O O O O S O (B7 O) Xv.eq Xv.eq O A08.eq O O O hl λv2 g3 U=>go ?_;refine Ck 2<|D1 (Z4 (Y (y++[r]) _ _ ⟨v2,g3,U,O,O⟩)) (.r4 (.o (ic X z)))
 rintro y fr h ⟨v1,g1,S,rfl,rfl⟩;refine go ?_;exact rg (hz:=by exact Ca S (G.at O O) (G.at O O) (λx=>Azs x))
end Go.Am
