import Derived.Test.YtjajmhcejacahaaGreatDoorU9
set_option linter.all false
set_option maxHeartbeats 4000000
set_option maxRecDepth 100000
open Go.Proofs.Tryz
namespace Go.Am
open Go Go.Proofs Go.Proofs.Tryz
attribute [local irreducible] WR WO WP WU Nu
def Ai3 (l:List Mode):Vv prog 25 [(.L 2 Qk l),(.F 23 [])] (Mh l) 1 rJ:=by
 refine Gq 1 func25 O (by decide) O O λh0 ids z=>D8 (Ae (Mh.eq_1 _) ?_);refine go ?_;intro _;refine Kl (g0:=0) [1,7,8] 9 0 (λy=>y) (λy v=>[(4,v)]) (λy v g=>[Ccu v g 1 rJ y,none]) .nil ?_ ?_
 .intro j a y v g A _ D W S;refine Ae (Zu.eq_1 ..)<|By ?_;refine Ah<|Ov 1 O<|Ad<|Ai<|Fs (t:=7) (L:=l) O λG=>Co O (AT.2 (A6 A))<|A8<|Ai<|A3<|Ah<|Ov 1 O<|Au _ O (Ay (Ex te te O A))<|Ov 1 O<|D9 1 te λg1=>Ov 1 O<|Gk (.A (Qk a)) ?_;refine Ad<|Bv ?_;refine A4<|Zm 4 [1] O<|Cb _ O O O O ((Ani _ a) _) (λv _=>Gz func25 z) λr _=>Bgg Ot 0 [r] O λv1 V U=>go ?_;refine Ck 2<|Hx S
 intro y v g D;refine go ?_;exact Gg func25 z O O D O
instance A2s (l:List Mode):CP prog 25 [(.L 2 Qk l),(.F 23 [])] (Mh l) (λ(x:List Int)=>(AV.sl 1 (List.map rJ x))):=(Ai3 l).cp (λx=>Dw x)
def Ana {a p h0 o0 g}:CJS prog 24 1 h0 [o0] (Qd a p) [.I a,.A (Dh p),.p o0 g] [Ab g 1 [[.F 23 []]]] .K:=by refine cgj 1 func24 (Qd.eq_1 ..) ?_;rintro ids ⟨rfl,-⟩ z A D;exact gc
def Ao4 {l h0 o0 g}:CJS prog 35 1 h0 [o0] (G6 l) [.L 2 Dh l,.F 24 [.p o0 g]] [Ab g 1 [[.F 23 []]]] (.L 1 (rL 1 rJ)):=by
 refine cgj 2 func35 (G6.eq_1 _) ?_;rintro ids ⟨rfl,-⟩ G S U;refine go ?_;intro _;refine Kl (g0:=0) [1,7,8] 9 2 (λy=>y) (λy v1=>[(4,v1)]) (λy v1 g1=>[Ab g 1 [[.F 23 []]],none,Ccu v1 g1 1 (rL 1 rJ) y]) .nil ?_ ?_
 .intro j a y v1 g1 V _ z W A;refine Ae (Ab3.eq_1 ..)<|go ?_;intro X;refine cG [0] Ana ?_;rintro r _ _ _ ⟨rfl,rfl⟩;refine F1 ?_;refine Bgg (e:=(rL 1 rJ)) (λx=>Ate x) 2 [r] O λv2 g3 D=>go ?_;refine Ck 2<|Hx A
 intro y v1 g1 z;refine go ?_;exact go1 (λx=>Ate x)
instance Bia (a class1):CP prog 96 [.A (Aj a),.I class1] (Tx a class1) (.I):=by refine ci 20 1 func96 (Tx.eq_1 ..) λh0 ids z A=>gc
instance Ap8 (r b c):CP prog 203 [.A (Bk r),.cp [.I b] 0,.cp [.I c] 0] (Xn r b c) AV.bool:=by refine ci 15 1 func203 (Xn.eq_1 ..) λh0 ids z A=>gc
def Adp {s s0 s1 h0 o0 o1 g g1}:CJS prog 202 2 h0 [o0,o1] (Kb s s0 s1) [.L 8 Bk s,.F 203 [.p o0 g,.p o1 g1]] [Ab g 1 [[.I s0]],Ab g1 1 [[.I s1]]] .I:=by
 refine cgj 0 func202 (Kb.eq_1 ..) ?_;rintro ids ⟨rfl,rfl,-⟩ z A D;refine go ?_;intro _;refine Ph [0,1,7] 8 (λ_=>[]) (λ_=>[Ab g 1 [[.I s0]],Ab g1 1 [[.I s1]]]) ?_ ?_
 .intro j a _ G _ W _;refine Ae (M9.eq_1 ..)<|go ?_;refine cO (FN (Ap8 a s0 s1) (EW (.s (.cons (.ptrL (z.at O O) O O (Pp _)) (.cons (.ptrL (z.at O O) O O (Pp _)) .nil)))) (λ_ _=>(.bool _))) λr _=>gc
 intro _;exact gc
instance Ak3 (a kind class1 otherwise):CP prog 98 [.A (Aj a),.I kind,.I class1,.I otherwise] (Ru a kind class1 otherwise) (.I):=by refine ci 23 3 func98 (Ru.eq_1 ..) λh0 ids z A=>go ?_;intro g g1 D;refine cG [1,2] Adp ?_;rintro i _ _ _ ⟨rfl,rfl⟩;exact gc
instance Bf3 (a class1):CP prog 29 [.A (Aj a),.I class1] (Yi a class1) (λp=>AV.tup [.I p.1,.I p.2]):=by
 refine ci 16 1 func29 (Yi.eq_1 ..) λh0 ids A D=>go ?_;intro g e _;refine Bo O (λz=>?_) (λz=>?_)
 .refine go ?_;exact rz
 refine go ?_;intro n _;exact rz
instance Bcw (a class1):CP prog 30 [.A (Aj a),.I class1] (Wu a class1) (λp=>AV.tup [.I p.1,.I p.2]):=by
 refine ci 20 1 func30 (Wu.eq_1 ..) λh0 ids A D=>go ?_;intro g e _;refine Bo O (λz=>?_) (λz=>?_)
 .refine go ?_;exact rz
 refine A8<|Ai<|Ajf [0,1,3,4,2,5,6,7,8] ?_;refine Au7 4 [0,0] O<|Ll ((Ak3 a 4 class1 60) _) (hpd:=(A9 [0])) λr _=>?_;refine Ll ((Ak3 a 2 class1 60) _) λr1 _=>?_;refine Az (.I (if r1<r then r1 else r)) O O (Bap O)<|go ?_;exact rz
instance Ar5 (a y):CP prog 264 [.B a,.B y] (Aep a y) AV.bool:=by refine ci 9 0 func264 (Aep.eq_1 ..) λh0 ids z A=>gc
def Ali (a:List Span)(b:List Span):Vv prog 263 [(.L 2 Ax a),(.L 2 Ax b),(.F 264 [])] (K9 a b) 2 Ax:=by
 refine Gq 3 func263 O (by decide) O O λh0 ids z=>D8 (Ae (K9.eq_1 ..) ?_);refine go ?_;refine Dj [1] z O O (Aa0 (by exact z.sub' O O)) O O O O O O (λv _=>Gz func263 z) ?_;rintro d _ _ _ ⟨g,rfl,rfl⟩;refine Gj [1] z O O O ?_;refine D6<|Ov 1 O<|Dj [2] z O O (Aa0 (by exact z.sub' O O)) O O O O O O (λv _=>Gz func263 z) ?_;rintro e _ _ _ ⟨g1,rfl,rfl⟩;refine Gj [2] z O O O ?_;refine D6<|go ?_;refine Ui [2,7,8] 14 (λo=>[]) (λo=>[none,Ab g 1440 [(rV rB) o],Ab g1 1440 [(rV rB) e],none]) ?_ ?_
 .intro j a1 o A _ W _;refine Ae (Ve.eq_1 ..)<|By ?_;refine Ah<|Ov 1 O<|Ad<|Ai<|Co O (by have:=(Cs A).1;omega)<|A8<|Ai<|A3<|Ah<|Ov 2 O<|Ad<|Ajf [0,1,2,3,4,5,6,7,8,9,10,11,12,14,13,15,16] ?_;refine Avn 6 O<|Az _ O O (Ay (C8 te te O (Cs A).1))<|Az _ O O (A7 (Ar z O O O te (Et (λ_=>O) (Cs A).1 false)))<|Avn 3 O<|Az _ O O (Ay (C8 te te O (Cs A).1))<|Az _ O O (A7 (Ar z O O O te (Et (λ_=>O) (Cs A).1 false)))<|Avn 1 O<|D7 _ O O O O O ((Ar5 _ _) _) (λv _ _ _=>Gz func263 z) (A9 []) λr _=>Az _ O O (Ay (C8 te te O (Cs A).1))<|Cv O (λ_ _=>O) (λK D=>Bi (Yo (e:=rB) (λ_=>O) z O O O te O O (Cs A).1 O O O) (D _ _ Bh ?_));clear D K;exact gc
 intro o;refine By ?_;refine Ah<|Ov 1 O<|Ad<|Ai<|Eb O (by simp)<|go ?_;refine Dj [1,3] z O O (Ac8 (by exact z.sub' O O)) O O O O O O (λv _=>Gz func263 z) ?_;rintro _ _ _ _ ⟨S,rfl,rfl⟩;refine Gj [1,3] z O O O ?_;refine D6<|Dj [3,1,0] z O O (Vt (by exact z.sub' O O)) O O O O O O (λv _=>Gz func263 z) ?_;rintro r2 _ _ _ ⟨v,g3,G,rfl,rfl⟩;refine Gj [3,1,0] z O O O ?_;refine D6<|go ?_;exact Gg func263 z O O G O
instance A5l (a:List Span)(b:List Span):CP prog 263 [(.L 2 Ax a),(.L 2 Ax b),(.F 264 [])] (K9 a b) (λ(x:List Span)=>(AV.sl 2 (List.map Ax x))):=(Ali a b).cp (λx=>Gu x)
instance Avq (a b):CP prog 201 [.L 2 Ax a,.L 2 Ax b] (Ae5 a b) (λx=>(AV.sl 2 (List.map Ax x))):=by refine ci 8 0 func201 (Av7 _ _) λh0 ids z A=>gc
instance Bfx (l):CP prog 97 [.L 2 Ax l] (Ab5 l) (λx=>(AV.sl 2 (List.map Ax x))):=by refine ci 5 0 func97 (Ab5.eq_1 _) λh0 ids A D=>go ?_;refine oc (λz=>FO (.s (.cons (.emp _) .nil)) ((Avq l _) _ z)) λr _=>gc
instance Bfh (a class1 airport):CP prog 28 [.A (Aj a),.I class1,.I airport] (X6 a class1 airport) (λp=>AV.tup [.L 2 Ax p.1,.I p.2]):=by
 refine ci 56 3 func28 (X6.eq_1 ..) λh0 ids A Z=>go ?_;intro g e _;refine Bo O (λX=>?_) (λX=>?_)
 .refine go ?_;exact rz
 refine go ?_;refine Bo O (λD=>?_) (λD=>?_)
 .refine go ?_;exact rz
 refine go ?_;intro _;refine Ck 1<|Kl (g0:=0) [1,2,27,28] 29 2 (λl=>l) (λl v=>[(6,v)]) (λl v g1=>[none,none,Ccu v g1 2 Ax l]) .nil ?_ ?_
 .intro j a1 l v g1 z _ S W U;refine Ae (Acq.eq_1 ..)<|By ?_;refine Ah<|Ov 1 O<|Ad<|Ai<|Fs (t:=27) (L:=a.Rules) O λV=>Co O (AT.2 (A6 z))<|A8<|Ai<|A3<|Ah<|Au _ O (Ay (Ex te te O z))<|Ov 1 O<|D9 1 te λg2=>go ?_;refine Bo O (λG=>?_) (λG=>?_)
  .refine A4<|Zm 3 [1] O<|Bgg Gu 2 [a1.Hours] O λv1 g3 Y=>Ov 1 O<|Ad<|Bv ?_;refine Ci<|A4<|Ov 2 O<|Ad<|Ck 2<|Hx U
  refine A8<|Ci<|A4<|Ov 2 O<|Ad<|Ck 2<|Hx U
 intro l v g1 S;refine go ?_;refine Bb7 [(54,.L 2 Ax l)] (Drops.sub (.keep (.keep (.drop .nil))) A.len) (.cons (Ca S (A.at O O) (A.at O O) (λx=>Gu x)) .nil) O O<|go ?_;intro l1 _;exact rz
def Ake {k b s0 s1 h0 o0 o1 g g1}:CJS prog 27 2 h0 [o0,o1] (Md k b s0 s1) [.I k,.A (Dh b),.p o0 g,.p o1 g1] [Ab g 8 [Aj s0],Ab g1 1 [[.I s1]]] (.L 2 Ax):=by refine cgj 1 func27 (Md.eq_1 ..) ?_;rintro ids ⟨rfl,rfl,-⟩ z A D;exact gc
def Aeh {l s0 s1 h0 o0 o1 g g1}:CJS prog 31 2 h0 [o0,o1] (Li l s0 s1) [.L 2 Dh l,.F 27 [.p o0 g,.p o1 g1]] [Ab g 8 [Aj s0],Ab g1 1 [[.I s1]]] (.L 1 (rL 2 Ax)):=by
 refine cgj 2 func31 (Li.eq_1 ..) ?_;rintro ids ⟨rfl,rfl,-⟩ S U V;refine go ?_;intro _;refine Kl (g0:=0) [1,7,8] 9 3 (λy=>y) (λy v1=>[(4,v1)]) (λy v1 z=>[Ab g 8 [Aj s0],Ab g1 1 [[.I s1]],none,Ccu v1 z 1 (rL 2 Ax) y]) .nil ?_ ?_
 .intro j a y v1 z X _ A W D;refine Ae (Vc.eq_1 ..)<|go ?_;intro g3;refine cG [0,1] Ake ?_;rintro r _ _ _ ⟨rfl,rfl⟩;refine F1 ?_;refine Bgg (e:=(rL 2 Ax)) (λx=>Ate x) 3 [r] O λv2 Y G=>go ?_;refine Ck 4<|Hx D
 intro y v1 z A;refine go ?_;exact go1 (λx=>Ate x)
def Ang {i c s h0 o0 g}:CJS prog 26 1 h0 [o0] (Qa i c s) [.I i,.A (E2 c),.p o0 g] [Ab g 8 [Aj s]] (λD=>(.A (Gi D))):=by refine cgj 3 func26 (Qa.eq_1 ..) ?_;rintro ids ⟨rfl,-⟩ z S A;refine go ?_;intro g1 G g3 r _ r1 _;refine R3 [0,1] z O O (Aeh (by exact z.sub' O O)) O O O O O O O (λv _ _ _=>Cr (K:=1) (N:=3) func26 z) ?_;rintro r2 _ _ _ ⟨rfl,rfl⟩;refine Vg [0,1] [Ab g 8 [Aj s],Ab g1 1 [[.I i]],Ab G 4 [E2 c],Ab g3 6 [[.I 0,.I 0,.I 0,.I 0,.I 0,.emp]]] z O O O O ⟨A9 [2,2,2],?_⟩;refine W6<|Avn 1 O<|Cv O (λ_ _=>O) (λK A=>Bi (Iz (v:=(.A [.I c.Slow,.I c.Fast,.I c.Places,.I r.1,.I r1.1,.L 1 (rL 2 Ax) r2])) z O O O O te O O O O O) (A _ _ Bh ?_));clear A K;refine go ?_;exact Abi (K:=1) (N:=3) [Ab g 8 [Aj s]] func26 z O (Aw (Ar z O O O te O) A0) O (.keep (.drop (.drop (.drop .nil)))) (.aggL (.s (.s (.s (.s .s2))))) ⟨O,O⟩
def Ajd {l s h0 o0 g}:CJS prog 36 1 h0 [o0] (Kv l s) [.L 4 E2 l,.F 26 [.p o0 g]] [Ab g 8 [Aj s]] (.L 6 Gi):=by
 refine cgj 2 func36 (Kv.eq_1 ..) ?_;rintro ids ⟨rfl,-⟩ U V X;refine go ?_;intro z;refine Gh [1,4,7,8,9] ?_;refine Ld (P:=prog) l _ _ (λj=>λy=>λfr h=>∃(v1:AV),∃(g1:Nat),Av v1 (ix ids 2) g1 y.length/\fr=Ac [(1,.F 26 [.q ids 0 g]),(4,v1),(7,.L 4 E2 l),(8,.I (l.length:Int)),(9,.I j)]/\h=hp h0 ids [Ab g 8 [Aj s],none,Ccu v1 g1 6 Gi y]) [] ?_ ?_ ?_
 .exact⟨.emp,0,.nil,O,O⟩
 .rintro j a D W G y fr h ⟨v1,g1,S,rfl,rfl⟩;refine Ae (m':=Mf s j a y) O (Ae (Mf.eq_1 ..) ?_);refine go ?_;intro Y;refine cG [0] Ang ?_;rintro r _ _ _ ⟨rfl,rfl⟩;refine F1 ?_;refine Bgg Awg 2 [r] O λv2 g3 A=>go ?_;refine Ck 2<|D1 (Z4 (G _ _ _ ⟨v2,g3,A,O,O⟩)) (.r4 (.o (ic D z)))
 rintro y fr h ⟨v1,g1,S,rfl,rfl⟩;refine go ?_;exact go1 (λx=>Awg x)
instance Aei (n least most):CP prog 64 [.I n,.I least,.I most] (Hj n least most) AV.bool:=by refine ci 15 0 func64 (Hj.eq_1 ..) λh0 ids z A=>gc
instance A8e (t):CP prog 76 [.A (B9 t)] (Vw t) (λx=>(AV.agg (Aj x))):=by refine ci 11 3 func76 (Vw.eq_1 _) λh0 ids z S=>Ah<|Ip 0 (.A (B9 t)) λg=>D9 1 te λg1=>Ad<|Bv ?_;refine Ai<|Ajf [0,1,3,4,5,6,2,7,8] ?_;refine go ?_;intro D;refine Cz O O (λ_ _=>O) (λK A=>Awp (y:=(Auw:Volume)) (e:=Ba) (j:=2) z O O O te te O O D.1 D.2.1 D.2.2 O O O (Agb _) (.s (.cons (.emp _) .nil)) O λv U G=>A _ _ (A9 [0,0]) ?_);clear A K;refine Az _ O O (Ai4 (A6y te Bou.eq (Bdz G O O (Bbm O O O O (Bbm O O O O O)))))<|Cv O (λ_ _=>O) (λK A=>Bi (Iz z O O O O te O O O O (Bc (EA G) (Bc O (Bc O (Bc O (Bc O (Bc O (Bc O (Bc O Rm))))))))) (A _ _ Bh ?_));clear A K;refine go ?_;exact rt (hr:=by exact(Aw (Ar z O O O te O) A0)) (hz:=by exact .aggL (.cons (Ca G (z.at O O) (z.out O) (λx=>Agb x)) (.s (.s (.cons (.emp _) (.cons (.emp _) (.cons (.emp _) (.cons (.emp _) (.cons (.emp _) .nil)))))))))
instance A6z (s):CP prog 63 [.A (Br s)] (Uw s) AV.bool:=by refine ci 13 1 func63 (Uw.eq_1 _) λh0 ids z A=>gc
def Afh {a h0 o0 g}:CJS prog 175 1 h0 [o0] (Il a) [.A (Br a),.p o0 g] [Ab g 1 [[.F 63 []]]] .B:=by refine cgj 1 func175 (Il.eq_1 _) ?_;rintro ids ⟨rfl,-⟩ z A D;exact gc
def Adw {s h0 o0 g}:CJS prog 242 1 h0 [o0] (Kk s) [.L 5 Br s,.F 175 [.p o0 g]] [Ab g 1 [[.F 63 []]]] .I:=by
 refine cgj 0 func242 (Kk.eq_1 _) ?_;rintro ids ⟨rfl,-⟩ z A D;refine go ?_;intro _;refine Ph [0,1,7] 8 (λ_=>[]) (λ_=>[Ab g 1 [[.F 63 []]]]) ?_ ?_
 .intro j a _ G _ W _;refine Ae (Uh.eq_1 ..)<|go ?_;refine cG [0] Afh ?_;rintro r _ _ _ ⟨rfl,rfl⟩;exact gc
 intro _;exact gc
def Aa9 {s h0 o0 g}:CJS prog 174 1 h0 [o0] (Ia s) [.L 5 Br s,.F 175 [.p o0 g]] [Ab g 1 [[.F 63 []]]] .B:=by refine cgj 0 func174 (Ia.eq_1 _) ?_;rintro ids ⟨rfl,-⟩ z A D;refine go ?_;refine cG [0] Adw ?_;rintro r _ _ _ ⟨rfl,rfl⟩;exact gc
instance Ayp (l):CP prog 77 [.L 5 Br l,.F 63 []] (J2 l) AV.bool:=by refine ci 9 1 func77 (J2.eq_1 _) λh0 ids z A=>go ?_;intro g;refine cG [0] Aa9 ?_;rintro r _ _ _ ⟨rfl,rfl⟩;exact gc
instance A2u (n):CP prog 67 [.I n] (Qr n) AV.bool:=by refine ci 5 0 func67 (Qr.eq_1 _) λh0 ids z A=>gc
def Aje {a h0 o0 g}:CJS prog 167 1 h0 [o0] (La a) [.I a,.p o0 g] [Ab g 1 [[.F 67 []]]] .B:=by refine cgj 0 func167 (La.eq_1 _) ?_;rintro ids ⟨rfl,-⟩ z A D;exact gc
def Ahk {s h0 o0 g}:CJS prog 235 1 h0 [o0] (Nd s) [.K s,.F 167 [.p o0 g]] [Ab g 1 [[.F 67 []]]] .I:=by
 refine cgj 0 func235 (Nd.eq_1 _) ?_;rintro ids ⟨rfl,-⟩ z A D;refine go ?_;intro _;refine Ph [0,1,7] 8 (λ_=>[]) (λ_=>[Ab g 1 [[.F 67 []]]]) ?_ ?_
 .intro j a _ G _ W _;refine Ae (Wz.eq_1 ..)<|go ?_;refine cG [0] Aje ?_;rintro r _ _ _ ⟨rfl,rfl⟩;exact gc
 intro _;exact gc
def Adr {s h0 o0 g}:CJS prog 166 1 h0 [o0] (Kg s) [.K s,.F 167 [.p o0 g]] [Ab g 1 [[.F 67 []]]] .B:=by refine cgj 0 func166 (Kg.eq_1 _) ?_;rintro ids ⟨rfl,-⟩ z A D;refine go ?_;refine cG [0] Ahk ?_;rintro r _ _ _ ⟨rfl,rfl⟩;exact gc
instance A31 (l):CP prog 66 [.K l,.F 67 []] (Sa l) AV.bool:=by refine ci 9 1 func66 (Sa.eq_1 _) λh0 ids z A=>go ?_;intro g;refine cG [0] Adr ?_;rintro r _ _ _ ⟨rfl,rfl⟩;exact gc
instance A6a (l):CP prog 65 [.K l] (Uv l) AV.bool:=by refine ci 10 0 func65 (Uv.eq_1 _) λh0 ids z A=>gc
def Ao9 {a h0 o0 g}:CJS prog 177 1 h0 [o0] (Gl a) [.K a,.p o0 g] [Ab g 1 [[.F 65 []]]] .B:=by refine cgj 0 func177 (Gl.eq_1 _) ?_;rintro ids ⟨rfl,-⟩ z A D;exact gc
def Ai7 {s h0 o0 g}:CJS prog 243 1 h0 [o0] (I9 s) [.L 1 (rL 1 rJ) s,.F 177 [.p o0 g]] [Ab g 1 [[.F 65 []]]] .I:=by
 refine cgj 0 func243 (I9.eq_1 _) ?_;rintro ids ⟨rfl,-⟩ z A D;refine go ?_;intro _;refine Ph [0,1,7] 8 (λ_=>[]) (λ_=>[Ab g 1 [[.F 65 []]]]) ?_ ?_
 .intro j a _ G _ W _;refine Ae (Uf.eq_1 ..)<|go ?_;refine cG [0] Ao9 ?_;rintro r _ _ _ ⟨rfl,rfl⟩;exact gc
 intro _;exact gc
def Ae0 {s h0 o0 g}:CJS prog 176 1 h0 [o0] (Gb s) [.L 1 (rL 1 rJ) s,.F 177 [.p o0 g]] [Ab g 1 [[.F 65 []]]] .B:=by refine cgj 0 func176 (Gb.eq_1 _) ?_;rintro ids ⟨rfl,-⟩ z A D;refine go ?_;refine cG [0] Ai7 ?_;rintro r _ _ _ ⟨rfl,rfl⟩;exact gc
instance A7e (l):CP prog 78 [.L 1 (rL 1 rJ) l,.F 65 []] (I4 l) AV.bool:=by refine ci 9 1 func78 (I4.eq_1 _) λh0 ids z A=>go ?_;intro g;refine cG [0] Ae0 ?_;rintro r _ _ _ ⟨rfl,rfl⟩;exact gc
instance Acs (n b):CP prog 70 [.I n,.cp (B9 b) 0] (Mr n b) AV.bool:=by refine ci 10 0 func70 (Mr.eq_1 ..) λh0 ids z A=>gc
def Ann {a s h0 o0 g}:CJS prog 68 1 h0 [o0] (P1 a s) [.A (If a),.p o0 g] [Ab g 6 [B9 s]] .B:=by
 refine cgj 1 func68 (P1.eq_1 ..) ?_;rintro ids ⟨rfl,-⟩ X Y Z;refine Bv ?_;refine Ah<|Ip 1 (.A (If a)) λg1=>Ov 1 O<|Ad<|Bv ?_;refine Ah<|Zm 2 [1] O<|Arl λr _=>?_;refine Ov 1 O<|G9 7 7 14 [2] .bool O ?_ (λD _ W=>?_) (λD _ W=>?_)
 .intro b;refine Ov 1 O<|G9 4 15 19 [2] .bool O ?_ (λG _ S=>?_) (λG _ S=>?_)
  .intro b1;refine Ov 1 O<|Oc 5 20 25 [2] (.B (b1&&(decide ((a.Minutes.length:Int)>0)))) O ?_ (λz _ A=>?_) (λz _ A=>?_)
   .refine Ov 1 O<|G9 5 26 31 [] .bool O ?_ (λU _ V=>?_) (λU _ V=>?_)
    .intro b2;refine Ov 1 O<|Ad<|rg
    .refine Zm 2 [1] O<|cO ((Avg a.Minutes) _) λr3 _=>gc
    exact gc
   .refine Zm 2 [1] O<|F5 (.I (a.Minutes.length:Int)) O O O (D4 (Jy te))<|Ov 2 O<|wj A (Afb z)
   refine Ov 5 O<|wj A (Afc z)
  .refine Zm 2 [1] O<|cO ((Aei a.Length 1 4096) _) λr2 _=>gc
  exact gc
 .refine Zm 5 [1,0] O<|cO ((Aei a.Volume 0 _) _) λr1 _=>gc
 exact gc
def Alr {a s1 h0 o0 o1 g g1}:CJS prog 171 2 h0 [o0,o1] (Ns a s1) [.A (If a),.p o0 g] [Ab g 1 [[.F 68 [.p o1 g1]]],Ab g1 6 [B9 s1]] .B:=by refine cgj 1 func171 (Ns.eq_1 ..) ?_;rintro ids ⟨rfl,rfl,-⟩ z A D;refine go ?_;intro G;refine cG [1] Ann ?_;rintro r _ _ _ ⟨rfl,rfl⟩;exact gc
def Ago {s s1 h0 o0 o1 g g1}:CJS prog 237 2 h0 [o0,o1] (Na s s1) [.L 4 If s,.F 171 [.p o0 g]] [Ab g 1 [[.F 68 [.p o1 g1]]],Ab g1 6 [B9 s1]] .I:=by
 refine cgj 0 func237 (Na.eq_1 ..) ?_;rintro ids ⟨rfl,rfl,-⟩ z A D;refine go ?_;intro _;refine Ph [0,1,7] 8 (λ_=>[]) (λ_=>[Ab g 1 [[.F 68 [.q ids 1 g1]]],Ab g1 6 [B9 s1]]) ?_ ?_
 .intro j a _ G _ W _;refine Ae (Ww.eq_1 ..)<|go ?_;refine cG [0,1] Alr ?_;rintro r _ _ _ ⟨rfl,rfl⟩;exact gc
 intro _;exact gc
def Adn {s s1 h0 o0 o1 g g1}:CJS prog 170 2 h0 [o0,o1] (Kd s s1) [.L 4 If s,.F 171 [.p o0 g]] [Ab g 1 [[.F 68 [.p o1 g1]]],Ab g1 6 [B9 s1]] .B:=by refine cgj 0 func170 (Kd.eq_1 ..) ?_;rintro ids ⟨rfl,rfl,-⟩ z A D;refine go ?_;refine cG [0,1] Ago ?_;rintro r _ _ _ ⟨rfl,rfl⟩;exact gc
def Alm {l s h0 o0 g}:CJS prog 72 1 h0 [o0] (R8 l s) [.L 4 If l,.F 68 [.p o0 g]] [Ab g 6 [B9 s]] .B:=by refine cgj 1 func72 (R8.eq_1 ..) ?_;rintro ids ⟨rfl,-⟩ z A D;refine go ?_;intro g1;refine cG [1,0] Adn ?_;rintro r _ _ _ ⟨rfl,rfl⟩;exact gc
def Anc {w s1 h0 o0 o1 o2 g g1 g2}:CJS prog 71 3 h0 [o0,o1,o2] (Uu w s1) [.A (Ks w),.p o0 g,.p o2 g2] [Ab g 1 [[.F 70 [.p o1 g1]]],Ab g1 6 [B9 s1],Ab g2 1 [[.F 68 [.p o1 g1]]]] .B:=by
 refine cgj 1 func71 (Uu.eq_1 ..) ?_;rintro ids ⟨rfl,rfl,rfl,-⟩ z W X;refine go ?_;intro g3;refine cO (FN (Acs w.From s1) (EW (.s (.cons (.ptrL (z.at O O) O O (Pp _)) .nil))) (λ_ _=>(.bool _))) λr _=>Ov 1 O<|G9 5 9 14 [2,3] .bool O ?_ (λA _ V=>?_) (λA _ V=>?_)
 .intro b;refine Ov 1 O<|G9 5 15 20 [2,3] .bool O ?_ (λD _ G=>?_) (λD _ G=>?_)
  .intro b1;refine Ov 1 O<|G9 5 21 26 [] .bool O ?_ (λS _ U=>?_) (λS _ U=>?_)
   .intro b2;refine Ov 1 O<|Ad<|rg
   .refine Zm 3 [3,2] O<|Dj [1] z O O (Alm (by exact z.sub' O O)) O O O (C6 O O) O O (λv _=>Cr func71 z) ?_;rintro Y _ _ _ ⟨rfl,rfl⟩;refine Gj [1] z O O O ?_;refine D6<|gc
   exact gc
  .refine Zm 2 [3] O<|F5 (.I (w.Legs.length:Int)) O O O (D4 (Jy te))<|cO ((Aei _ 1 8) _) λr2 _=>gc
  exact gc
 .refine Zm 3 [0,3] O<|cO (FN (Acs w.To s1) (EW (.s (.cons (.ptrL (z.at O O) O O (Pp _)) .nil))) (λ_ _=>(.bool _))) λr1 _=>gc
 exact gc
def Alj {a s2 h0 o0 o1 o2 o3 g g1 g2 g3}:CJS prog 179 4 h0 [o0,o1,o2,o3] (Ny a s2) [.A (Ks a),.p o0 g] [Ab g 1 [[.F 71 [.p o1 g1,.p o3 g3]]],Ab g1 1 [[.F 70 [.p o2 g2]]],Ab g2 6 [B9 s2],Ab g3 1 [[.F 68 [.p o2 g2]]]] .B:=by refine cgj 1 func179 (Ny.eq_1 ..) ?_;rintro ids ⟨rfl,rfl,rfl,rfl,-⟩ z A D;refine go ?_;intro G;refine cG [1,2,3] Anc ?_;rintro r _ _ _ ⟨rfl,rfl⟩;exact gc
def Ahb {s s2 h0 o0 o1 o2 o3 g g1 g2 g3}:CJS prog 244 4 h0 [o0,o1,o2,o3] (Ni s s2) [.L 3 Ks s,.F 179 [.p o0 g]] [Ab g 1 [[.F 71 [.p o1 g1,.p o3 g3]]],Ab g1 1 [[.F 70 [.p o2 g2]]],Ab g2 6 [B9 s2],Ab g3 1 [[.F 68 [.p o2 g2]]]] .I:=by
 refine cgj 0 func244 (Ni.eq_1 ..) ?_;rintro ids ⟨rfl,rfl,rfl,rfl,-⟩ z A D;refine go ?_;intro _;refine Ph [0,1,7] 8 (λ_=>[]) (λ_=>[Ab g 1 [[.F 71 [.q ids 1 g1,.q ids 3 g3]]],Ab g1 1 [[.F 70 [.q ids 2 g2]]],Ab g2 6 [B9 s2],Ab g3 1 [[.F 68 [.q ids 2 g2]]]]) ?_ ?_
 .intro j a _ G _ W _;refine Ae (Wr.eq_1 ..)<|go ?_;refine cG [0,1,2,3] Alj ?_;rintro r _ _ _ ⟨rfl,rfl⟩;exact gc
 intro _;exact gc
def Adz {s s2 h0 o0 o1 o2 o3 g g1 g2 g3}:CJS prog 178 4 h0 [o0,o1,o2,o3] (Ki s s2) [.L 3 Ks s,.F 179 [.p o0 g]] [Ab g 1 [[.F 71 [.p o1 g1,.p o3 g3]]],Ab g1 1 [[.F 70 [.p o2 g2]]],Ab g2 6 [B9 s2],Ab g3 1 [[.F 68 [.p o2 g2]]]] .B:=by refine cgj 0 func178 (Ki.eq_1 ..) ?_;rintro ids ⟨rfl,rfl,rfl,rfl,-⟩ z A D;refine go ?_;refine cG [0,1,2,3] Ahb ?_;rintro r _ _ _ ⟨rfl,rfl⟩;exact gc
def Alo {l s1 h0 o0 o1 o2 g g1 g2}:CJS prog 79 3 h0 [o0,o1,o2] (Nr l s1) [.L 3 Ks l,.F 71 [.p o0 g,.p o2 g2]] [Ab g 1 [[.F 70 [.p o1 g1]]],Ab g1 6 [B9 s1],Ab g2 1 [[.F 68 [.p o1 g1]]]] .B:=by refine cgj 1 func79 (Nr.eq_1 ..) ?_;rintro ids ⟨rfl,rfl,rfl,-⟩ z A D;refine go ?_;intro g3;refine cG [3,0,1,2] Adz ?_;rintro r _ _ _ ⟨rfl,rfl⟩;exact gc
instance Atu (l):CP prog 238 [.K l] (Yw l) AV.bool:=by
 refine ci 33 0 func238 (Yw.eq_1 _) λh0 ids U V=>Ah<|Ov 1 O<|Ad<|Ai<|Ah<|Ov 1 O<|Ad<|jn (π:=Unit) (λ_=>Acn) [] (λ_=>[]) (λ_=>[]) ?_ λ_=>?_
 .intro _;refine Ae (Acn.eq_1)<|gc
 refine A3<|lpL [0] (λi=>[(3,.I i)]) (λi=>[]) ?_;intro i W _;refine Ae (Acx.eq_1 ..)<|go ?_;intro _;refine E4 O (λA=>?_) (λA=>?_)
 .refine A8<|Ai<|A3<|Ai<|jn (λx=>Pe i x) [0,3] (λx=>[(32,.B x)]) (λx=>[]) ?_ λ_=>?_
  .intro x;refine Ae (Pe.eq_1 ..)<|gc
  refine go ?_
  intro a hz D a1 G S
  refine On (λz=>?_) (λz=>?_)
  .refine U2 (t:=21) z O<|gc
  refine U2 (t:=21) z O<|gc
 exact gc
instance A35 (l):CP prog 240 [.L 2 Ax l] (Nt l) AV.bool:=by refine ci 6 0 func240 (Nt.eq_1 _) λh0 ids z A=>gc
instance Am4 (s):CP prog 282 [.L 1 (rL 2 Ax) s,.F 240 []] (E6 s) (.I):=by
 refine ci 19 0 func282 (E6.eq_1 _) λh0 ids z A=>go ?_;intro _;refine Ph [0,1,7] 8 (λ_=>[]) (λ_=>[]) ?_ ?_
 .intro j a _ D _ W _;refine Ae (Lm.eq_1 ..)<|gc
 intro _;exact gc
instance Ald (s):CP prog 239 [.L 1 (rL 2 Ax) s,.F 240 []] (Er s) AV.bool:=by refine ci 9 0 func239 (Er.eq_1 _) λh0 ids z A=>gc
instance Apb (k):CP prog 172 [.A (Bpf k)] (V2 k) AV.bool:=by
 refine ci 40 1 func172 (V2.eq_1 _) λh0 ids D G=>go ?_;intro g _;refine Be3 Ot [k.Kind.Slow,1,64,k.Kind.Fast,k.Kind.Slow,64,k.Kind.Places,1,8,k.Kind.Weight,1,8,k.Kind.Longest,0,60,(k.Kind.Curfews.length:Int),0,16]<|oc ((Atu _) _) λr _=>Ov 2 O<|Oc 6 28 34 [1] (.B ((!r)||((Int.tmod k.Kind.Longest 10)!=0))) O ?_ (λz _ A=>?_) (λz _ A=>?_)
 .exact gc
 .refine Ov 6 O<|wj A (Ava z)
 refine Zm 3 [0] O<|F5 (.I (Int.tmod k.Kind.Longest 10)) O O O (Bb O O (Amc O (by decide)))<|Ov 2 O<|wj A (Av1 z)
instance Bgk (k):CP prog 74 [.A (Gi k)] (Ae1 k) (.I):=by refine ci 7 1 func74 (Ae1.eq_1 _) λh0 ids A D=>Ah<|Ip 0 (.A (Gi k)) λg=>Ov 1 O<|Ad<|Bv ?_;refine Ai<|Ah<|Zm 2 [0] O<|oc (λz=>FO (.cons (.aggL (.s (.s (.s (.s .s2))))) .nil) ((Apb ({Kind:=k}:T241)) _ z)) λr _=>gc
def Anl {k s h0 o0 g}:CJS prog 73 1 h0 [o0] (Ul k s) [.A (Gi k),.p o0 g] [Ab g 6 [B9 s]] .B:=by refine cgj 1 func73 (Ul.eq_1 ..) ?_;rintro ids ⟨rfl,-⟩ z A D;exact gc
def Aki {a s1 h0 o0 o1 g g1}:CJS prog 181 2 h0 [o0,o1] (Lv a s1) [.A (Gi a),.p o0 g] [Ab g 1 [[.F 73 [.p o1 g1]]],Ab g1 6 [B9 s1]] .B:=by refine cgj 1 func181 (Lv.eq_1 ..) ?_;rintro ids ⟨rfl,rfl,-⟩ z A D;refine go ?_;intro G;refine cG [1] Anl ?_;rintro r _ _ _ ⟨rfl,rfl⟩;exact gc
def Afl {s s1 h0 o0 o1 g g1}:CJS prog 245 2 h0 [o0,o1] (Ml s s1) [.L 6 Gi s,.F 181 [.p o0 g]] [Ab g 1 [[.F 73 [.p o1 g1]]],Ab g1 6 [B9 s1]] .I:=by
 refine cgj 0 func245 (Ml.eq_1 ..) ?_;rintro ids ⟨rfl,rfl,-⟩ z A D;refine go ?_;intro _;refine Ph [0,1,7] 8 (λ_=>[]) (λ_=>[Ab g 1 [[.F 73 [.q ids 1 g1]]],Ab g1 6 [B9 s1]]) ?_ ?_
 .intro j a _ G _ W _;refine Ae (Vq.eq_1 ..)<|go ?_;refine cG [0,1] Aki ?_;rintro r _ _ _ ⟨rfl,rfl⟩;exact gc
 intro _;exact gc
def Ac9 {s s1 h0 o0 o1 g g1}:CJS prog 180 2 h0 [o0,o1] (Ji s s1) [.L 6 Gi s,.F 181 [.p o0 g]] [Ab g 1 [[.F 73 [.p o1 g1]]],Ab g1 6 [B9 s1]] .B:=by refine cgj 0 func180 (Ji.eq_1 ..) ?_;rintro ids ⟨rfl,rfl,-⟩ z A D;refine go ?_;refine cG [0,1] Afl ?_;rintro r _ _ _ ⟨rfl,rfl⟩;exact gc
def Akk {l s h0 o0 g}:CJS prog 80 1 h0 [o0] (L3 l s) [.L 6 Gi l,.F 73 [.p o0 g]] [Ab g 6 [B9 s]] .B:=by refine cgj 1 func80 (L3.eq_1 ..) ?_;rintro ids ⟨rfl,-⟩ z A D;refine go ?_;intro g1;refine cG [1,0] Ac9 ?_;rintro r _ _ _ ⟨rfl,rfl⟩;exact gc
instance Ahn (t):CP prog 13 [.A (B9 t)] (Ky t) (.I):=by
 refine ci 67 3 func13 (Ky.eq_1 _) λh0 ids A hF=>go ?_;intro g g1 g2 r _ b b1;refine Bo O (λhc=>?_) (λhc=>?_)
 .exact gc
 refine A8<|Ai<|Ah<|Zm 2 [0] O<|E7 t.Modes<|Ov 2 O<|G9 6 34 40 [1,7,8] .bool O ?_ (λV _ W=>?_) (λV _ W=>?_)
 .intro b2;refine Ov 1 O<|Oc 5 41 46 [1,7,8] (.B (b2||(decide ((t.Ways.length:Int)>64)))) O ?_ (λD _ G=>?_) (λD _ G=>?_)
  .refine Ov 1 O<|G9 6 47 53 [1,8] .bool O ?_ (λX _ Y=>?_) (λX _ Y=>?_)
   .intro b3;refine Ov 1 O<|Oc 5 54 59 [1,8] (.B (b3||(decide ((t.Kinds.length:Int)>8)))) O ?_ (λz _ S=>?_) (λz _ S=>?_)
    .refine Ov 1 O<|G9 6 60 66 [] .bool O ?_ (λU _ Z=>?_) (λU _ Z=>?_)
     .refine go ?_;intro b4;exact gc
     .exact gc
     refine Zm 3 [0] O<|Dj [0] A O O (Akk (by exact A.sub' O O)) O O O (C6 O O) O O (λv _=>Es func13 A) ?_
     rintro r6 _ _ _ ⟨rfl,rfl⟩
     refine Gj [0] A O O O ?_
     refine D6<|gc
    .refine Ov 5 O<|wj S (Ava z)
    refine Zm 2 [0] O<|F5 (.I (t.Kinds.length:Int)) O O O (D4 (Jy te))<|Ov 2 O<|wj S (Av1 z)
   .exact gc
   refine Zm 3 [0] O<|Dj [2,0,1] A O O (Alo (by exact A.sub' O O)) O O O (C6 O O) O O (λv _=>Es func13 A) ?_
   rintro r5 _ _ _ ⟨rfl,rfl⟩
   refine Gj [2,0,1] A O O O ?_
   refine D6<|gc
  .refine Ov 5 O<|wj G (Ava D)
  refine Zm 2 [0] O<|F5 (.I (t.Ways.length:Int)) O O O (D4 (Jy te))<|Ov 2 O<|wj G (Av1 D)
 .exact gc
 exact gc
instance Arv (a):CP prog 6 [.A (Aj a)] (N6 a) (λp=>AV.tup [.A (B9 p.1),.I p.2]):=by
 refine ci 59 3 func6 (N6.eq_1 _) λh0 ids z hF=>go ?_;intro g g1 r _ _;refine Ph [1,2,13,14] 15 (λ_=>[]) (λ_=>[Ab g 8 [Aj a],Ab g1 6 [[.I 0,.emp,.emp,.emp,.emp,.emp]],none]) ?_ ?_
 .intro j a1 _ A _ W _;refine Ae (Z5.eq_1 ..)<|By ?_;refine Ah<|Ov 1 O<|Ad<|Ai<|Fs (t:=13) (L:=r) O λU=>Co O (AT.2 (A6 A))<|A8<|Ai<|A3<|Ah<|Au _ O (Ay (Ex te te O A))<|Ov 2 O<|Ad<|Ai<|jn (λD=>Fb D) [1,2,13,14,15] (λD=>[(6,.I D)]) (λD=>[Ab g 8 [Aj a],Ab g1 6 [[.I 0,.emp,.emp,.emp,.emp,.emp]],none]) ?_ λ_=>?_
  .intro D;refine Ae (Fb.eq_1 _)<|go ?_;refine Bo O (λX=>?_) (λX=>?_)
   .refine go ?_;exact Vi func6 z (Aw (Ar z O O O te O) (Ht A0)) (.tupL (.cons (.aggL (.s (.cons (.emp _) (.cons (.emp _) (.cons (.emp _) (.cons (.emp _) (.cons (.emp _) .nil))))))) .s1))
   exact gc
  refine go ?_;refine Sn (λhf=>?_) (λ_=>?_)
  .refine Arm (t:=19) hf O<|gc
  refine Sn (λhf=>?_) (λ_=>?_)
  .refine Arm (t:=19) hf O<|gc
  refine Sn (λhf=>?_) (λ_=>?_)
  .refine Arm (t:=19) hf O<|gc
  refine Sn (λhf=>?_) (λ_=>?_)
  .refine Arm (t:=19) hf O<|gc
  refine Sn (λhf=>?_) (λ_=>?_)
  .refine Arm (t:=19) hf O<|gc
  refine Sn (λhf=>?_) (λ_=>?_)
  .refine Arm (t:=19) hf O<|gc
  exact A0o
 intro _;refine Ae (Awj _ _ _)<|By ?_;refine Ah<|Ov 1 O<|Ad<|Ai<|Eb O (CF _)<|Di O<|Ah<|Ov 1 O<|Ad<|Ah<|Ov 1 O<|Ad<|Ah<|Ov 2 O<|Ad<|Ai<|A4 ?_;refine D9 2 te λG=>Gk (.F 23 []) ?_;refine Ad<|Bv ?_;refine Ah<|Ov 2 O<|Ad<|Ah<|Ov 2 O<|Ad<|Ai<|Ajf [0,1,2,3,4,5,7,8,9,11,12,13,15,16,17,19,20,21,6,10,14,18,22,23,24] ?_;refine Au7 2 [0] O<|Az (.I (a.Volumes.length:Int)) O O (D4 (Jy te))<|Au7 15 [0,0,0,0,0] O<|Ll ((Agf a.Sectors) _) (hpd:=(Ag O B0 (Ag O (A7 (Ar z O O O te O)) (Ag O (Jk (O1 0 6 6 te O te O)) (Ag O B0 (Ag O (A7 (Ar z O O O te O)) (Ag O (Jk (O1 0 5 5 te O te O)) (Ag O B0 (Ag O (A7 (Ar z O O O te O)) (Ag O (Jk (O1 0 4 4 te O te O)) (Ag O B0 (Ag O (A7 (Ar z O O O te O)) (Ag O (Jk (O1 0 2 2 te O te O)) (Q7 O (Mc O (Ag O (D4 (Jy te)) (Ag O (A7 (Ar z O O O te O)) (Ag O (Jk (O1 0 0 0 te O te O)) Ef)))))))))))))))))) λr1 _=>?_;refine Ll ((Ag9 a.Configs) _) (hpd:=(Ag O B0 (Ag O (A7 (Ar z O O O te O)) (Ag O (Jk (O1 0 6 6 te O te O)) (Ag O B0 (Ag O (A7 (Ar z O O O te O)) (Ag O (Jk (O1 0 5 5 te O te O)) (Ag O B0 (Ag O (A7 (Ar z O O O te O)) (Ag O (Jk (O1 0 4 4 te O te O)) (Aej O (Q7 O (Ag O (D4 (Jy te)) (Ag O (A7 (Ar z O O O te O)) (Ag O (Jk (O1 0 0 0 te O te O)) Ef))))))))))))))) λr2 _=>?_;refine R3 [0] z O O (Akd (by exact z.sub' O O)) O O O O O O O (λv _ _ _=>Es func6 z) ?_;rintro Y _ _ _ ⟨rfl,rfl⟩;refine Vg [0] [Ab g 8 [Aj a],Ab g1 6 [[.I 0,.emp,.emp,.emp,.emp,.emp]],Ab G 1 [[.F 23 []]]] z O O O O ⟨Ag O B0 (Ag O (A7 (Ar z O O O te O)) (Ag O (Jk (O1 0 6 6 te O te O)) (Ag O B0 (Ag O (A7 (Ar z O O O te O)) (Ag O (Jk (O1 0 5 5 te O te O)) (Zc O (Mc O (Ag O (D4 (Jy te)) (Ag O (A7 (Ar z O O O te O)) (Ag O (Jk (O1 0 0 0 te O te O)) Ef)))))))))),?_⟩;refine W6<|R3 [2] z O O (Ao4 (by exact z.sub' O O)) O O O O O O O (λv _ _ _=>Es func6 z) ?_;rintro r4 _ _ _ ⟨rfl,rfl⟩;refine Vg [2] [Ab g 8 [Aj a],Ab g1 6 [[.I 0,.emp,.emp,.emp,.emp,.emp]],Ab G 1 [[.F 23 []]]] z O O O O ⟨Ag O B0 (Ag O (A7 (Ar z O O O te O)) (Ag O (Jk (O1 0 6 6 te O te O)) (Zc O (Aej O (Ag O (D4 (Jy te)) (Ag O (A7 (Ar z O O O te O)) (Ag O (Jk (O1 0 0 0 te O te O)) Ef))))))),?_⟩;refine W6<|R3 [0] z O O (Ajd (by exact z.sub' O O)) O O O O O O O (λv _ _ _=>Es func6 z) ?_;rintro Z _ _ _ ⟨rfl,rfl⟩;refine Vg [0] [Ab g 8 [Aj a],Ab g1 6 [[.I 0,.emp,.emp,.emp,.emp,.emp]],Ab G 1 [[.F 23 []]]] z O O O O ⟨Zc O (Aej O (Q7 O (Mc O (Ag O (D4 (Jy te)) (Ag O (A7 (Ar z O O O te O)) (Ag O (Jk (O1 0 0 0 te O te O)) Ef)))))),?_⟩;refine W6<|Avn 1 O<|Cv O (λ_ _=>O) (λK V=>Bi (Iz (v:=(.A [.I (a.Volumes.length:Int),.L 5 Br r1,.L 3 Bz r2,.L 3 Ks Y,.L 1 (rL 1 rJ) r4,.L 6 Gi Z])) z O O O O te O O O O O) (V _ _ Bh ?_));clear V K;refine Fp<|Bv ?_;refine Ai<|Ah<|Zm 1 [1] O<|oc (λhb=>FO (.cons (.aggL (.s (.s (.s (.s .s2))))) .nil) ((Ahn _) _ hb)) λr6 _=>go ?_;refine Bo O (λS=>?_) (λS=>?_)
 .refine go ?_;exact Vi func6 z (Aw (Ar z O O O te O) (Ht A0)) (.tupL (.cons (.aggL (.s (.cons (.emp _) (.cons (.emp _) (.cons (.emp _) (.cons (.emp _) (.cons (.emp _) .nil))))))) .s1))
 refine go ?_;exact Vi func6 z (Aw (Ar z O O O te O) (Ht A0)) (.tupL (.cons (.aggL (.s (.s (.s (.s .s2))))) .s1))
instance A8g (src):CP prog 10 [.str src] (Ii src) (λp=>AV.tup [.A (B9 p.1),.I p.2.1,.I p.2.2]):=by
 refine ci 33 2 func10 (Ii.eq_1 _) λh0 ids hI hF=>go ?_;intro g r _ g1;refine Bo O (λhc=>?_) (λhc=>?_)
 .refine go ?_;exact Vi func10 hI (Aw (Ar hI O O O te O) (Ht (Ht A0))) (.tupL (.cons (.aggL (.s (.cons (.emp _) (.cons (.emp _) (.cons (.emp _) (.cons (.emp _) (.cons (.emp _) .nil))))))) .s2))
 refine go ?_;intro r1 _;refine Bo O (λhc1=>?_) (λhc1=>?_)
 .refine go ?_;exact Vi func10 hI (Aw (Ar hI O O O te O) (Ht (Ht A0))) (.tupL (.cons (.aggL (.s (.cons (.emp _) (.cons (.emp _) (.cons (.emp _) (.cons (.emp _) (.cons (.emp _) .nil))))))) .s2))
 refine go ?_;intro r2 _;exact Vi func10 hI (Aw (Ar hI O O O te O) (Ht (Ht A0))) (.tupL (.s .s2))
instance Aru (a config volume):CP prog 44 [.A (Aj a),.I config,.I volume] (Aek a config volume) (λp=>AV.tup [.I p.1,.B p.2]):=by
 refine ci 51 1 func44 (Aek.eq_1 ..) λh0 ids S U=>go ?_;intro g;refine Bo O (λA=>?_) (λA=>?_)
 .refine go ?_;exact rz
 refine go ?_;intro a1 hz D _;refine Ph [2,3,24,25] 26 (λ_=>[]) (λ_=>[Ab g 8 [Aj a]]) ?_ ?_
 .intro j a2 _ G _ W _;refine Ae (Ahl.eq_1 ..)<|go ?_;intro b;refine Bo O (λz=>?_) (λz=>?_)
  .refine go ?_;exact rz
  exact gc
 intro _;refine go ?_;exact rz
instance Aq0 (t config volume):CP prog 11 [.A (B9 t),.I config,.I volume] (Xh t config volume) (λp=>AV.tup [.I p.1,.B p.2]):=by refine ci 18 1 func11 (Xh.eq_1 ..) λh0 ids A D=>go ?_;intro g;refine oc (λz=>FO (.cons (.aggL (.cons (.emp _) (.s (.s (.cons (.emp _) (.cons (.emp _) (.cons (.emp _) (.cons (.emp _) (.cons (.emp _) .nil))))))))) .s2) ((Aru _ config volume) _ z)) λr _=>go ?_;exact rz
instance A8f (n):CP prog 147 [.I n] (Aa3 n) (λx=>(AV.agg (As x))):=by refine ci 5 1 func147 (Aa3.eq_1 _) λh0 ids z A=>go ?_;intro g;exact rc
def Al5 {a b h0 o0 g}:CJS prog 223 1 h0 [o0] (Qw a b) [.I a,.I b,.p o0 g] [Ab g 1 [[.F 147 []]]] (λz=>(.A (As z))):=by refine cgj 1 func223 (Qw.eq_1 ..) ?_;rintro ids ⟨rfl,-⟩ A D G;refine go ?_;intro g1 r _;exact gz
def Akc {l h0 o0 g}:CJS prog 222 1 h0 [o0] (O3 l) [.K l,.F 223 [.p o0 g]] [Ab g 1 [[.F 147 []]]] (.L 4 rValueA):=by
 refine cgj 1 func222 (O3.eq_1 _) ?_;rintro ids ⟨rfl,-⟩ G V X;refine go ?_;intro _;refine Kl (g0:=0) [1,7,8] 9 1 (λy=>y) (λy v1=>[(4,v1)]) (λy v1 g1=>[Ab g 1 [[.F 147 []]],Ccu v1 g1 4 rValueA y]) .nil ?_ ?_
 .intro j a y v1 g1 z _ A W Y;refine Ae (We.eq_1 ..)<|By ?_;refine Ah<|Ov 1 O<|Ad<|Ai<|Fs (t:=7) (L:=l) O λD=>Co O (AT.2 (A6 z))<|A8<|Ai<|A3<|Ah<|Ov 1 O<|Au _ O (Ay (Ex te te O z))<|Ov 3 O<|Ad<|A4<|Ov 4 O<|cG [0] Al5 ?_;rintro r _ _ _ ⟨rfl,rfl⟩;refine F1 ?_;refine Ch (e:=rValueA) (L:=[r]) O te te O O O O O (.cons (C1 (AB _)) .nil) (λx=>Cg x) O O<|Cf λS=>Ce (j:=1) G O O O O A O (B7 O) te te O te O O O S λv2 Z U=>gc
 intro y v1 g1 A;refine go ?_;exact go1 (λx=>Cg x)
instance Yb (l):CP prog 146 [.K l,.F 147 []] (Lc l) (λx=>(AV.agg (As x))):=by refine ci 9 2 func146 (Lc.eq_1 _) λh0 ids z A=>go ?_;intro g g1;refine cG [0] Akc ?_;rintro r _ _ _ ⟨rfl,rfl⟩;refine go ?_;exact rc
instance A8j (l):CP prog 47 [.L 1 Aec l] (Aa8 l) (λx=>(AV.agg (As x))):=by
 refine ci 59 6 func47 (Aa8.eq_1 _) λh0 ids z hF=>go ?_;intro g g1 _;refine Kl (g0:=0) [2,3,11,12] 13 2 (λl1=>l1) (λl1 v=>[]) (λl1 v X=>[Ab g 4 [[.I 0,.I 0,.str [],.emp]],Ab g1 4 [[.I 3,.I 0,.str [],v]],Ccu v X 4 rValueA l1,none,none,none]) .nil ?_ ?_
 .intro j a l1 v X ha _ G W hW;refine Ae (Ad7.eq_1 ..)<|go ?_;refine Afu (λn Y=>?_) (λY=>?_)
  .refine Au _ O (Pb (Bax Y))<|Ov 2 O<|Ad<|Gv true O<|Ah<|Ov 1 O<|Ad<|A4<|Zm 4 [1] O<|Ch (e:=rValueA) (L:=[({Kind:=1,N:=n,S:=[],L:=[]}:Value)]) O te te O O O O O (.cons (C1 (.s (.s (.s (.cons (.emp _) .nil))))) .nil) (λx=>Cg x) O O<|Cf λhl=>Ce (j:=2) z O O O O G O (B7 O) te te O te O O O hl λv1 g3 Z=>Ov 1 O<|Cw (De Z z O O O O te O O O)<|gc
  refine Au _ O (Pb (A9c Y))<|go ?_;refine Afu (λn1 A=>?_) (λA=>?_)
  .refine Au _ O (Pb (A1s A))<|Ov 2 O<|Ad<|Gv true O<|Ah<|Ov 1 O<|Ad<|Ajf [0,1,2,3,4,5,6,7] ?_;refine Au7 3 [1] O<|Ll ((Yb n1) _) (hpd:=(A9 [1])) λr _=>?_;refine Cz O O (λ_ _=>O) (λK U=>Dd (e:=rValueA) (L:=[r]) (st:=4) (rows:=[[.I r.Kind,.I r.N,.str r.S,.L 4 rValueA r.L]]) te te O O O O O (.cons (C1 (AB _)) .nil) (λx=>Cg x) O O (U _ _ (A9 [1]) ?_));clear U K;refine Da λad=>Avk 2 O O O (λ_ _=>Bh) λv2 g4 aa=>Avn 1 O<|Cv O (λ_ _=>O) (λK U=>Bi (De aa z O O O O te O O O) (U _ _ Bh ?_));clear U K;exact gc
  refine Au _ O (Pb (A2r A))<|go ?_;refine Afu (λn2 V=>?_) (λV=>?_)
  .exact A0o
  refine Au _ O (Pb (A3b V))<|go ?_;refine Afu (λn3 D=>?_) (λD=>?_)
  .refine Au _ O (Pb (Bbe D))<|Ov 2 O<|Ad<|Gv true O<|Ah<|D9 4 te λg5=>Gk (.A (As n3)) ?_;refine Ad<|Bv ?_;refine A4<|Zm 3 [1,4] O<|Ch (e:=rValueA) (L:=[n3]) O te te O O O O O (.cons (C1 (AB _)) .nil) (λx=>Cg x) O O<|Cf λab=>Ce (j:=2) z O O O O G O (B7 O) te te O te O O O ab λv3 g6 ac=>Ov 1 O<|Cw (De ac z O O O O te O O O)<|go ?_;refine Ck 16<|Hx hW
  refine Au _ O (Pb (A8t D))<|gc
 intro l1 v X G;refine go ?_;refine Cw (Iz z O O O O te O O O O (Bc O (Bc O (Bc O (Bc (EA G) Rm)))))<|go ?_;exact rt (hr:=by exact(Aw (Ar z O O O te O) A0)) (hz:=by exact .aggL (.s (.s (.s (.cons (Ca G (z.at O O) (z.out O) (λx=>Cg x)) .nil)))))
instance A8c (s):CP prog 149 [.A (Ax s)] (Abd s) (λx=>(AV.agg (As x))):=by refine ci 11 2 func149 (Abd.eq_1 _) λh0 ids z A=>go ?_;intro g g1;refine Be3 Aca [AnyT.a3 s.From,AnyT.a3 s.To]<|go ?_;intro r _;exact rc
def Alb {a b h0 o0 g}:CJS prog 225 1 h0 [o0] (Pt a b) [.I a,.A (Ax b),.p o0 g] [Ab g 1 [[.F 149 []]]] (λz=>(.A (As z))):=by refine cgj 2 func225 (Pt.eq_1 ..) ?_;rintro ids ⟨rfl,-⟩ A D G;refine go ?_;intro g1 O r _;exact gz
def Akn {l h0 o0 g}:CJS prog 224 1 h0 [o0] (O7 l) [.L 2 Ax l,.F 225 [.p o0 g]] [Ab g 1 [[.F 149 []]]] (.L 4 rValueA):=by
 refine cgj 2 func224 (O7.eq_1 _) ?_;rintro ids ⟨rfl,-⟩ G X Y;refine go ?_;intro _;refine Kl (g0:=0) [1,7,8] 9 2 (λy=>y) (λy v1=>[(4,v1)]) (λy v1 g1=>[Ab g 1 [[.F 149 []]],none,Ccu v1 g1 4 rValueA y]) .nil ?_ ?_
 .intro j a y v1 g1 z _ A W S;refine Ae (U0.eq_1 ..)<|By ?_;refine Ah<|Ov 1 O<|Ad<|Ai<|Fs (t:=7) (L:=l) O λD=>Co O (AT.2 (A6 z))<|A8<|Ai<|A3<|Ah<|Ov 1 O<|Au _ O (Ay (Ex te te O z))<|Ov 1 O<|D9 1 te λZ=>Ov 1 O<|Gk (.A (Ax a)) ?_;refine Ad<|Bv ?_;refine A4<|Zm 4 [1] O<|cG [0] Alb ?_;rintro r _ _ _ ⟨rfl,rfl⟩;refine F1 ?_;refine Ch (e:=rValueA) (L:=[r]) O te te O O O O O (.cons (C1 (AB _)) .nil) (λx=>Cg x) O O<|Cf λU=>Ce (j:=2) G O O O O A O (B7 O) te te O te O O O U λv2 g3 V=>go ?_;refine Ck 2<|Hx S
 intro y v1 g1 A;refine go ?_;exact go1 (λx=>Cg x)
instance Akb (l):CP prog 148 [.L 2 Ax l,.F 149 []] (Pq l) (λx=>(AV.agg (As x))):=by refine ci 9 2 func148 (Pq.eq_1 _) λh0 ids z A=>go ?_;intro g g1;refine cG [0] Akn ?_;rintro r _ _ _ ⟨rfl,rfl⟩;refine go ?_;exact rc
instance Atb (l):CP prog 47 [.L 1 Aec l] (Io l) (λx=>(AV.agg (As x))):=by
 refine ci 59 7 func47 (Io.eq_1 _) λh0 ids A hF=>go ?_;intro g g1 _;refine Kl (g0:=0) [2,3,11,12] 13 2 (λl1=>l1) (λl1 v=>[]) (λl1 v X=>[Ab g 4 [[.I 0,.I 0,.str [],.emp]],Ab g1 4 [[.I 3,.I 0,.str [],v]],Ccu v X 4 rValueA l1,none,none,none,none]) .nil ?_ ?_
 .intro j a l1 v X ha _ V W hW;refine Ae (Ai6.eq_1 ..)<|go ?_;refine Afu (λn Y=>?_) (λY=>?_)
  .refine Au _ O (Pb (Bax Y))<|Ov 2 O<|Ad<|Gv true O<|Ah<|Ov 1 O<|Ad<|A4<|Zm 4 [1] O<|Ch (e:=rValueA) (L:=[({Kind:=1,N:=n,S:=[],L:=[]}:Value)]) O te te O O O O O (.cons (C1 (.s (.s (.s (.cons (.emp _) .nil))))) .nil) (λx=>Cg x) O O<|Cf λhl=>Ce (j:=2) A O O O O V O (B7 O) te te O te O O O hl λv1 g3 Z=>Ov 1 O<|Cw (De Z A O O O O te O O O)<|gc
  refine Au _ O (Pb (A9c Y))<|go ?_;refine Afu (λn1 D=>?_) (λD=>?_)
  .refine Au _ O (Pb (A1s D))<|Ov 2 O<|Ad<|Gv true O<|Ah<|Ov 1 O<|Ad<|Ajf [0,1,2,3,4,5,6,7] ?_;refine Au7 3 [1] O<|Ll ((Yb n1) _) (hpd:=(A9 [1])) λr _=>?_;refine Cz O O (λ_ _=>O) (λK z=>Dd (e:=rValueA) (L:=[r]) (st:=4) (rows:=[[.I r.Kind,.I r.N,.str r.S,.L 4 rValueA r.L]]) te te O O O O O (.cons (C1 (AB _)) .nil) (λx=>Cg x) O O (z _ _ (A9 [1]) ?_));clear z K;refine Da λae=>Avk 2 O O O (λ_ _=>Bh) λv2 g4 aa=>Avn 1 O<|Cv O (λ_ _=>O) (λK z=>Bi (De aa A O O O O te O O O) (z _ _ Bh ?_));clear z K;exact gc
  refine Au _ O (Pb (A2r D))<|go ?_;refine Afu (λn2 G=>?_) (λG=>?_)
  .refine Au _ O (Pb (Bdr G))<|Ov 2 O<|Ad<|Gv true O<|Ah<|Ov 1 O<|Ad<|Ajf [0,1,2,3,4,5,6,7] ?_;refine Au7 3 [1] O<|Ll ((Akb n2) _) (hpd:=(A9 [1])) λr1 _=>?_;refine Cz O O (λ_ _=>O) (λK z=>Dd (e:=rValueA) (L:=[r1]) (st:=4) (rows:=[[.I r1.Kind,.I r1.N,.str r1.S,.L 4 rValueA r1.L]]) te te O O O O O (.cons (C1 (AB _)) .nil) (λx=>Cg x) O O (z _ _ (A9 [1]) ?_));clear z K;refine Da λaf=>Avk 2 O O O (λ_ _=>Bh) λv3 g5 ab=>Avn 1 O<|Cv O (λ_ _=>O) (λK z=>Bi (De ab A O O O O te O O O) (z _ _ Bh ?_));clear z K;exact gc
  refine Au _ O (Pb (A3b G))<|go ?_;refine Afu (λn3 U=>?_) (λU=>?_)
  .refine Au _ O (Pb (Bbe U))<|Ov 2 O<|Ad<|Gv true O<|Ah<|D9 5 te λg6=>Gk (.A (As n3)) ?_;refine Ad<|Bv ?_;refine A4<|Zm 3 [1,5] O<|Ch (e:=rValueA) (L:=[n3]) O te te O O O O O (.cons (C1 (AB _)) .nil) (λx=>Cg x) O O<|Cf λac=>Ce (j:=2) A O O O O V O (B7 O) te te O te O O O ac λv4 g7 ad=>Ov 1 O<|Cw (De ad A O O O O te O O O)<|go ?_;refine Ck 32<|Hx hW
  refine Au _ O (Pb (A8t U))<|gc
 intro l1 v X V;refine go ?_;refine Cw (Iz A O O O O te O O O O (Bc O (Bc O (Bc O (Bc (EA V) Rm)))))<|go ?_;exact rt (hr:=by exact(Aw (Ar A O O O te O) A0)) (hz:=by exact .aggL (.s (.s (.s (.cons (Ca V (A.at O O) (A.out O) (λx=>Cg x)) .nil)))))
instance A4i (s):CP prog 46 [.A (Br s)] (Yx s) (λx=>(AV.agg (As x))):=by refine ci 14 2 func46 (Yx.eq_1 _) λh0 ids z A=>go ?_;intro g g1;refine Be3 Aca [AnyT.a55 s.Volumes,AnyT.a3 s.Radar,AnyT.a3 s.Procedural]<|go ?_;intro r _;exact rc
def Ab7 {a b h0 o0 g}:CJS prog 145 1 h0 [o0] (Of a b) [.I a,.A (Br b),.p o0 g] [Ab g 1 [[.F 46 []]]] (λz=>(.A (As z))):=by refine cgj 2 func145 (Of.eq_1 ..) ?_;rintro ids ⟨rfl,-⟩ A D G;refine go ?_;intro g1 O r _;exact gz
def Aij {l h0 o0 g}:CJS prog 144 1 h0 [o0] (T9 l) [.L 5 Br l,.F 145 [.p o0 g]] [Ab g 1 [[.F 46 []]]] (.L 4 rValueA):=by
 refine cgj 2 func144 (T9.eq_1 _) ?_;rintro ids ⟨rfl,-⟩ A U V;refine go ?_;intro _;refine Kl (g0:=0) [1,7,8] 9 2 (λy=>y) (λy v1=>[(4,v1)]) (λy v1 g1=>[Ab g 1 [[.F 46 []]],none,Ccu v1 g1 4 rValueA y]) .nil ?_ ?_
 .intro j a y v1 g1 X _ z W D;refine Ae (Xt.eq_1 ..)<|go ?_;intro Y;refine cG [0] Ab7 ?_;rintro r _ _ _ ⟨rfl,rfl⟩;refine F1 ?_;refine Ch (e:=rValueA) (L:=[r]) O te te O O O O O (.cons (C1 (AB _)) .nil) (λx=>Cg x) O O<|Cf λG=>Ce (j:=2) A O O O O z O (B7 O) te te O te O O O G λv2 g3 S=>go ?_;refine Ck 2<|Hx D
 intro y v1 g1 z;refine go ?_;exact go1 (λx=>Cg x)
instance Avt (l):CP prog 45 [.L 5 Br l,.F 46 []] (Qy l) (λx=>(AV.agg (As x))):=by refine ci 9 2 func45 (Qy.eq_1 _) λh0 ids z A=>go ?_;intro g g1;refine cG [0] Aij ?_;rintro r _ _ _ ⟨rfl,rfl⟩;refine go ?_;exact rc
instance Bdg (v):CP prog 50 [.A (As v)] (Wd v) (λx=>(AV.agg (As x))):=by refine ci 7 2 func50 (Wd.eq_1 _) λh0 ids A D=>Ah<|Ip 0 (.A (As v)) λg=>D9 1 te λg1=>Ad<|Bv ?_;refine Ah<|Zm 2 [0] O<|Tp λa hz z=>Au _ O (Ay (A4f S0 te te O hz z))<|go ?_;exact rc
instance A48 (c):CP prog 49 [.A (Bz c)] (Yu c) (λx=>(AV.agg (As x))):=by refine ci 9 2 func49 (Yu.eq_1 _) λh0 ids z A=>go ?_;intro g g1;refine Be3 Aca [AnyT.a55 c.Sectors]<|go ?_;intro r _ r1 _;exact rc
def Aed {a b h0 o0 g}:CJS prog 151 1 h0 [o0] (Ql a b) [.I a,.A (Bz b),.p o0 g] [Ab g 1 [[.F 49 []]]] (λz=>(.A (As z))):=by refine cgj 2 func151 (Ql.eq_1 ..) ?_;rintro ids ⟨rfl,-⟩ A D G;refine go ?_;intro g1 O r _;exact gz
def Al1 {l h0 o0 g}:CJS prog 150 1 h0 [o0] (Rq l) [.L 3 Bz l,.F 151 [.p o0 g]] [Ab g 1 [[.F 49 []]]] (.L 4 rValueA):=by
 refine cgj 2 func150 (Rq.eq_1 _) ?_;rintro ids ⟨rfl,-⟩ A U V;refine go ?_;intro _;refine Kl (g0:=0) [1,7,8] 9 2 (λy=>y) (λy v1=>[(4,v1)]) (λy v1 g1=>[Ab g 1 [[.F 49 []]],none,Ccu v1 g1 4 rValueA y]) .nil ?_ ?_
 .intro j a y v1 g1 X _ z W D;refine Ae (Xr.eq_1 ..)<|go ?_;intro Y;refine cG [0] Aed ?_;rintro r _ _ _ ⟨rfl,rfl⟩;refine F1 ?_;refine Ch (e:=rValueA) (L:=[r]) O te te O O O O O (.cons (C1 (AB _)) .nil) (λx=>Cg x) O O<|Cf λG=>Ce (j:=2) A O O O O z O (B7 O) te te O te O O O G λv2 g3 S=>go ?_;refine Ck 2<|Hx D
 intro y v1 g1 z;refine go ?_;exact go1 (λx=>Cg x)
instance Avf (l):CP prog 48 [.L 3 Bz l,.F 49 []] (Qp l) (λx=>(AV.agg (As x))):=by refine ci 9 2 func48 (Qp.eq_1 _) λh0 ids z A=>go ?_;intro g g1;refine cG [0] Al1 ?_;rintro r _ _ _ ⟨rfl,rfl⟩;refine go ?_;exact rc
instance Azp (a):CP prog 54 [.A (If a)] (U1 a) (λx=>(AV.agg (As x))):=by refine ci 17 2 func54 (U1.eq_1 _) λh0 ids z A=>go ?_;intro g g1;refine Be3 Aca [AnyT.a3 a.Segment,AnyT.a3 a.Volume,AnyT.a3 a.Length,AnyT.a54 a.Minutes]<|go ?_;intro r _;exact rc
def Afs {a b h0 o0 g}:CJS prog 155 1 h0 [o0] (R5 a b) [.I a,.A (If b),.p o0 g] [Ab g 1 [[.F 54 []]]] (λz=>(.A (As z))):=by refine cgj 2 func155 (R5.eq_1 ..) ?_;rintro ids ⟨rfl,-⟩ A D G;refine go ?_;intro g1 O r _;exact gz
def Alg {l h0 o0 g}:CJS prog 154 1 h0 [o0] (Rd l) [.L 4 If l,.F 155 [.p o0 g]] [Ab g 1 [[.F 54 []]]] (.L 4 rValueA):=by
 refine cgj 2 func154 (Rd.eq_1 _) ?_;rintro ids ⟨rfl,-⟩ A U V;refine go ?_;intro _;refine Kl (g0:=0) [1,7,8] 9 2 (λy=>y) (λy v1=>[(4,v1)]) (λy v1 g1=>[Ab g 1 [[.F 54 []]],none,Ccu v1 g1 4 rValueA y]) .nil ?_ ?_
 .intro j a y v1 g1 X _ z W D;refine Ae (Y6.eq_1 ..)<|go ?_;intro Y;refine cG [0] Afs ?_;rintro r _ _ _ ⟨rfl,rfl⟩;refine F1 ?_;refine Ch (e:=rValueA) (L:=[r]) O te te O O O O O (.cons (C1 (AB _)) .nil) (λx=>Cg x) O O<|Cf λG=>Ce (j:=2) A O O O O z O (B7 O) te te O te O O O G λv2 g3 S=>go ?_;refine Ck 2<|Hx D
 intro y v1 g1 z;refine go ?_;exact go1 (λx=>Cg x)
instance Ahw (l):CP prog 53 [.L 4 If l,.F 54 []] (T5 l) (λx=>(AV.agg (As x))):=by refine ci 9 2 func53 (T5.eq_1 _) λh0 ids z A=>go ?_;intro g g1;refine cG [0] Alg ?_;rintro r _ _ _ ⟨rfl,rfl⟩;refine go ?_;exact rc
instance A5c (w):CP prog 52 [.A (Ks w)] (Yq w) (λx=>(AV.agg (As x))):=by refine ci 15 2 func52 (Yq.eq_1 _) λh0 ids A D=>Ah<|Ip 0 (.A (Ks w)) λg=>D9 1 te λg1=>Ad<|Bv ?_;refine Ai<|Ajf [0,1,2,3,4,5,6,7,8,9,10,11,12] ?_;refine Au7 8 [0,0,0] O<|Ll ((Ahw w.Legs) _) (hpd:=(A9 [0,0])) λr _=>?_;refine Avn 1 O<|Arc Aca [AnyT.a3 w.From,AnyT.a3 w.To,AnyT.a106 r] O Bh<|Ll ((Atb [AnyT.a3 w.From,AnyT.a3 w.To,AnyT.a106 r]) _) λr1 _=>?_;refine Cv O (λ_ _=>O) (λK z=>Bi (Iz (v:=(.A (As r1))) A O O O O te O O O O O) (z _ _ Bh ?_));clear z K;refine go ?_;exact rc
def Ahv {a b h0 o0 g}:CJS prog 153 1 h0 [o0] (Ts a b) [.I a,.A (Ks b),.p o0 g] [Ab g 1 [[.F 52 []]]] (λz=>(.A (As z))):=by refine cgj 2 func153 (Ts.eq_1 ..) ?_;rintro ids ⟨rfl,-⟩ A D G;refine go ?_;intro g1 O r _;exact gz
def Al7 {l h0 o0 g}:CJS prog 152 1 h0 [o0] (Q3 l) [.L 3 Ks l,.F 153 [.p o0 g]] [Ab g 1 [[.F 52 []]]] (.L 4 rValueA):=by
 refine cgj 2 func152 (Q3.eq_1 _) ?_;rintro ids ⟨rfl,-⟩ A U V;refine go ?_;intro _;refine Kl (g0:=0) [1,7,8] 9 2 (λy=>y) (λy v1=>[(4,v1)]) (λy v1 g1=>[Ab g 1 [[.F 52 []]],none,Ccu v1 g1 4 rValueA y]) .nil ?_ ?_
 .intro j a y v1 g1 X _ z W D;refine Ae (Yf.eq_1 ..)<|go ?_;intro Y;refine cG [0] Ahv ?_;rintro r _ _ _ ⟨rfl,rfl⟩;refine F1 ?_;refine Ch (e:=rValueA) (L:=[r]) O te te O O O O O (.cons (C1 (AB _)) .nil) (λx=>Cg x) O O<|Cf λG=>Ce (j:=2) A O O O O z O (B7 O) te te O te O O O G λv2 g3 S=>go ?_;refine Ck 2<|Hx D
 intro y v1 g1 z;refine go ?_;exact go1 (λx=>Cg x)
instance Ayj (l):CP prog 51 [.L 3 Ks l,.F 52 []] (Tu l) (λx=>(AV.agg (As x))):=by refine ci 9 2 func51 (Tu.eq_1 _) λh0 ids z A=>go ?_;intro g g1;refine cG [0] Al7 ?_;rintro r _ _ _ ⟨rfl,rfl⟩;refine go ?_;exact rc
instance A5i (l):CP prog 56 [.K l] (Yr l) (λx=>(AV.agg (As x))):=by refine ci 8 1 func56 (Yr.eq_1 _) λh0 ids z A=>go ?_;intro g;refine Be3 Aca [AnyT.a55 l]<|go ?_;intro r _ r1 _;exact rc
def Ahx {a b h0 o0 g}:CJS prog 157 1 h0 [o0] (Tz a b) [.I a,.K b,.p o0 g] [Ab g 1 [[.F 56 []]]] (λz=>(.A (As z))):=by refine cgj 1 func157 (Tz.eq_1 ..) ?_;rintro ids ⟨rfl,-⟩ A D G;refine go ?_;intro g1 r _;exact gz
end Go.Am
