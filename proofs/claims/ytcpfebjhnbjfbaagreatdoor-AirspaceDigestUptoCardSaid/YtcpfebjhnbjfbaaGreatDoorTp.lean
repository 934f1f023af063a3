/- Written by shrink.py from texts of ours: comments struck, what is not reached left out, names short. -/
import Derived.Test.YtcpfebjhnbjfbaaGreatDoorTi
import Derived.Test.YtcpfebjhnbjfbaaGreatDoorTk
set_option linter.unusedSimpArgs false
set_option linter.unusedVariables false
set_option linter.unusedSectionVars false
set_option linter.defProp false
set_option maxHeartbeats 4000000
set_option maxRecDepth 100000
open Go.Proofs.Tryz
namespace Go.Am
open Go
variable{P:Program}{n:Nat}{k:List Item}{plan:D5}{id:Nat}{fr:Nat→AV}{ds:List AD}{h:Aa}{u:AU}
section
variable[GW P]{f:Nat}{d:FK}{ops:Array Oper}{pre:List (List Nat)}{Q:QT}
theorem B59{l:List Oper}(z:P.follows .mixedOrders=true)(T:DT)(D:T.ok l []=true)(O:∀(K:KT) (U:AV→KT),(∀fr ds h u,E8 P f n d k fr ds h u Q→K fr ds h u)→(∀v fr ds h u,Xl P f n d (.pan v false) fr ds h u Q→U v fr ds h u)→T.each λpre plan=>Lk P n d l pre K U plan [] fr ds h u): E8 P f n d (.code (.region id ⟨l⟩ true)::k) fr ds h u Q:=A9x z λA=>T.pick A [] D (λ_ _ z=>absurd z BU) (O _ _ (λ_ _ _ _ h=>h) (λ_ _ _ _ _ h=>h))
end
variable{f:FuncId}
section
variable[GW P]{d:FK}{Q:QT}
theorem B6o{l:List Oper}(z:P.follows .mixedOrders=true)(T:DT)(A:T.ok l []=true)(D:∀(K:KT) (U:AV→KT),Going P f n d k Q K U→T.each λpre plan=>Lk P n d l pre K U plan [] fr ds h u): E8 P f n d (.code (.region id ⟨l⟩ true)::k) fr ds h u Q:=B59 z T A λK U O R=>D K U ⟨O,R⟩
end
instance {α:Type} {P:Program} [GW P] {g:FuncId} {args:List AV} {m:R α} {e:α→AV}:CoeFun (CP P g args m e) (λ_=>∀h,m≠.bad→Bs P g args h (Yd e h m)):=⟨λx=>x.c⟩
variable{β:Type}{Q:Spec β}{l:List (Nat×AV)}
section
variable[GW P]{d:FK}{all r:List Oper}{ty:TypeId}{pos:String}{after:Array Edge}
theorem B7w{m:R β}{todo:List Item}{v:AV}{o g t i:Nat}(z:fr t=v)(A:Av v o g i)(hk:i≤Bj→WR P f n d Q m todo fr ds h u):WR P f n d Q m todo fr ds h u:=λD=>
 A0k t λhw=>hk (by
  rw[z]at hw;rcases A with⟨_,rfl⟩|rfl
  ·exact CA _
  ·exact hw.ref) D
end
variable{p:List (List Nat)→D5→Prop}
section
variable[GW P]{d:FK}{γ:Type}{m:R β}{F:γ→R β}
theorem B3v{ops:List Oper}(z:P.follows .mixedOrders=true)(T:DT)(A:T.ok ops []=true)(D:T.each λpre plan=>WP P f n d Q k ops pre m plan [] fr ds h u): WR P f n d Q m (.code (.region id ⟨ops⟩ true)::k) fr ds h u:=λO=>B6o z T A λK U R=>T.mono (λpre plan hw=>hw O K U R) D
theorem B0u{pre:List (List Nat)}(h:p pre plan):DT.each p (.leaf pre plan):=h
theorem B4s{i j:Nat}{A B:DT}(h1:A.each p)(h2:B.each p):DT.each p (.node i j A B):=⟨h1,h2⟩
end
noncomputable section
def B0r (z:Nat)(a1:Leg):R (Unit ⊕ Bool):=if((decide ((z:Int)≥10))||(decide ((a1.Minutes.length:Int)>10)))then
(.ok (.inr (false)))
else
(.ok (.inl ()))
def Bz5 (a:Way):R (Unit ⊕ Bool):=(each (λz a1=>λ_=>B0r z a1) 0 a.Legs ()).bind (alt (λ_=>.ok (.inl ())) (λr=>.ok (.inr (r))))
def Bz1 (z:Nat)(a3:List Span):R (Unit ⊕ Bool):=if((decide ((z:Int)≥10))||(decide ((a3.length:Int)>10)))then
(.ok (.inr (false)))
else
(.ok (.inl ()))
def Bz7 (a2:Kind):R (Unit ⊕ Bool):=(each (λz a3=>λ_=>Bz1 z a3) 0 a2.Curfews ()).bind (alt (λ_=>.ok (.inl ())) (λr=>.ok (.inr (r))))
def Bmy (z:List Int):R (Unit ⊕ Bool):=if(z.length:Int)>20 then
(.ok (.inr (false)))
else
(.ok (.inl ()))
def Bli (t:Tables):R Bool:=(each (λ_ a=>λ_=>Bz5 a) 0 t.Ways ()).bind (alt (λ_=>(each (λ_ a2=>λ_=>Bz7 a2) 0 t.Kinds ()).bind (alt (λ_=>(each (λ_ z=>λ_=>Bmy z) 0 t.Modes ()).bind (alt (λ_=>(if(decide (t.Volumes≤6))then(Af5 ({Volumes:=[],Sectors:=t.Sectors,Configs:=t.Configs,Segments:=[],Routes:=[],Airports:=[],Classes:=[],Rules:=[]}:Airspace)).bind λr=>R.ok r else R.ok false).bind (λ(b:Bool)=>.ok (((b&&(decide ((t.Ways.length:Int)≤8)))&&(decide ((t.Modes.length:Int)≤6)))&&(decide ((t.Kinds.length:Int)≤6))))) (λr=>.ok r))) (λr=>.ok r))) (λr=>.ok r))
def We (l1:List Sector):R (List Sector):=.ok l1
def Ov (name:Al)(j:Nat)(l:List Sector):R (List Sector):=(idx l (j:Int)).bind λa1=>(idx (l.set (Int.toNat (j:Int)) {a1 with Name:=name}) (j:Int)).bind λa2=>We ((l.set (Int.toNat (j:Int)) {a1 with Name:=name}).set (Int.toNat (j:Int)) {a2 with Names:=[name]})
def Xd (z:List Config):R (List Config):=.ok z
def I9 (name:Al)(z:Nat)(A:List Config):R (List Config):=(idx A (z:Int)).bind λD=>(idx (A.set (Int.toNat (z:Int)) {D with Name:=name}) (z:Int)).bind λO=>Xd ((A.set (Int.toNat (z:Int)) {D with Name:=name}).set (Int.toNat (z:Int)) {O with Names:=[name]})
def Agr (t:Tables)(name:Al):R Bool:=(Acu).bind λr=>if r then
((Bli t).bind λr1=>if r1 then
((Xo t).bind λr2=>
 (Ky t).bind λA=>
 if(r2.2!=A)then
(.ok false)
else
(if t.Sectors.length*80≤Bj then if t.Configs.length*64≤Bj then (eachS (λj _=>λl=>Ov name j l) 0 t.Sectors t.Sectors).bind ((λl=>(eachS (λD _=>λz=>I9 name D z) 0 t.Configs t.Configs).bind ((λz=>(Xo ({Volumes:=t.Volumes,Sectors:=l,Configs:=z,Ways:=t.Ways,Modes:=t.Modes,Kinds:=t.Kinds}:Tables)).bind λr4=>.ok (((r4.1==r2.1)&&(r2.2==r4.2))&&((r2.2==0)||(r2.1==(#v[0,0,0,0,0,0,0,0,0,0,0,0,0,0,0,0,0,0,0,0,0,0,0,0,0,0,0,0,0,0,0,0]:(Vector Int 32)))))))))else .bad else .bad))
else
(.ok true))
else
(.ok false)
end
end Go.Am
namespace Go.Am
open Go Go.Proofs Go.Proofs.Tryz
attribute [local irreducible] WR WO WP WU Nu
instance B3t (t):CP prog 24 [.A (B9 t)] (Bli t) AV.bool:=by
 refine ci 118 1 func24 (Bli.eq_1 _) λh0 ids Z hF=>go ?_;intro g;refine Ph [1] 3 (λ_=>[]) (λ_=>[Ab g 6 [B9 t]]) ?_ ?_
 ·rintro j a _ ha _ W _;refine Ae (Bz5.eq_1 _)<|go ?_;intro z;refine Ph [1,3] 4 (λ_=>[]) (λ_=>[Ab g 6 [B9 t]]) ?_ ?_
  ·rintro j1 a1 _ S _ W _;refine Ae (B0r.eq_1 _ _)<|gc
  rintro _;exact gc
 rintro _;refine go ?_;intro _;refine Ph [1] 5 (λ_=>[]) (λ_=>[Ab g 6 [B9 t]]) ?_ ?_
 ·rintro j2 a2 _ U _ W _;refine Ae (Bz7.eq_1 _)<|go ?_;intro A;refine Ph [1,5] 6 (λ_=>[]) (λ_=>[Ab g 6 [B9 t]]) ?_ ?_
  ·rintro j3 a3 _ V _ W _;refine Ae (Bz1.eq_1 _ _)<|gc
  rintro _;exact gc
 rintro _;refine go ?_;intro _;refine Ph [1] 7 (λ_=>[]) (λ_=>[Ab g 6 [B9 t]]) ?_ ?_
 ·rintro j4 a4 _ X _ W _;refine Ae (Bmy.eq_1 _)<|gc
 rintro _;refine Ae (Awj _ _ _)<|By ?_;refine Ai<|Ah<|Ao 3 [0] [(77,.L 1 (rL 1 rJ) t.Modes),(75,.I (t.Modes.length:Int))]<|E7 t.Modes<|Bl (.B (decide ((t.Modes.length:Int)<(t.Modes.length:Int))))<|Ad<|Eb O (BH _)<|Di O<|Ah<|Ao 4 [0] [(92,.B (decide (t.Volumes≤6)))]<|G9 7 92 99 [1] .bool O ?_ (λD _ R=>?_) (λD _ R=>?_)
 ·intro b;refine Bp (.B b)<|gc
 ·refine Ao 5 [0,0] [(97,.A [.emp,.L 5 Br t.Sectors,.L 3 Bz t.Configs,.emp,.emp,.emp,.emp,.emp])]<|oc (λY=>FL (.cons (.aggL (.cons (.emp _) (.s (.s (.cons (.emp _) (.cons (.emp _) (.cons (.emp _) (.cons (.emp _) (.cons (.emp _) .nil))))))))) .nil) ((Bk3 ({Volumes:=[],Sectors:=t.Sectors,Configs:=t.Configs,Segments:=[],Routes:=[],Airports:=[],Classes:=[],Rules:=[]}:Airspace)) _ Y)) λr _=>gc
 exact gc
instance Bo8 (t name):CP prog 7 [.A (B9 t),.str name] (Agr t name) AV.bool:=by
 refine ci 99 6 func7 (Agr.eq_1 _ _) λh0 ids z hF=>Ah<|Ip 0 (.A (B9 t)) λg=>Cm (.B false)<|Ad<|Bv ?_;refine Ai<|Ah<|oc ((Bi7) _) λr _=>Bl (.B (!r))<|Ad<|N8 O (λhc=>?_) (λhc=>?_)
 ·refine A8<|Ai<|Ah<|Ao 1 [0] [(14,.A (B9 t))]<|oc ((B3t t) _) λr1 _=>Bl (.B (!r1))<|Ad<|N8 O (λbb=>?_) (λbb=>?_)
  ·refine A8<|Ah<|Ao 1 [0] [(18,.A (B9 t))]<|oc ((Af1 t) _) λr2 _=>Ao 3 [] [(21,.I r2.2),(20,.A (rU r2.1))]<|O0 (j:=1) (row:=(rU (G3 32 0))) z O O O O Bwb.eq (Wm (n:=32) (e:=(rI .u8)) (E:=(AV.int .u8)) (λ_=>O) _).symm ((Oz (λx=>Dw x) O) _) λg1=>Cw (Hm (v:=(.A (rU r2.1))) z O O O Bwb.eq O O O (((Oz (λx=>Dw x) O) _).1) O)<|Cm (.I r2.2)<|Ad<|Bv ?_;refine Ai<|Ah<|Ao 2 [0] [(23,.A (B9 t)),(22,.I r2.2)]<|oc ((Ahn t) _) λr3 _=>Bl (.B (r2.2!=r3))<|Ad<|Bo O (λbc=>?_) (λbc=>?_)
   ·refine Ah<|Cm (.B false)<|Ad<|rt
   refine A8<|Ah<|Ao 1 [0] [(26,.A (B9 t))]<|D9 2 Az3.eq λV=>Gk (.A (B9 t)) ?_;refine Ad<|Bv ?_;refine Ah<|Aj7 O Tt.eq Bxl.eq<|Ao 2 [0] [(29,.L 5 Br t.Sectors)]<|Cf λhl=>Ce (e:=Br) (L:=([]:List Sector)) (L2:=t.Sectors) (v:=.emp) (g:=0) (st:=5) (j:=3) z O O O O .nil O (B7 O) Tt.eq Tt.eq O Bxl.eq O O O (by simpa using hl) λv g3 vH=>Bl (.ptr (ix ids 2) V 0 1)<|Cw (De vH z O O O O Tt.eq O O O)<|Ad<|Bv ?_;refine Ah<|Aj7 O Xv.eq Bx3.eq<|Ao 2 [0] [(34,.L 3 Bz t.Configs)]<|Cf λbd=>Ce (e:=Bz) (L:=([]:List Config)) (L2:=t.Configs) (v:=.emp) (g:=0) (st:=3) (j:=4) z O O O O .nil O (B7 O) Xv.eq Xv.eq O Bx3.eq O O O (by simpa using bd) λv1 Y ad=>Bl (.ptr (ix ids 2) V 0 2)<|Cw (De ad z O O O O Xv.eq O O O)<|Ad<|Bv ?_;refine Ai<|Ah<|Ao 2 [2] [(38,v)]<|Au (.I (t.Sectors.length:Int)) O (D4 (Av.len vH Tt.eq))<|Bp (.I 0)<|Ad<|A3<|Fs (t:=29) (L:=t.Sectors) O λav=>Ck 1<|Gh [1,5,6,7,39,40] ?_;refine Ld (P:=prog) t.Sectors (λj _=>λl=>Ov name j l) (((λl=>(eachS (λD _=>λX=>I9 name D X) 0 t.Configs t.Configs).bind ((λX=>(Xo ({Volumes:=t.Volumes,Sectors:=l,Configs:=X,Ways:=t.Ways,Modes:=t.Modes,Kinds:=t.Kinds}:Tables)).bind λr4=>.ok (((r4.1==r2.1)&&(r2.2==r4.2))&&((r2.2==0)||(r2.1==(#v[0,0,0,0,0,0,0,0,0,0,0,0,0,0,0,0,0,0,0,0,0,0,0,0,0,0,0,0,0,0,0,0]:(Vector Int 32))))))))):(List Sector)→R Bool) (λj=>λl=>λfr h=>Av v (ix ids 3) g3 l.length∧fr=Ac [(1,.str name),(5,.q ids 1 g1),(6,.I r2.2),(7,.q ids 2 V),(39,.I (t.Sectors.length:Int)),(40,.I j)]∧h=hp h0 ids [none,Ab g1 32 [rU r2.1],Ab V 6 [[.I t.Volumes,v,v1,.L 3 Ks t.Ways,.L 1 (rL 1 rJ) t.Modes,.L 6 Gi t.Kinds]],Ccu v g3 5 Br l,Ccu v1 Y 3 Bz t.Configs,none]) t.Sectors ?_ ?_ ?_
   ·exact⟨vH,O,O⟩
   ·rintro j a ha W hW l fr h ⟨S,rfl,rfl⟩;refine Ae (m':=Ov name j l) O (Ae (Ov.eq_1 _ _ _) ?_);refine Ah<|Bl (.B (decide ((j:Int)<(t.Sectors.length:Int))))<|Ad<|Ai<|Co O (AQ.2 (A6 ha))<|A8<|Ai<|A3<|Ah<|Ao 2 [] [(8,.I j)]<|Ad<|Ra (λl1=>We l1) (λl1=>λfr h=>Av v (ix ids 3) g3 l1.length∧fr=Ac [(1,.str name),(5,.q ids 1 g1),(6,.I r2.2),(7,.q ids 2 V),(39,.I (t.Sectors.length:Int)),(40,.I j)]∧h=hp h0 ids [none,Ab g1 32 [rU r2.1],Ab V 6 [[.I t.Volumes,v,v1,.L 3 Ks t.Ways,.L 1 (rL 1 rJ) t.Modes,.L 6 Gi t.Kinds]],Ccu v g3 5 Br l1,Ccu v1 Y 3 Bz t.Configs,none]) ?_ λhJ=>?_
    ·rintro l1 fr h ⟨be,rfl,rfl⟩;refine Ae (We.eq_1 _)<|Ci<|A4<|Ao 2 [] [(40,.I (wi ((j:Int)+1)))]<|Ad<|D1 (Z4 (hW l1 _ _ ⟨be,O,O⟩)) (.r4 (.r (.o (ic ha av))))
    refine B3v D2 (.node 11 8 (.leaf [[],[0],[],[],[3],[],[],[],[7],[0,1,1,2,2,6],[0,1,2,6,9],[0,1,2,6,7,8,9,10],[0,1,2,3,4,4,5,5,6,7,8,9,10,11],[0,1,2,3,4,5,6,7,8,9,10,11,12],[0,1,2,3,4,5,6,7,8,9,10,11,12,13]] [(false,0),(false,1),(false,2),(false,3),(false,4),(false,5),(false,6),(false,7),(false,9),(false,10),(true,8),(true,11),(false,12),(false,13),(true,14)]) (.leaf [[],[0],[],[],[3],[],[],[],[0,1,2,6,7,9,10,11],[0,1,1,2,2,6],[0,1,2,6,9],[0,1,2,6,9,10],[0,1,2,3,4,4,5,5,6,7,8,9,10,11],[0,1,2,3,4,5,6,7,8,9,10,11,12],[0,1,2,3,4,5,6,7,8,9,10,11,12,13]] [(false,0),(false,1),(false,2),(false,3),(false,4),(false,5),(false,6),(false,7),(false,9),(false,10),(true,11),(true,8),(false,12),(false,13),(true,14)])) (by kernel_rfl)<|B4s ?_ ?_
    ·refine B0u<|Be [2,2] [(43,.ptr (ix ids 2) V 0 1),(44,v),(45,.I j),(46,.ptr (ix ids 2) V 0 1),(47,v),(48,.I j),(49,.str name),(50,.str name)]<|Ap5 λa1 hz ae=>Az (.ptr (ix ids 3) g3 (Int.toNat (j:Int)) 0) O O (Ay (Rb z O S O Tt.eq Bxl.eq O hz ae))<|Be [] [(53,.ptr (ix ids 3) g3 (Int.toNat (j:Int)) 0)]<|Cz O O (λ_ _=>O) (λK A=>Dd (e:=rS) (L:=[name]) (st:=1) (rows:=[[.str name]]) Bkf.eq Hh.eq O O O O O (.cons (AC _) .nil) (λx=>Bkd x) O O (A _ _ (Ag O (Jk (O1 0 0 0 Bxl.eq O Hh.eq O)) (Ag O (Ay (Rb z O S O Tt.eq Bxl.eq O hz ae)) (Mc O (Ag O B2 (Ag O B2 (Ag O (A7 (Ar z O O O Tt.eq O)) (Ag O (Jk (O1 0 1 1 Az3.eq O Tt.eq O)) (Ag O B2 (Ag O (A7 (Ar z O O O Tt.eq O)) (Ag O (Jk (O1 0 1 1 Az3.eq O Tt.eq O)) Ef)))))))))) ?_));clear A K;refine Cv O (λ_ _=>O) (λK A=>Bi (Xw (y:={a1 with Name:=name}) z O O S O ae Hh.eq O O O O O O) (A _ _ (A9 [2]) ?_));clear A K;have ag:=EN (i:=(Int.toNat (j:Int))) (y:={a1 with Name:=name}) S;have bs:=AZ (a:={a1 with Name:=name}) (A6 ae);refine Ap5 λa2 bf ah=>Az (.ptr (ix ids 3) g3 (Int.toNat (j:Int)) 0) O O (Ay (Rb z O ag O Tt.eq Bxl.eq O bf ah))<|Be [] [(55,.ptr (ix ids 3) g3 (Int.toNat (j:Int)) 1)]<|Cv O (λ_ _=>O) (λK A=>Bi (Xw (y:={a2 with Names:=[name]}) z O O ag O ah Bkf.eq O O O O O O) (A _ _ Bh ?_));clear A K;have bg:=EN (i:=(Int.toNat (j:Int))) (y:={a2 with Names:=[name]}) ag;have bt:=AZ (a:={a2 with Names:=[name]}) (A6 ah);refine Fp<|Bv ?_;exact D1 (hJ ((l.set (Int.toNat (j:Int)) {a1 with Name:=name}).set (Int.toNat (j:Int)) {a2 with Names:=[name]}) _ _ ⟨bg,O,O⟩)
    refine B0u<|Be [2,2] [(43,.ptr (ix ids 2) V 0 1),(44,v),(45,.I j),(46,.ptr (ix ids 2) V 0 1),(47,v),(48,.I j),(49,.str name),(50,.str name)]<|Ap5 λa3 bh ai=>Az (.ptr (ix ids 3) g3 (Int.toNat (j:Int)) 0) O O (Ay (Rb z O S O Tt.eq Bxl.eq O bh ai))<|Be [] [(53,.ptr (ix ids 3) g3 (Int.toNat (j:Int)) 0)]<|Cv O (λ_ _=>O) (λK A=>Bi (Xw (y:={a3 with Name:=name}) z O O S O ai Hh.eq O O O O O O) (A _ _ (A9 [2]) ?_));clear A K;have aj:=EN (i:=(Int.toNat (j:Int))) (y:={a3 with Name:=name}) S;have bu:=AZ (a:={a3 with Name:=name}) (A6 ai);refine Cz O O (λ_ _=>O) (λK A=>Dd (e:=rS) (L:=[name]) (st:=1) (rows:=[[.str name]]) Bkf.eq Hh.eq O O O O O (.cons (AC _) .nil) (λx=>Bkd x) O O (A _ _ (A9 [2]) ?_));clear A K;refine Ap5 λa4 bi ak=>Az (.ptr (ix ids 3) g3 (Int.toNat (j:Int)) 0) O O (Ay (Rb z O aj O Tt.eq Bxl.eq O bi ak))<|Be [] [(55,.ptr (ix ids 3) g3 (Int.toNat (j:Int)) 1)]<|Cv O (λ_ _=>O) (λK A=>Bi (Xw (y:={a4 with Names:=[name]}) z O O aj O ak Bkf.eq O O O O O O) (A _ _ Bh ?_));clear A K;have bj:=EN (i:=(Int.toNat (j:Int))) (y:={a4 with Names:=[name]}) aj;have bv:=AZ (a:={a4 with Names:=[name]}) (A6 ak);refine Fp<|Bv ?_;exact D1 (hJ ((l.set (Int.toNat (j:Int)) {a3 with Name:=name}).set (Int.toNat (j:Int)) {a4 with Names:=[name]}) _ _ ⟨bj,O,O⟩)
   rintro l fr h ⟨S,rfl,rfl⟩;refine Ah<|Bl (.B (decide ((t.Sectors.length:Int)<(t.Sectors.length:Int))))<|Ad<|Ai<|Eb O (BH _)<|Di O<|Ai<|Ah<|Ao 2 [2] [(58,v1)]<|Au (.I (t.Configs.length:Int)) O (D4 (Av.len ad Xv.eq))<|Bp (.I 0)<|Ad<|A3<|B7w (t:=58) O ad λal=>Gh [1,5,6,7,59,60] ?_;refine Ld (P:=prog) t.Configs (λD _=>λX=>I9 name D X) (((λX=>(Xo ({Volumes:=t.Volumes,Sectors:=l,Configs:=X,Ways:=t.Ways,Modes:=t.Modes,Kinds:=t.Kinds}:Tables)).bind λr4=>.ok (((r4.1==r2.1)&&(r2.2==r4.2))&&((r2.2==0)||(r2.1==(#v[0,0,0,0,0,0,0,0,0,0,0,0,0,0,0,0,0,0,0,0,0,0,0,0,0,0,0,0,0,0,0,0]:(Vector Int 32))))))):(List Config)→R Bool) (λD=>λX=>λfr h=>Av v1 (ix ids 4) Y X.length∧fr=Ac [(1,.str name),(5,.q ids 1 g1),(6,.I r2.2),(7,.q ids 2 V),(59,.I (t.Configs.length:Int)),(60,.I D)]∧h=hp h0 ids [none,Ab g1 32 [rU r2.1],Ab V 6 [[.I t.Volumes,v,v1,.L 3 Ks t.Ways,.L 1 (rL 1 rJ) t.Modes,.L 6 Gi t.Kinds]],Ccu v g3 5 Br l,Ccu v1 Y 3 Bz X,none]) t.Configs ?_ ?_ ?_
   ·exact⟨ad,O,O⟩
   ·rintro D a5 aw W bk X fr h ⟨U,rfl,rfl⟩;refine Ae (m':=I9 name D X) O (Ae (I9.eq_1 _ _ _) ?_);refine Ah<|Bl (.B (decide ((D:Int)<(t.Configs.length:Int))))<|Ad<|Ai<|Co O (AQ.2 (A6 aw))<|A8<|Ai<|A3<|Ah<|Ao 2 [] [(9,.I D)]<|Ad<|Ra (λl3=>Xd l3) (λl3=>λfr h=>Av v1 (ix ids 4) Y l3.length∧fr=Ac [(1,.str name),(5,.q ids 1 g1),(6,.I r2.2),(7,.q ids 2 V),(59,.I (t.Configs.length:Int)),(60,.I D)]∧h=hp h0 ids [none,Ab g1 32 [rU r2.1],Ab V 6 [[.I t.Volumes,v,v1,.L 3 Ks t.Ways,.L 1 (rL 1 rJ) t.Modes,.L 6 Gi t.Kinds]],Ccu v g3 5 Br l,Ccu v1 Y 3 Bz l3,none]) ?_ λax=>?_
    ·rintro l3 fr h ⟨ay,rfl,rfl⟩;refine Ae (Xd.eq_1 _)<|Ci<|A4<|Ao 2 [] [(60,.I (wi ((D:Int)+1)))]<|Ad<|D1 (Z4 (bk l3 _ _ ⟨ay,O,O⟩)) (.r4 (.r (.cons (Vf (A6 aw) al) .nil)))
    refine B3v D2 (.node 11 8 (.leaf [[],[0],[],[],[3],[],[],[],[7],[0,1,1,2,2,6],[0,1,2,6,9],[0,1,2,6,7,8,9,10],[0,1,2,3,4,4,5,5,6,7,8,9,10,11],[0,1,2,3,4,5,6,7,8,9,10,11,12],[0,1,2,3,4,5,6,7,8,9,10,11,12,13]] [(false,0),(false,1),(false,2),(false,3),(false,4),(false,5),(false,6),(false,7),(false,9),(false,10),(true,8),(true,11),(false,12),(false,13),(true,14)]) (.leaf [[],[0],[],[],[3],[],[],[],[0,1,2,6,7,9,10,11],[0,1,1,2,2,6],[0,1,2,6,9],[0,1,2,6,9,10],[0,1,2,3,4,4,5,5,6,7,8,9,10,11],[0,1,2,3,4,5,6,7,8,9,10,11,12],[0,1,2,3,4,5,6,7,8,9,10,11,12,13]] [(false,0),(false,1),(false,2),(false,3),(false,4),(false,5),(false,6),(false,7),(false,9),(false,10),(true,11),(true,8),(false,12),(false,13),(true,14)])) (by kernel_rfl)<|B4s ?_ ?_
    ·refine B0u<|Be [2,2] [(63,.ptr (ix ids 2) V 0 2),(64,v1),(65,.I D),(66,.ptr (ix ids 2) V 0 2),(67,v1),(68,.I D),(69,.str name),(70,.str name)]<|Ap5 λa6 az af=>Az (.ptr (ix ids 4) Y (Int.toNat (D:Int)) 0) O O (Ay (Rb z O U O Xv.eq Bx3.eq O az af))<|Be [] [(73,.ptr (ix ids 4) Y (Int.toNat (D:Int)) 0)]<|Cz O O (λ_ _=>O) (λK A=>Dd (e:=rS) (L:=[name]) (st:=1) (rows:=[[.str name]]) Bkf.eq Hh.eq O O O O O (.cons (AC _) .nil) (λx=>Bkd x) O O (A _ _ (Ag O (Jk (O1 0 0 0 Bx3.eq O Hh.eq O)) (Ag O (Ay (Rb z O U O Xv.eq Bx3.eq O az af)) (Mc O (Ag O B2 (Ag O B2 (Ag O (A7 (Ar z O O O Xv.eq O)) (Ag O (Jk (O1 0 2 2 Az3.eq O Xv.eq O)) (Ag O B2 (Ag O (A7 (Ar z O O O Xv.eq O)) (Ag O (Jk (O1 0 2 2 Az3.eq O Xv.eq O)) Ef)))))))))) ?_));clear A K;refine Cv O (λ_ _=>O) (λK A=>Bi (Xw (y:={a6 with Name:=name}) z O O U O af Hh.eq O O O O O O) (A _ _ (A9 [2]) ?_));clear A K;have am:=EN (i:=(Int.toNat (D:Int))) (y:={a6 with Name:=name}) U;have bo:=AZ (a:={a6 with Name:=name}) (A6 af);refine Ap5 λa7 bl Z=>Az (.ptr (ix ids 4) Y (Int.toNat (D:Int)) 0) O O (Ay (Rb z O am O Xv.eq Bx3.eq O bl Z))<|Be [] [(75,.ptr (ix ids 4) Y (Int.toNat (D:Int)) 1)]<|Cv O (λ_ _=>O) (λK A=>Bi (Xw (y:={a7 with Names:=[name]}) z O O am O Z Bkf.eq O O O O O O) (A _ _ Bh ?_));clear A K;have a0:=EN (i:=(Int.toNat (D:Int))) (y:={a7 with Names:=[name]}) am;have bp:=AZ (a:={a7 with Names:=[name]}) (A6 Z);refine Fp<|Bv ?_;exact D1 (ax ((X.set (Int.toNat (D:Int)) {a6 with Name:=name}).set (Int.toNat (D:Int)) {a7 with Names:=[name]}) _ _ ⟨a0,O,O⟩)
    refine B0u<|Be [2,2] [(63,.ptr (ix ids 2) V 0 2),(64,v1),(65,.I D),(66,.ptr (ix ids 2) V 0 2),(67,v1),(68,.I D),(69,.str name),(70,.str name)]<|Ap5 λa8 bm aa=>Az (.ptr (ix ids 4) Y (Int.toNat (D:Int)) 0) O O (Ay (Rb z O U O Xv.eq Bx3.eq O bm aa))<|Be [] [(73,.ptr (ix ids 4) Y (Int.toNat (D:Int)) 0)]<|Cv O (λ_ _=>O) (λK A=>Bi (Xw (y:={a8 with Name:=name}) z O O U O aa Hh.eq O O O O O O) (A _ _ (A9 [2]) ?_));clear A K;have ab:=EN (i:=(Int.toNat (D:Int))) (y:={a8 with Name:=name}) U;have bq:=AZ (a:={a8 with Name:=name}) (A6 aa);refine Cz O O (λ_ _=>O) (λK A=>Dd (e:=rS) (L:=[name]) (st:=1) (rows:=[[.str name]]) Bkf.eq Hh.eq O O O O O (.cons (AC _) .nil) (λx=>Bkd x) O O (A _ _ (A9 [2]) ?_));clear A K;refine Ap5 λa9 bn ac=>Az (.ptr (ix ids 4) Y (Int.toNat (D:Int)) 0) O O (Ay (Rb z O ab O Xv.eq Bx3.eq O bn ac))<|Be [] [(75,.ptr (ix ids 4) Y (Int.toNat (D:Int)) 1)]<|Cv O (λ_ _=>O) (λK A=>Bi (Xw (y:={a9 with Names:=[name]}) z O O ab O ac Bkf.eq O O O O O O) (A _ _ Bh ?_));clear A K;have ba:=EN (i:=(Int.toNat (D:Int))) (y:={a9 with Names:=[name]}) ab;have br:=AZ (a:={a9 with Names:=[name]}) (A6 ac);refine Fp<|Bv ?_;exact D1 (ax ((X.set (Int.toNat (D:Int)) {a8 with Name:=name}).set (Int.toNat (D:Int)) {a9 with Names:=[name]}) _ _ ⟨ba,O,O⟩)
   rintro X fr h ⟨U,rfl,rfl⟩;refine Ah<|Bl (.B (decide ((t.Configs.length:Int)<(t.Configs.length:Int))))<|Ad<|Ai<|Eb O (BH _)<|Di O<|Ah<|Ao 1 [2] [(78,.A [.I t.Volumes,v,v1,.L 3 Ks t.Ways,.L 1 (rL 1 rJ) t.Modes,.L 6 Gi t.Kinds])]<|Bb7 (h2:=hp h0 ids [none,Ab g1 32 [rU r2.1],none,none,none,none]) [(5,.q ids 1 g1),(6,.I r2.2),(78,.A (B9 ({Volumes:=t.Volumes,Sectors:=l,Configs:=X,Ways:=t.Ways,Modes:=t.Modes,Kinds:=t.Kinds}:Tables)))] (HS (.keep (.keep (.drop (.drop (.drop (.keep .nil)))))) z.len) (.s (.s (.cons (.aggL (.s (.cons (Ca S (z.at O O) (z.at O O) (λx=>Vs x)) (.cons (Ca U (z.at O O) (z.at O O) (λx=>Vp x)) (.s .s2))))) .nil))) O O<|oc ((Af1 ({Volumes:=t.Volumes,Sectors:=l,Configs:=X,Ways:=t.Ways,Modes:=t.Modes,Kinds:=t.Kinds}:Tables)) _) λr4 _=>Ao 3 [] [(81,.I r4.2),(80,.A (rU r4.1))]<|O0 (j:=5) (row:=(rU (G3 32 0))) z O O O O Bwb.eq (Wm (n:=32) (e:=(rI .u8)) (E:=(AV.int .u8)) (λ_=>O) _).symm ((Oz (λx=>Dw x) O) _) λg5=>Cw (Hm (v:=(.A (rU r4.1))) z O O O Bwb.eq O O O (((Oz (λx=>Dw x) O) _).1) O)<|Cm (.I r4.2)<|Ad<|Bv ?_;refine Ah<|Ao 2 [5,1] [(83,.A (rU r2.1)),(82,.A (rU r4.1))]<|Au (.B (r4.1==r2.1)) O (Bb (B2c O O) O (Bhb Bwb.eq Ln.eq))<|Bp (.B (r4.1==r2.1))<|Oc 4 85 89 [5,6] (.B ((r4.1==r2.1)&&(r2.2==r4.2))) O ?_ (λan _ ao=>?_) (λan _ ao=>?_)
   ·refine Bp (.B ((r4.1==r2.1)&&(r2.2==r4.2)))<|Oc 8 90 98 [] (.B (((r4.1==r2.1)&&(r2.2==r4.2))&&((r2.2==0)||(r2.1==(#v[0,0,0,0,0,0,0,0,0,0,0,0,0,0,0,0,0,0,0,0,0,0,0,0,0,0,0,0,0,0,0,0]:(Vector Int 32)))))) O ?_ (λap _ aq=>?_) (λap _ aq=>?_)
    ·refine Cm (.B (((r4.1==r2.1)&&(r2.2==r4.2))&&((r2.2==0)||(r2.1==(#v[0,0,0,0,0,0,0,0,0,0,0,0,0,0,0,0,0,0,0,0,0,0,0,0,0,0,0,0,0,0,0,0]:(Vector Int 32))))))<|Ad<|rt
    ·refine Ao 3 [] [(93,.B (r2.2==0))]<|Oc 4 93 97 [90] (.B ((r2.2==0)||(r2.1==(#v[0,0,0,0,0,0,0,0,0,0,0,0,0,0,0,0,0,0,0,0,0,0,0,0,0,0,0,0,0,0,0,0]:(Vector Int 32))))) O ?_ (λar _ au=>?_) (λar _ au=>?_)
     ·refine Bl (.B ((r2.2==0)||(r2.1==(#v[0,0,0,0,0,0,0,0,0,0,0,0,0,0,0,0,0,0,0,0,0,0,0,0,0,0,0,0,0,0,0,0]:(Vector Int 32)))))<|Ib aq (.cons (Afb ap) .nil)
     ·refine Ao 4 [] [(97,.B true)]<|Ib au (.r (.cons (Ava ar) .nil))
     refine Ao 2 [1] [(95,.A (rU (#v[0,0,0,0,0,0,0,0,0,0,0,0,0,0,0,0,0,0,0,0,0,0,0,0,0,0,0,0,0,0,0,0]:(Vector Int 32)))),(94,.A (rU r2.1))]<|F5 (tj:=93) (.B (r2.1==(#v[0,0,0,0,0,0,0,0,0,0,0,0,0,0,0,0,0,0,0,0,0,0,0,0,0,0,0,0,0,0,0,0]:(Vector Int 32)))) O O O (Bb (B2c O O) O (Bhb Bwb.eq Ln.eq))<|F5 (tj:=90) (.B (r2.1==(#v[0,0,0,0,0,0,0,0,0,0,0,0,0,0,0,0,0,0,0,0,0,0,0,0,0,0,0,0,0,0,0,0]:(Vector Int 32)))) O O O (Aer (t:=false) O O)<|Ib au (.r (.cons (Av1 ar) .nil))
    refine Ao 8 [] [(98,.B false)]<|Ib aq (.cons (Afc ap) .nil)
   ·refine Ao 4 [] [(89,.B (r2.2==r4.2))]<|Ib ao (.r2 (.cons (Afb an) .nil))
   refine Ao 4 [] [(89,.B false)]<|Ib ao (.r2 (.cons (Afc an) .nil))
  refine Ah<|Cm (.B true)<|Ad<|rt
 refine Ah<|Cm (.B false)<|Ad<|rt
end Go.Am
namespace Go.Am
open Go
def B3l:Ty Leg:=⟨If,λx=>(Cj .i64).good x.Segment∧(Cj .i64).good x.Volume∧(Cj .i64).good x.Length∧(Ej 2 Ajk).good x.Minutes∧True,λx=>((Cj .i64).bulk x.Segment+((Cj .i64).bulk x.Volume+((Cj .i64).bulk x.Length+((Ej 2 Ajk).bulk x.Minutes+(0)))))+1⟩
def B3e:Ty Way:=⟨Ks,λx=>(Cj .i64).good x.From∧(Cj .i64).good x.To∧(Ej 4 B3l).good x.Legs∧True,λx=>((Cj .i64).bulk x.From+((Cj .i64).bulk x.To+((Ej 4 B3l).bulk x.Legs+(0))))+1⟩
def B1i:Ty Kind:=⟨Gi,λx=>(Cj .i64).good x.Slow∧(Cj .i64).good x.Fast∧(Cj .i64).good x.Places∧(Cj .i64).good x.Weight∧(Cj .i64).good x.Longest∧(Ej 1 (Ej 2 Ajk)).good x.Curfews∧True,λx=>((Cj .i64).bulk x.Slow+((Cj .i64).bulk x.Fast+((Cj .i64).bulk x.Places+((Cj .i64).bulk x.Weight+((Cj .i64).bulk x.Longest+((Ej 1 (Ej 2 Ajk)).bulk x.Curfews+(0)))))))+1⟩
def B0t:Ty Tables:=⟨B9,λx=>(Cj .i64).good x.Volumes∧(Ej 5 A5j).good x.Sectors∧(Ej 3 A5g).good x.Configs∧(Ej 3 B3e).good x.Ways∧(Ej 1 (Ej 1 (Cj .i64))).good x.Modes∧(Ej 6 B1i).good x.Kinds∧True,λx=>((Cj .i64).bulk x.Volumes+((Ej 5 A5j).bulk x.Sectors+((Ej 3 A5g).bulk x.Configs+((Ej 3 B3e).bulk x.Ways+((Ej 1 (Ej 1 (Cj .i64))).bulk x.Modes+((Ej 6 B1i).bulk x.Kinds+(0)))))))+1⟩
def Acg:Prop:=∀(z:Tables) (a1:Al) (_:B0t.good z) (_:A1i.good a1),B0t.bulk z+(A1i.bulk a1)≤1048576→Agr z a1=.ok true
end Go.Am
namespace Go.Proofs.YtcpfebjhnbjfbaaGreatDoor.laws
open Go Go.Am Go.ChangeShapes Go.WideShapes Go.ChangeAt Go.RowKit
theorem B99:prog.readableRec 38=true∧38<prog.types.size:=by decide+kernel
theorem Cal:Bfl prog 52 B3l:=Uc (T:=(Du (Cj .i64) (Du (Cj .i64) (Du (Cj .i64) (Du (Ej 2 Ajk) Apm))))) (tot:=4) underlying52 (by kernel_rfl) (Bt (c:=1) rfl rfl (by kernel_rfl) rfl Qz (Bt (c:=1) rfl rfl (by kernel_rfl) rfl Qz (Bt (c:=1) rfl rfl (by kernel_rfl) rfl Qz (Bt (c:=1) rfl rfl (by kernel_rfl) rfl B5i (Aiy rfl))))) (λp=>⟨p.1,p.2.1,p.2.2.1,p.2.2.2.1⟩) (λ_=>rfl) (λ_ h=>h) (λ_=>AI _)
theorem Cap:Bfl prog 47 (Ej 4 B3l):=Pz underlying47 (by kernel_rfl) (by decide) (λa=>A1z a) Cal
theorem Cay:Bfl prog 49 B3e:=Uc (T:=(Du (Cj .i64) (Du (Cj .i64) (Du (Ej 4 B3l) Apm)))) (tot:=3) underlying49 (by kernel_rfl) (Bt (c:=1) rfl rfl (by kernel_rfl) rfl Qz (Bt (c:=1) rfl rfl (by kernel_rfl) rfl Qz (Bt (c:=1) rfl rfl (by kernel_rfl) rfl Cap (Aiy rfl)))) (λp=>⟨p.1,p.2.1,p.2.2.1⟩) (λ_=>rfl) (λ_ h=>h) (λ_=>AI _)
theorem Cag:Bfl prog 34 (Ej 3 B3e):=Pz underlying34 (by kernel_rfl) (by decide) (λa=>Azs a) Cay
theorem Cas:Bfl prog 35 (Ej 1 (Ej 1 (Cj .i64))):=Pz underlying35 (by kernel_rfl) (by decide) (λa=>Ate a) B5c
theorem Ca2:Bfl prog 54 (Ej 1 (Ej 2 Ajk)):=Pz underlying54 (by kernel_rfl) (by decide) (λa=>Ate a) B5i
theorem Cak:Bfl prog 56 B1i:=Uc (T:=(Du (Cj .i64) (Du (Cj .i64) (Du (Cj .i64) (Du (Cj .i64) (Du (Cj .i64) (Du (Ej 1 (Ej 2 Ajk)) Apm))))))) (tot:=6) underlying56 (by kernel_rfl) (Bt (c:=1) rfl rfl (by kernel_rfl) rfl Qz (Bt (c:=1) rfl rfl (by kernel_rfl) rfl Qz (Bt (c:=1) rfl rfl (by kernel_rfl) rfl Qz (Bt (c:=1) rfl rfl (by kernel_rfl) rfl Qz (Bt (c:=1) rfl rfl (by kernel_rfl) rfl Qz (Bt (c:=1) rfl rfl (by kernel_rfl) rfl Ca2 (Aiy rfl))))))) (λp=>⟨p.1,p.2.1,p.2.2.1,p.2.2.2.1,p.2.2.2.2.1,p.2.2.2.2.2.1⟩) (λ_=>rfl) (λ_ h=>h) (λ_=>AI _)
theorem Ca9:Bfl prog 36 (Ej 6 B1i):=Pz underlying36 (by kernel_rfl) (by decide) (λa=>Awg a) Cak
theorem Cad:Bfl prog 38 B0t:=Uc (T:=(Du (Cj .i64) (Du (Ej 5 A5j) (Du (Ej 3 A5g) (Du (Ej 3 B3e) (Du (Ej 1 (Ej 1 (Cj .i64))) (Du (Ej 6 B1i) Apm))))))) (tot:=6) underlying38 (by kernel_rfl) (Bt (c:=1) rfl rfl (by kernel_rfl) rfl Qz (Bt (c:=1) rfl rfl (by kernel_rfl) rfl B9e (Bt (c:=1) rfl rfl (by kernel_rfl) rfl B9g (Bt (c:=1) rfl rfl (by kernel_rfl) rfl Cag (Bt (c:=1) rfl rfl (by kernel_rfl) rfl Cas (Bt (c:=1) rfl rfl (by kernel_rfl) rfl Ca9 (Aiy rfl))))))) (λp=>⟨p.1,p.2.1,p.2.2.1,p.2.2.2.1,p.2.2.2.2.1,p.2.2.2.2.2.1⟩) (λ_=>rfl) (λ_ h=>h) (λ_=>AI _)
end Go.Proofs.YtcpfebjhnbjfbaaGreatDoor.laws
namespace Go.Am
open Go
def sN (n:Al)(s:Sector):Sector:={s with Name:=n,Names:=[n]}
def cN (n:Al)(c:Config):Config:={c with Name:=n,Names:=[n]}
def tN (n:Al)(t:Tables):Tables:={t with Sectors:=t.Sectors.map (sN n),Configs:=t.Configs.map (cN n)}
def aN (n:Al)(a:Airspace):Airspace:={a with Sectors:=a.Sectors.map (sN n),Configs:=a.Configs.map (cN n)}
theorem B8y (n:Al)(a:Airspace):Yv (aN n a)=Yv a:=by unfold Yv;rw[show(aN n a).Sectors=a.Sectors.map (sN n)from rfl,Axd];rfl
theorem B4f (n:Al)(a:Airspace):Mq (aN n a)=Mq a:=by unfold Mq;rw[B8y,show(aN n a).Sectors.length=a.Sectors.length from AL _,show(aN n a).Configs.length=a.Configs.length from AL _,show(aN n a).Configs=a.Configs.map (cN n)from rfl];simp only[Axd];rfl
theorem B69 (n:Al)(a:Airspace):Sr (aN n a)=Sr a:=by unfold Sr;rw[B4f]
theorem B51 (n:Al)(t:Tables):(Vw (tN n t)).bind Sr=(Vw t).bind Sr:=by
 unfold Vw;by_cases h:(0:Int)≤t.Volumes∧(t.Volumes:Int)≤t.Volumes∧(Int.toNat t.Volumes)*40≤Bj
 ·rw[if_pos h,if_pos (show(0:Int)≤(tN n t).Volumes∧((tN n t).Volumes:Int)≤(tN n t).Volumes∧(Int.toNat (tN n t).Volumes)*40≤Bj from h)];exact B69 n {Volumes:=(List.replicate (Int.toNat t.Volumes) Auw),Sectors:=t.Sectors,Configs:=t.Configs,Segments:=[],Routes:=[],Airports:=[],Classes:=[],Rules:=[]}
 ·rw[if_neg h,if_neg (show ¬((0:Int)≤(tN n t).Volumes∧((tN n t).Volumes:Int)≤(tN n t).Volumes∧(Int.toNat (tN n t).Volumes)*40≤Bj)from h)]
theorem B87 (n:Al)(l:List Sector):J2 (l.map (sN n))=J2 l:=by unfold J2 Ia Kk;rw[Axd];rfl
theorem B6p (n:Al)(t:Tables):Ky (tN n t)=Ky t:=by
 unfold Ky;have h:=B51 n t;rw[show(tN n t).Sectors=t.Sectors.map (sN n)from rfl,B87];have e:((Vw (tN n t)).bind λr1=>(Sr r1).bind λr2=>R.ok (r2 !=0))=(Vw t).bind λr1=>(Sr r1).bind λr2=>R.ok (r2 !=0):=by rw[←R.bind_assoc,←R.bind_assoc];exact congrArg (λm:R Int=>m.bind λr2=>R.ok (r2 !=0)) h
 rw[e];rfl
theorem B7h (n:Al)(t:Tables):Xo (tN n t)=Xo t:=by unfold Xo;rw[B6p,show(tN n t).Sectors=t.Sectors.map (sN n)from rfl,show(tN n t).Configs=t.Configs.map (cN n)from rfl];rw[show Qy (t.Sectors.map (sN n))=Qy t.Sectors from by unfold Qy T9;rw[Rq];rfl];rw[show Qp (t.Configs.map (cN n))=Qp t.Configs from by unfold Qp Ua;rw[Rq];rfl];rfl
variable{d:Nat}{n:Nat}{v:Value}
theorem EB.ups{e:Nat}(h:EB d n v)(z:d≤e):EB e n v:=by
 induction z with
 |refl=>exact h
 |step _ A=>exact A.up
theorem B1v (d:Nat)(n:Int):EB d 12 ({Kind:=1,N:=n,S:=[],L:=[]}:Value):=by
 cases d with
 |zero=>exact⟨rfl,rfl,rfl,AI _⟩
 |succ d=>exact .inl ⟨rfl,rfl,rfl,AI _⟩
variable{m:Nat}
theorem B4g{k:Nat}{l:List Value}(h:∀x∈l,EB d m x)(hk:l.length≤k):EB (d+1) (12+k*m) ({Kind:=3,N:=0,S:=[],L:=l}:Value):=.inr ⟨rfl,rfl,rfl,m,h,Nat.add_le_add_left (BJ _ hk) _⟩
theorem B10:∀(n d k:Nat) (v:Value),d<n→d≤100→EB d k v→As (Y4 n v) λr=>r.2=true∧0≤r.1∧r.1≤(d:Int)
 |0,d,k,v,D,_,_=>absurd D (DZ _)
 |n+1,d,k,v,D,O,z=>by
  show As (Aev (Y4 n) v) _;unfold Aev;have leaf:(v.Kind=1∧v.S=[]∧v.L=[])→As (Aev (Y4 n) v) λr=>r.2=true∧0≤r.1∧r.1≤(d:Int):=by rintro⟨h1,h2,A⟩;unfold Aev;simp only[h1,h2,A];exact .ok ⟨rfl,DW _,by show(0:Int)≤d;omega⟩
  cases d with
  |zero=>exact leaf ⟨z.1,z.2.1,z.2.2.1⟩
  |succ d=>
   rcases z with h|⟨h1,h2,A,m,R,W⟩
   ·exact leaf ⟨h.1,h.2.1,h.2.2.1⟩
   ·simp only[h1,h2,A];refine BO (p:=λb:Bool=>b=false) (.ok rfl) λb S=>?_;subst S;rw[if_neg (by decide),if_neg (by decide)];refine GT (Lu (λ_ (x:Int)=>0≤x∧x≤(d:Int)) (λ_=>False) v.L 0 0 (λj a s U V=>?_) ⟨DW _,by omega⟩) (λx X=>?_) λ_ h=>h.elim
    ·unfold Ak6;refine(B10 n d m a (by omega) (by omega) (R a (AP U))).bind λr hr=>?_;rw[if_pos hr.1];refine .ok ?_;show 0≤(if r.1>s then r.1 else s)∧(if r.1>s then r.1 else s)≤(d:Int);split
     ·exact hr.2
     ·exact V
    ·refine .ok ⟨rfl,?_⟩;rw[Ok (by omega) (by omega)];exact⟨by omega,by omega⟩
theorem B6a{k:Nat}(h:EB 16 k v):Alc v=.ok 0:=by obtain⟨r,h1,h2,z,A⟩:=B10 Aot 16 k v (by unfold Aot;decide) (by decide) h;unfold Alc Aqp;rw[h1,R.ok_bind,if_pos h2,if_neg (by omega)]
theorem Brw {u:Int}{l:List Int}(h0:0≤u)(h1:u<18446744073709551616)(R:l.length≤10000000):As (Lp u l) λr=>r.length≤l.length+11:=by
 unfold Lp;refine(Aa1 (λs:Int×List Int=>s.1.toNat) (λs=>0≤s.1∧∃k,s.1<128^k∧s.2.length+k≤l.length+10) (λs=>s.2.length≤l.length+10) ?_ _ (u,l) (AI _) ⟨h0,10,by show u<_;omega,AI _⟩).bind ?_
 ·rintro⟨A,b⟩ ⟨h2,k,z,D⟩;show As (S2 A b) _;simp only at h2 z D;have hf:Int.fdiv A 128=A/128:=HX _ (by decide);unfold S2;refine AN (λh=>?_) λh=>.ok (by show b.length≤_;omega);refine CS (by simp only[AB];unfold Bj;omega) (.ok ⟨⟨?_,?_⟩,?_⟩)
  ·show 0≤Int.fdiv A 128;omega
  ·match k,z,D with
   |0,z,_=>simp at z;omega
   |1,z,_=>simp at z;omega
   |k+1+1,z,D=>refine⟨k+1,?_,by simp only[AJ,AB];omega⟩;show Int.fdiv A 128<128^(k+1);rw[Int.pow_succ]at z;omega
  ·show(Int.fdiv A 128).toNat<A.toNat;omega
 ·rintro⟨O,b1⟩ h;show As (Tl O b1) _;simp only at h;unfold Tl;exact CS (by simp only[AB];unfold Bj;omega) (.ok (by simp only[AJ,AB];omega))
theorem Bmv (n:Int):0≤IntKind.wrap .u64 n∧IntKind.wrap .u64 n<18446744073709551616:=by simp[IntKind.wrap,IntKind.bits,IntKind.signed];omega
theorem B9b (v:Value){l:List Int}(z:l.length≤9000000):As (It v l) λr=>r.length≤l.length+12:=by unfold It;refine CS (by simp only[AB];unfold Bj;omega) ?_;unfold Aeb;rw[R.ok_bind];refine(Brw (Bmv _).1 (Bmv _).2 (by simp only[AJ,AB];omega)).bind λr hr=>.ok ?_;simp only[AJ,AB]at hr;omega
theorem B5y{g:Value→List Int→R (List Int)}{W_:Value→List Int→R (List Int)}{a:Value}{b:List Int}(O:g a b=if a.Kind=0 then .bad else if a.Kind=1 then(It a b).bind λz=>.ok z else if a.Kind=2 then(Iu a b).bind λA=>.ok A else if a.Kind=3 then(W_ a b).bind λD=>.ok D else .bad)(h:EB d m a)(S:b.length≤9000000)(U:a.Kind=3→As (W_ a b) λr=>r.length≤b.length+m):As (g a b) λr=>r.length≤b.length+m:=by
 rw[O];have leaf:a.Kind=1→As (if a.Kind=0 then .bad else if a.Kind=1 then(It a b).bind λz=>.ok z else if a.Kind=2 then(Iu a b).bind λA=>.ok A else if a.Kind=3 then(W_ a b).bind λD=>.ok D else .bad) λr=>r.length≤b.length+m:=by intro h1;rw[h1,if_neg (by decide),if_pos rfl];have:=h.len;exact(B9b a S).bind λr hr=>.ok (by omega)
 cases d with
 |zero=>exact leaf h.1
 |succ d=>
  rcases h with h'|⟨h1,_⟩
  ·exact leaf h'.1
  ·rw[h1,if_neg (by decide),if_neg (by decide),if_neg (by decide),if_pos rfl];exact(U h1).bind λr hr=>.ok hr
theorem B1t:∀(n d k:Nat) (v:Value) (l:List Int),d<n→EB (d+1) k v→v.Kind=3→l.length+k≤9000000→As (J5 n v l) λr=>r.length≤l.length+k
 |0,d,k,v,l,O,_,_,_=>absurd O (DZ _)
 |n+1,d,k,v,l,O,R,S,Y=>by
  show As (Ob (J5 n) v l) _;unfold Ob;have hk:=R.len;rcases R with h|⟨h1,h2,Z,m,D,h5⟩
  ·exact absurd (h.1.symm.trans S) (by decide)
  refine CS (by simp only[AB];unfold Bj;omega) ?_;refine(Brw (Bmv _).1 (Bmv _).2 (by simp only[AJ,AB];omega)).bind λb U=>?_;simp only[AJ,AB]at U;refine BO (p:=λr:List Int=>r.length≤l.length+k) ((My (λj (s:List Int)=>s.length≤b.length+j*m) v.L 0 b (λj a s A V=>?_) (by simp)).mono λr hr=>?_) λr hr=>.ok hr
  ·have W:=A6 A;have X:(j+1)*m≤v.L.length*m:=BJ _ W;rw[BD,IS]at X;simp only[AG]at V ⊢;refine(B5y (W_:=J5 n) (g:=Zt (J5 n)) rfl (D a (AP A)) (by omega) λz=>?_).mono λr hr=>?_
   ·cases d with
    |zero=>exact absurd ((D a (AP A)).1.symm.trans z) (by decide)
    |succ d=>exact B1t n d m a s (by omega) (D a (AP A)) z (by omega)
   ·rw[BD,IS];omega
  ·rw[AG]at hr;omega
theorem B5l{k:Nat}(h:EB 16 k v)(D:v.Kind=3)(hk:k≤8000000):As (Aj2 v) λr=>r.2=0∧r.1.length≤k:=by
 unfold Aj2;rw[B6a h,R.ok_bind,if_neg (by decide)];unfold Uq;rw[R.ok_bind,D,if_neg (by decide),if_neg (by decide),if_neg (by decide),if_pos rfl];have S:=h.len;unfold Yk;rcases h with h|⟨h1,h2,Y,m,O,Z⟩
 ·exact absurd (h.1.symm.trans D) (by decide)
 refine BO (p:=λr:List Int=>r.length≤k) ?_ λr hr=>.ok ⟨rfl,hr⟩;refine CS (by simp only[AB];unfold Bj;omega) ?_;refine(Brw (Bmv _).1 (Bmv _).2 (by simp only[AB];omega)).bind λb U=>?_;simp only[AB]at U;refine BO (p:=λr:List Int=>r.length≤k) ((My (λj (s:List Int)=>s.length≤b.length+j*m) v.L 0 b (λj a s z V=>?_) (by simp)).mono λr hr=>?_) λr hr=>.ok hr
 ·have W:=A6 z;have X:(j+1)*m≤v.L.length*m:=BJ _ W;rw[BD,IS]at X;simp only[AG]at V ⊢;refine(B5y (W_:=V6) (g:=Abm) rfl (O a (AP z)) (by omega) λA=>?_).mono λr hr=>?_
  ·exact B1t Aot 14 m a s (by unfold Aot;decide) (O a (AP z)) A (by omega)
  ·rw[BD,IS];omega
 ·rw[AG]at hr;omega
theorem B4i (n:Int):0≤IntKind.wrap .u64 n:=by simp[IntKind.wrap,IntKind.bits,IntKind.signed];omega
theorem B4a (a b:Int):0≤Dk .u64 a b:=B4i _
theorem Bj4 (a k:Int):Pq (Ei a k):=by unfold Ei;rw[if_pos (B4a _ _),if_pos (B4i _)];exact GM _
theorem B08 (v a b c:Int):Pq (Y2 v a b c):=by unfold Y2;exact(Bj4 _ _).bind λ_=>(Bj4 _ _).bind λ_=>(Bj4 _ _).bind λ_=>GM _
theorem B6u (b:List Int)(h:4≤b.length):Pq (Ala b):=by unfold Ala;rw[if_pos ⟨by decide,by omega⟩];exact(HO _ _ _ λj a s _=>GM _).bind λ_=>GM _
theorem B1m (b:List Int)(s:Vector Int 8)(h:b.length=64):Pq (Nw b s):=by
 unfold Nw;refine GQ (HO _ _ _ λj a o A=>?_) λo=>?_
 ·have D:j<16:=by have:=A6 A;simpa using this
  unfold Aah
  simp only[AG]
  rw[Ok (by omega) (by omega),if_pos ⟨by omega,by omega⟩]
  refine GQ (B6u _ (by rw[BL];omega)) λ_=>GM _
 ·refine GQ (Ud.loop (I:=λs:Int×Vector Int 64=>16≤s.1∧s.1≤64) (E:=λ_=>True) (λs=>(64-s.1).toNat) ?_ 64 (16,o) (by simp) ⟨DW _,by show(16:Int)≤64;decide⟩) λR=>?_
  ·rintro⟨x,O⟩ ⟨h1,h2⟩;show Ud (Aar x O) _;simp only at h1 h2;unfold Aar;by_cases z:x<64
   ·rw[if_pos z,Ok (n:=x-15) (by omega) (by omega),Ok (n:=x-2) (by omega) (by omega),Ok (n:=x-16) (by omega) (by omega),Ok (n:=x-7) (by omega) (by omega),
     if_pos ⟨by omega,by omega⟩,if_pos ⟨by omega,by omega⟩,if_pos ⟨by omega,by omega⟩,if_pos ⟨by omega,by omega⟩]
    refine(Bj4 _ _).bind λ_=>(Bj4 _ _).bind λ_=>(Bj4 _ _).bind λ_=>(Bj4 _ _).bind λ_=>?_
    rw[if_pos ⟨by omega,z⟩,Ok (n:=x+1) (by omega) (by omega)]
    exact Ud.ok ⟨⟨by simp only;omega,by simp only;omega⟩,by simp only;omega⟩
   ·rw[if_neg z];exact Ud.ok trivial
  ·unfold Tr;refine GQ (HO _ _ _ λj a o _=>?_) λS=>GQ (HO _ _ _ λj a o _=>GM _) λ_=>GM _;unfold Aak;refine(B08 _ _ _ _).bind λ_=>(B08 _ _ _ _).bind λ_=>?_;rw[if_pos (List.length_take_le _ _)];exact GM _
theorem B4l (c cp:Nat)(n:Int)(s:Vector Int 128):Pq (Ah9 c cp n s):=by
 unfold Ah9;refine GQ (HO _ _ _ λj a o z=>?_) λ_=>GM _;have A:j<8:=by have:=A6 z;simpa using this
 unfold Aoy;simp only[AG];rw[Ok (n:=8*(j:Int)) (by omega) (by omega),Ok (n:=7-(j:Int)) (by omega) (by omega),if_pos (by omega),if_pos ⟨by omega,by omega⟩];exact GM _
theorem B6s (c cp:Nat)(n:Int)(s:Vector Int 32):Pq (Ac6 c cp n s):=by
 unfold Ac6;refine GQ (HO _ _ _ λj a o z=>?_) λ_=>GM _;have A:j<4:=by have:=A6 z;simpa using this
 unfold Ak9;simp only[AG];rw[Ok (n:=8*(j:Int)) (by omega) (by omega),Ok (n:=3-(j:Int)) (by omega) (by omega),if_pos (by omega),if_pos ⟨by omega,by omega⟩];exact GM _
theorem B1p (r:List Int)(o:Vector Int 8)(k:Nat)(h:r.length=64*k):Pq (loop (Ct λz D=>Aov z D) (r,o)):=by
 refine Ud.loop (I:=λs:List Int×Vector Int 8=>∃k,s.1.length=64*k) (E:=λ_=>True) (λs=>s.1.length) ?_ r.length (r,o) (AI _) ⟨k,h⟩;rintro⟨v,o⟩ ⟨k,hk⟩;show Ud (Aov v o) _;simp only at hk;unfold Aov;by_cases A:(v.length:Int)>0
 ·rw[if_pos A,if_pos ⟨by decide,by omega⟩];refine GQ (B1m _ _ (by rw[CM,show Int.toNat 64=64 from rfl];omega)) λ_=>?_;rw[if_pos ⟨by decide,by omega⟩];refine Ud.ok ⟨⟨k-1,?_⟩,?_⟩
  ·simp only[BL,show Int.toNat 64=64 from rfl];omega
  ·simp only[BL,show Int.toNat 64=64 from rfl];omega
 ·rw[if_neg A];exact Ud.ok trivial
theorem B6g:Aox=Aov:=rfl
theorem B16 (o:Vector Int 8):Pq (Agp o):=by
 unfold Agp;refine GQ (HO _ _ _ λj a D z=>?_) λ_=>GM _;have A:j<8:=by have:=A6 z;simpa using this
 unfold Ao2;simp only[AG];rw[Ok (n:=4*(j:Int)) (by omega) (by omega),Ok (n:=4*(j:Int)+4) (by omega) (by omega),if_pos ⟨rfl,by omega,by omega⟩];exact(B6s _ _ _ _).bind λ_=>GM _
theorem B5r:Agn=Agp:=rfl
theorem B4r (b:List Int):Pq (Ah3 b):=by
 unfold Ah3;refine Ud.bind (P:=λs:List Int×Vector Int 8=>s.1.length<64) (Ud.loop (I:=λs:List Int×Vector Int 8=>True) (λs=>s.1.length) ?_ b.length (b,Aya) (AI _) trivial) ?_
 ·rintro⟨r,o⟩ _;show Ud (Ao3 r o) _;unfold Ao3;by_cases hr:(r.length:Int)≥64
  ·rw[if_pos hr,if_pos ⟨by decide,by omega⟩];refine GQ (B1m _ _ (by rw[CM,show Int.toNat 64=64 from rfl];omega)) λ_=>?_;rw[if_pos ⟨by decide,by omega⟩];refine Ud.ok ⟨trivial,?_⟩;simp only[BL,show Int.toNat 64=64 from rfl];omega
  ·rw[if_neg hr];exact Ud.ok (by simp only;omega)
 ·rintro⟨r,o⟩ hr;show Ud (Aha b r o) _;simp only at hr;unfold Aha;rw[if_pos (by omega),if_pos ⟨by omega,by omega⟩];refine Ud.ite (λh=>?_) (λh=>?_)
  ·exact(B4l _ _ _ _).bind λr1=>(B1p _ _ 2 (by simp)).bind λ_=>B16 _
  ·rw[B6g,B5r];exact(B4l _ _ _ _).bind λr1=>(B1p _ _ 1 (by simp)).bind λ_=>B16 _
theorem B36 (a b:List Int)(h:a.length+b.length≤1000000000):Tk [a,b]=.ok (a++b):=by
 unfold Tk;have z:eachS (λ_ a=>λsize=>Abr a size) 0 [a,b] 0=.ok ((a.length:Int)+(b.length:Int)):=by simp only[Ic,Anw,Abr];rw[Ok (n:=0+(a.length:Int)) (by omega) (by omega),if_neg (by omega)];simp only[R.bind];rw[Ok (by omega) (by omega),if_neg (by omega)];simp
 rw[z];simp only[R.bind];have A:Tq ((a.length:Int)+(b.length:Int))=.ok []:=by
  unfold Tq;rw[if_neg (by omega),Ok (by omega) (by omega)];by_cases h0:(a.length:Int)+(b.length:Int)-0>0
  ·rw[if_pos h0,if_pos ⟨by omega,by unfold Bj;omega⟩,if_pos ⟨by decide,by omega⟩];rfl
  ·rw[if_neg h0]
 rw[A];simp only[R.bind,Ic,Anw,O8];rw[if_pos (by simp only[DB,Bj];omega)];simp only[R.bind,CB];rw[if_pos (by unfold Bj;omega)]
theorem B5a (z:Al)(b:List Int)(ht:z.length≤16)(A:b.length≤100000000):Pq (Ahc z b):=by unfold Ahc;rw[if_pos (by unfold Bj;omega)];refine(B4r _).bind λr=>?_;rw[B36 _ _ (by rw[Vector.length_toList];omega)];exact(B4r _).bind λ_=>GM _
variable{α:Type}
theorem As7{b:Nat→α→List Value→R (List Value)}{F:Nat→α→R Value}(O:∀j a y,b j a y=(F j a).bind λr=>if(y.length+[r].length)*56≤Bj then .ok (y++[r])else .bad)(l:List α)(U:l.length≤1000)(S:∀j,∀a∈l,As (F j a) (EB d m)):As ((eachS b 0 l []).bind λy=>.ok y) λy=>y.length=l.length∧∀x∈y,EB d m x:=by
 refine BO (p:=λy:List Value=>y.length=l.length∧∀x∈y,EB d m x) ((My (λj (y:List Value)=>y.length=j∧∀x∈y,EB d m x) l 0 [] (λj a y D z=>?_) ⟨rfl,λx A=>absurd A BU⟩).mono λy z=>by rwa[AG]at z) λy z=>.ok z;have V:=A6 D;rw[O];simp only[AG]at z ⊢;refine(S _ a (AP D)).bind λr hr=>?_;refine CS (by simp only[AB,z.1];unfold Bj;omega) (.ok ⟨by simp[z.1],λx A=>?_⟩);rcases BG.1 A with A|A
 ·exact z.2 x A
 ·rw[AY.1 A];exact hr
theorem Ask{m':R (List Value)}{k:Nat}(h:As m' λy=>y.length=n∧∀x∈y,EB d m x)(A:n≤k):As (m'.bind λr=>.ok ({Kind:=3,N:=0,S:=[],L:=r}:Value)) (EB (d+1) (12+k*m)):=h.bind λy z=>.ok (B4g z.2 (by omega))
theorem B72 (l:List Int)(h:l.length≤20):As (Pn l) (EB 1 252):=Ask (As7 (F:=λj a=>Ub (j:Int) a) (λ_ _ _=>rfl) l (by omega) λj a _=>⟨_,rfl,B1v 0 a⟩) h
theorem A4p{f:AnyT→List Value→R (List Value)}(l:List AnyT)(U:l.length≤100)(h:∀a∈l,∀y:List Value,y.length≤100→As (f a y) λr=>∃x,r=y++[x]∧EB d m x):
  As ((eachS (λ_ a=>λl1=>f a l1) 0 l []).bind ((λl1=>.ok ({Kind:=3,N:=0,S:=[],L:=l1}:Value)))) λv=>v.Kind=3∧v.L.length=l.length∧EB (d+1) (12+l.length*m) v∧∀x∈v.L,EB d m x:=by
 refine BO (p:=λy:List Value=>y.length=l.length∧∀x∈y,EB d m x) ((My (λj (y:List Value)=>y.length=j∧∀x∈y,EB d m x) l 0 [] (λj a y O A=>?_) ⟨rfl,λx D=>absurd D BU⟩).mono λy A=>by rwa[AG]at A) λy A=>.ok ⟨rfl,A.1,B4g A.2 (GN A.1),A.2⟩
 have V:=A6 O
 simp only[AG]at A ⊢
 refine(h a (AP O) y (by omega)).mono λr hr=>?_
 obtain⟨x,rfl,D⟩:=hr
 refine⟨by simp[A.1],λz hz=>?_⟩
 rcases BG.1 hz with hz|hz
 ·exact A.2 z hz
 ·rw[AY.1 hz];exact D
variable{y:List Value}
theorem B2g{x:Value}(A:y.length≤100)(z:EB d m x):As (if(y.length+[x].length)*56≤Bj then R.ok (y++[x])else .bad) λr=>∃x,r=y++[x]∧EB d m x:=CS (by simp only[AB];unfold Bj;omega) (.ok ⟨x,rfl,z⟩)
theorem B76 (s:Span):As (Abd s) (EB 1 36):=by
 unfold Abd Aa8;refine(A4p (d:=0) (m:=12) [(AnyT.a3 s.From),(AnyT.a3 s.To)] (by simp) λa z y A=>?_).bind λv D=>.ok (D.2.2.1.le (by simp));rcases AM.1 z with rfl|z
 ·exact B2g A (B1v 0 _)
 ·rw[AY.1 z];exact B2g A (B1v 0 _)
theorem B7f (l:List Span)(h:l.length≤10):As (Sy l) (EB 2 372):=Ask (As7 (F:=λj a=>Ro (j:Int) a) (λ_ _ _=>rfl) l (by omega) λj a _=>(B76 a).bind λr hr=>.ok hr) h
theorem Ax2(n:Int)(z:y.length≤100)(A:12≤m):As (Ai6 (.a3 n) y) λr=>∃x,r=y++[x]∧EB d m x:=B2g z ((B1v d n).le A)
theorem B3h(l:List Int)(z:y.length≤100)(A:l.length≤20)(D:1≤d)(O:252≤m):As (Ai6 (.a43 l) y) λr=>∃x,r=y++[x]∧EB d m x:=(B72 l A).bind λr hr=>B2g z ((hr.ups D).le O)
theorem B4o(l:List Span)(z:y.length≤100)(A:l.length≤10)(D:2≤d)(O:372≤m):As (Ai6 (.a50 l) y) λr=>∃x,r=y++[x]∧EB d m x:=(B7f l A).bind λr hr=>B2g z ((hr.ups D).le O)
theorem Bys{e k:Nat}(h:EB e k v)(z:y.length≤100)(A:e≤d)(D:k≤m):As (Ai6 (.a185 v) y) λr=>∃x,r=y++[x]∧EB d m x:=B2g z ((h.ups A).le D)
theorem B7b(z:v.L.length=1)(h:∀x∈v.L,EB d m x):As (Wd v) (EB d m):=by unfold Wd;exact FE (DW _) (by rw[z];decide) λa A=>.ok (h a (AP A))
theorem Caf (s:Sector)(h:s.Volumes.length≤10):As (Yx s) (EB 2 768):=by
 unfold Yx Io;refine(A4p (d:=1) (m:=252) [(AnyT.a43 s.Volumes),(AnyT.a3 s.Radar),(AnyT.a3 s.Procedural)] (by simp) λa A y z=>?_).bind λv D=>.ok (D.2.2.1.le (by simp));simp only[AM,GG,or_false]at A;rcases A with rfl|rfl|rfl
 ·exact B3h _ z (by omega) (AI _) (AI _)
 ·exact Ax2 _ z (by decide)
 ·exact Ax2 _ z (by decide)
theorem B2h(x:AnyT)(h:∀y:List Value,y.length≤100→As (Ai6 x y) λr=>∃x,r=y++[x]∧EB d m x):As ((Io [x]).bind λr=>(Wd r).bind λr1=>.ok r1) (EB d m):=by unfold Io;refine(A4p (d:=d) (m:=m) [x] (by simp) λa A y D=>?_).bind λv z=>(B7b z.2.1 z.2.2.2).bind λr hr=>.ok hr;rw[AY.1 A];exact h y D
theorem Cau (c:Config)(h:c.Sectors.length≤10):As (Yu c) (EB 1 252):=B2h _ λy z=>B3h _ z (by omega) (AI _) (AI _)
theorem B9o (l:List Int)(h:l.length≤20):As (Yr l) (EB 1 252):=B2h _ λy z=>B3h _ z (by omega) (AI _) (AI _)
theorem Cah (l:List Span)(h:l.length≤10):As (Vk l) (EB 2 372):=B2h _ λy z=>B4o _ z (by omega) (AI _) (AI _)
theorem Cat (g:Leg)(h:g.Minutes.length≤10):As (U1 g) (EB 3 1500):=by
 unfold U1 Io;refine(A4p (d:=2) (m:=372) [(AnyT.a3 g.Segment),(AnyT.a3 g.Volume),(AnyT.a3 g.Length),(AnyT.a50 g.Minutes)] (by simp) λa A y z=>?_).bind λv D=>.ok (D.2.2.1.le (by simp));simp only[AM,GG,or_false]at A;rcases A with rfl|rfl|rfl|rfl
 ·exact Ax2 _ z (by decide)
 ·exact Ax2 _ z (by decide)
 ·exact Ax2 _ z (by decide)
 ·exact B4o _ z h (AI _) (AI _)
theorem B9n (l:List Leg)(h:l.length≤10)(z:∀g∈l,g.Minutes.length≤10):As (T5 l) (EB 4 15012):=Ask (As7 (F:=λj a=>R5 (j:Int) a) (λ_ _ _=>rfl) l (by omega) λj a A=>(Cat a (z a A)).bind λr hr=>.ok hr) h
theorem Ca6 (w:Way)(h:w.Legs.length≤10)(D:∀g∈w.Legs,g.Minutes.length≤10):As (Yq w) (EB 5 45048):=by
 unfold Yq;refine(B9n _ h D).bind λr hr=>?_;unfold Io;refine(A4p (d:=4) (m:=15012) [(AnyT.a3 w.From),(AnyT.a3 w.To),(AnyT.a185 r)] (by simp) λa A y z=>?_).bind λv O=>.ok (O.2.2.1.le (by simp));simp only[AM,GG,or_false]at A;rcases A with rfl|rfl|rfl
 ·exact Ax2 _ z (by decide)
 ·exact Ax2 _ z (by decide)
 ·exact Bys hr z (AI _) (AI _)
theorem B9r (k:Kind)(h:k.Curfews.length≤10)(D:∀c∈k.Curfews,c.length≤10):As (Yl k) (EB 4 22404):=by
 unfold Yl;refine BO (p:=EB 3 3732) (Ask (As7 (F:=λj a=>Qq (j:Int) a) (λ_ _ _=>rfl) k.Curfews (by omega) λj a A=>(Cah a (D a A)).bind λr hr=>.ok hr) h) λr hr=>?_;unfold Io;refine(A4p (d:=3) (m:=3732) [(AnyT.a3 k.Slow),(AnyT.a3 k.Fast),(AnyT.a3 k.Places),(AnyT.a3 k.Weight),(AnyT.a3 k.Longest),(AnyT.a185 r)] (by simp) λa A y z=>?_).bind λv O=>.ok (O.2.2.1.le (by simp));simp only[AM,GG,or_false]at A;rcases A with rfl|rfl|rfl|rfl|rfl|rfl
 ·exact Ax2 _ z (by decide)
 ·exact Ax2 _ z (by decide)
 ·exact Ax2 _ z (by decide)
 ·exact Ax2 _ z (by decide)
 ·exact Ax2 _ z (by decide)
 ·exact Bys hr z (AI _) (AI _)
theorem B5f (t:Tables)(h:TabF t){e:Int}(Y:Ky t=.ok e):As (Xo t) λr=>r.2=e∧(e=0∨r.1=G3 32 0):=by
 unfold Xo;rw[Y,R.ok_bind];refine AN (λ_=>.ok ⟨rfl,.inr rfl⟩) λh0=>?_;have h0:e=0:=by simpa using h0
 refine BO (p:=EB 3 9228) (Ask (As7 (F:=λj a=>Of (j:Int) a) (λ_ _ _=>rfl) t.Sectors (by have:=h.s;omega) λj a z=>(Caf a (h.sv a z)).bind λr hr=>.ok hr) h.s) λr hr=>?_;refine BO (p:=EB 2 1776) (Ask (As7 (F:=λj a=>Ql (j:Int) a) (λ_ _ _=>rfl) t.Configs (by have:=h.c;omega) λj a z=>(Cau a (h.cs a z)).bind λr hr=>.ok hr) h.c) λr1 S=>?_;refine BO (p:=EB 6 360396) (Ask (As7 (F:=λj a=>Ts (j:Int) a) (λ_ _ _=>rfl) t.Ways (by have:=h.w;omega) λj a z=>(Ca6 a (h.wl a z).1 (h.wl a z).2).bind λr hr=>.ok hr) h.w) λr2 U=>?_;refine BO (p:=EB 2 1524) (Ask (As7 (F:=λj a=>Tz (j:Int) a) (λ_ _ _=>rfl) t.Modes (by have:=h.m;omega) λj a z=>(B9o a (h.ml a z)).bind λr hr=>.ok hr) h.m) λZ V=>?_;refine BO (p:=EB 5 134436) (Ask (As7 (F:=λj a=>Sd (j:Int) a) (λ_ _ _=>rfl) t.Kinds (by have:=h.k;omega) λj a z=>(B9r a (h.kc a z).1 (h.kc a z).2).bind λr hr=>.ok hr) h.k) λr4 W=>?_;refine BO (p:=λv:Value=>v.Kind=3∧EB 7 2162388 v) (by
  unfold Io;refine(A4p (d:=6) (m:=360396) [(AnyT.a3 t.Volumes),(AnyT.a185 r),(AnyT.a185 r1),(AnyT.a185 r2),(AnyT.a185 Z),(AnyT.a185 r4)] (by simp) λa z y A=>?_).mono λv X=>⟨X.1,X.2.2.1.le (by simp)⟩;simp only[AM,GG,or_false]at z;rcases z with rfl|rfl|rfl|rfl|rfl|rfl
  ·exact Ax2 _ A (by decide)
  ·exact Bys hr A (by decide) (by decide)
  ·exact Bys S A (by decide) (by decide)
  ·exact Bys U A (by decide) (by decide)
  ·exact Bys V A (by decide) (by decide)
  ·exact Bys W A (by decide) (by decide)) λr5 D=>?_
 refine(B5l (D.2.ups (by decide)) D.1 (by decide)).bind λr6 O=>?_;rw[if_neg (by simp[O.1])];obtain⟨x,hx,_⟩:=B5a [116,97,98,108,101,115] r6.1 (by decide) (by have:=O.2;omega);rw[hx];exact .ok ⟨h0.symm,.inl h0⟩
variable{b:Nat→α→Unit→R (Unit ⊕ Bool)}
theorem B5g{P:Nat→α→Prop}(A:∀j a,b j a ()=.ok (.inr false)∨(b j a ()=.ok (.inl ())∧P j a)):∀(l:List α) (k:Nat),
  each b k l ()=.ok (.inr false)∨(each b k l ()=.ok (.inl ())∧∀j a,l[j]?=some a→P (k+j) a)
 |[],k=>.inr ⟨rfl,λj a h=>by simp at h⟩
 |a::l,k=>by
  rcases A k a with h|⟨h,D⟩
  ·left;rw[Abg,h];rfl
  ·rcases B5g A l (k+1)with h2|⟨h2,O⟩
   ·left;rw[Abg,h];exact h2
   ·refine .inr ⟨by rw[Abg,h];exact h2,λj x z=>?_⟩;cases j with
    |zero=>simp at z;subst z;exact D
    |succ j=>have:=O j x (by simpa using z);rwa[show k+(j+1)=k+1+j by omega]
theorem B1u{P:Nat→α→Prop}(z:∀j a,b j a ()=.ok (.inr false)∨(b j a ()=.ok (.inl ())∧P j a))(l:List α){g:Unit→R Bool}{Q:Prop}(A:(∀j a,l[j]?=some a→P j a)→As (g ()) λr=>r=true→Q):As ((each b 0 l ()).bind (alt g (λr=>.ok r))) λr=>r=true→Q:=by
 rcases B5g z l 0 with h|⟨h,D⟩
 ·rw[h];exact .ok λh=>by cases h
 ·rw[h];exact A λj a O=>by have:=D j a O;rwa[AG]at this
theorem B3a{p:Nat→α→Bool}(z:∀j a,b j a ()=if p j a=true then .ok (.inr false)else .ok (.inl ()))(j:Nat)(a:α):b j a ()=.ok (.inr false)∨(b j a ()=.ok (.inl ())∧p j a=false):=by
 rw[z];cases p j a with
 |true=>exact .inl rfl
 |false=>exact .inr ⟨rfl,rfl⟩
theorem B7m{c:Nat→α→Unit→R (Unit ⊕ Bool)}{p:Nat→α→Bool}(l:List α)(z:∀j a,c j a ()=if p j a=true then .ok (.inr false)else .ok (.inl ())):
  (each c 0 l ()).bind (alt (λ_=>.ok (.inl ())) (λr=>.ok (.inr r)))=(.ok (.inr false):R (Unit ⊕ Bool))∨((each c 0 l ()).bind (alt (λ_=>.ok (.inl ())) (λr=>.ok (.inr r)))=(.ok (.inl ()):R (Unit ⊕ Bool))∧∀j a,l[j]?=some a→p j a=false):=by
 rcases B5g (B3a z) l 0 with h|⟨h,A⟩
 ·left;rw[h];rfl
 ·exact .inr ⟨by rw[h];rfl,λj a D=>by have:=A j a D;rwa[AG]at this⟩
theorem ten{l:List α}{q:α→Bool}(h:∀(j:Nat) a,l[j]?=some a→(decide ((j:Int)≥10)||q a)=false):l.length≤10∧∀a∈l,q a=false:=by
 constructor
 ·rcases BZ 10 l.length with h1|h1
  ·have:=h 10 l[10] (AA h1);simp at this
  ·exact h1
 ·intro a z;obtain⟨j,A⟩:=DJ.1 z;have:=h j a A;simp only[DO]at this;exact this.2
theorem B8o (t:Tables):As (Bli t) λb=>b=true→TabF t:=by
 unfold Bli;refine B1u (P:=λ_ (a:Way)=>∀(j:Nat) g,a.Legs[j]?=some g→(decide ((j:Int)≥10)||decide ((g.Minutes.length:Int)>10))=false) (λj a=>B7m a.Legs λ_ _=>rfl) t.Ways λh1=>?_;refine B1u (P:=λ_ (a:Kind)=>∀(j:Nat) g,a.Curfews[j]?=some g→(decide ((j:Int)≥10)||decide ((g.length:Int)>10))=false) (λj a=>B7m a.Curfews λ_ _=>rfl) t.Kinds λh2=>?_;refine B1u (B3a (p:=λ_ a=>decide ((a.length:Int)>20)) λj a=>by simp only[Bmy,AK]) t.Modes λS=>?_;refine BO (p:=λb=>b=true→(t.Sectors.length≤12∧(∀x∈t.Sectors,x.Volumes.length≤10))∧t.Configs.length≤7∧∀x∈t.Configs,x.Sectors.length≤10) ?_ λb D=>.ok λh=>?_
 ·refine AN (λ_=>?_) λ_=>.ok λh=>by cases h
  refine BO (p:=λb=>b=true→(t.Sectors.length≤12∧(∀x∈t.Sectors,x.Volumes.length≤10))∧t.Configs.length≤7∧∀x∈t.Configs,x.Sectors.length≤10) ?_ λb D=>.ok D
  unfold Af5
  refine B1u (B3a (p:=λ_ a=>decide ((a.Volumes.length:Int)>10)) λj a=>by simp only[Aiv,AK]) _ λU=>?_
  refine B1u (B3a (p:=λ_ a=>decide ((a.Sectors.length:Int)>10)) λj a=>by simp only[Aka,AK]) _ λV=>.ok λh=>?_
  simp only[AH,AK]at h
  refine⟨⟨by omega,λx z=>?_⟩,by omega,λx z=>?_⟩
  ·obtain⟨j,A⟩:=DJ.1 z;have:=U j x A;simp only[BS]at this;omega
  ·obtain⟨j,A⟩:=DJ.1 z;have:=V j x A;simp only[BS]at this;omega
 ·simp only[AH,AK]at h;obtain⟨⟨⟨O,h6⟩,h7⟩,h8⟩:=h;obtain⟨⟨W,X⟩,Y,Z⟩:=D O;refine⟨W,X,Y,Z,by omega,λx z=>?_,by omega,λx z=>?_,by omega,λx z=>?_⟩
  ·obtain⟨j,A⟩:=DJ.1 z;obtain⟨a,b⟩:=ten (h1 j x A);exact⟨a,λg R=>by have:=b g R;simp only[BS]at this;omega⟩
  ·obtain⟨j,A⟩:=DJ.1 z;have:=S j x A;simp only[BS]at this;omega
  ·obtain⟨j,A⟩:=DJ.1 z;obtain⟨a,b⟩:=ten (h2 j x A);exact⟨a,λg R=>by have:=b g R;simp only[BS]at this;omega⟩
theorem B3w{b:Nat→List α→R (List α)}{f:α→α}(z:∀j l a,l[j]?=some a→b j l=.ok (l.set j (f a)))(l:List α):eachS (λj _=>λs=>b j s) 0 l l=.ok (l.map f):=by
 have h:∀(l r s:List α) (k:Nat),r.length=k→eachS (λj (_:α)=>λs=>b j s) k l (r++l)=.ok (r++l.map f):=by
  intro l;induction l with
  |nil=>intro r s k hk;rw[Anw];rfl
  |cons a l A=>
   intro r s k hk;rw[Ic,z k (r++a::l) a (by rw[←hk];simp)];rw[R.ok_bind];have e:(r++a::l).set k (f a)=(r++[f a])++l:=by rw[←hk];simp
   rw[e,A (r++[f a]) s (k+1) (by simp[hk])];simp
 exact h l [] [] 0 rfl
theorem law_AirspaceDigest (U:Acu=.ok true):Acg:=by
 intro t name _ X V;unfold Agr;rw[U,R.ok_bind,if_pos rfl];obtain⟨b,W,z⟩:=B8o t;rw[W,R.ok_bind];cases b with
 |false=>rfl
 |true=>
  have z:=z rfl;rw[if_pos rfl];obtain⟨e,O,_⟩:=A7g t;obtain⟨d,S,h1,h2⟩:=B5f t z O;rw[S,R.ok_bind,O,R.ok_bind,if_neg (by simp[h1])];rw[if_pos (by have:=z.s;unfold Bj;omega),if_pos (by have:=z.c;unfold Bj;omega)];rw[B3w (b:=λj l=>Ov name j l) (f:=sN name) (λj l a A=>by unfold Ov We;have D:=A6 A;rw[Zo A,R.ok_bind,AX,Zo (a:={a with Name:=name}) (by simp[D]),R.ok_bind,IN];rfl),R.ok_bind];rw[B3w (b:=λj l=>I9 name j l) (f:=cN name) (λj l a A=>by unfold I9 Xd;have D:=A6 A;rw[Zo A,R.ok_bind,AX,Zo (a:={a with Name:=name}) (by simp[D]),R.ok_bind,IN];rfl),R.ok_bind];rw[show({Volumes:=t.Volumes,Sectors:=t.Sectors.map (sN name),Configs:=t.Configs.map (cN name),Ways:=t.Ways,Modes:=t.Modes,Kinds:=t.Kinds}:Tables)=tN name t from rfl,B7h,S,R.ok_bind];simp only[EH,DH];rw[show(d.2==0||d.1==(#v[0,0,0,0,0,0,0,0,0,0,0,0,0,0,0,0,0,0,0,0,0,0,0,0,0,0,0,0,0,0,0,0]:Vector Int 32))=true from ?_];rw[BQ];rcases h2 with h2|h2
  ·exact .inl (by rw[h1,h2];rfl)
  ·exact .inr (by rw[h2];decide)
end Go.Am
