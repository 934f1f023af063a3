/- Written by shrink.py from texts of ours: comments struck, what is not reached left out, names short. -/
import Derived.Test.YtcpfebjhnbjfbaaGreatDoorTh
import Derived.Test.YtcpfebjhnbjfbaaGreatDoorTj
import Derived.Test.YtcpfebjhnbjfbaaGreatDoorTk
set_option linter.unusedSimpArgs false
set_option linter.unusedVariables false
set_option linter.unusedSectionVars false
set_option linter.defProp false
set_option maxHeartbeats 4000000
set_option maxRecDepth 100000
open Go.Proofs.Tryz
namespace Go.Am
open Go
noncomputable section
def Ao4 (a1:Volume)(l:List Volume):R (List Volume):=if(l.length+[({Name:=[],Closed:=a1.Closed}:Volume)].length)*40≤Bj then .ok (l++[({Name:=[],Closed:=a1.Closed}:Volume)])else .bad
def Amh (a2:Sector)(l1:List Sector):R (List Sector):=if(l1.length+[({Name:=[],Names:=[],Volumes:=a2.Volumes,Radar:=a2.Radar,Procedural:=a2.Procedural}:Sector)].length)*80≤Bj then .ok (l1++[({Name:=[],Names:=[],Volumes:=a2.Volumes,Radar:=a2.Radar,Procedural:=a2.Procedural}:Sector)])else .bad
def Anq (a3:Config)(z:List Config):R (List Config):=if(z.length+[({Name:=[],Names:=[],Sectors:=a3.Sectors}:Config)].length)*64≤Bj then .ok (z++[({Name:=[],Names:=[],Sectors:=a3.Sectors}:Config)])else .bad
def Apc (z:Segment)(A:List Segment):R (List Segment):=if(A.length+[({Name:=[],In:=[],Volume:=z.Volume,Length:=z.Length,Open:=z.Open}:Segment)].length)*72≤Bj then .ok (A++[({Name:=[],In:=[],Volume:=z.Volume,Length:=z.Length,Open:=z.Open}:Segment)])else .bad
def Al7 (z:Route)(D:List Route):R (List Route):=if(D.length+[({Name:=[],A:=[],B:=[],From:=z.From,To:=z.To,Names:=[],Segments:=z.Segments}:Route)].length)*112≤Bj then .ok (D++[({Name:=[],A:=[],B:=[],From:=z.From,To:=z.To,Names:=[],Segments:=z.Segments}:Route)])else .bad
def Alq (z:Mode)(A:List Mode):R (List Mode):=if(A.length+[({Name:=[],Places:=z.Places}:Mode)].length)*24≤Bj then .ok (A++[({Name:=[],Places:=z.Places}:Mode)])else .bad
def Th (D:Airport)(A:List Airport):R (List Airport):=(eachS (λ_ O=>λz=>Alq O z) 0 D.Modes []).bind ((λz=>if(A.length+[({Name:=[],Modes:=z}:Airport)].length)*40≤Bj then .ok (A++[({Name:=[],Modes:=z}:Airport)])else .bad))
def Apa (z:Class)(A:List Class):R (List Class):=if(A.length+[({Name:=[],Slow:=z.Slow,Fast:=z.Fast,Places:=z.Places}:Class)].length)*40≤Bj then .ok (A++[({Name:=[],Slow:=z.Slow,Fast:=z.Fast,Places:=z.Places}:Class)])else .bad
def Al9 (z:Rule)(D:List Rule):R (List Rule):=if(D.length+[({Kind:=z.Kind,C:=[],A:=[],Class:=z.Class,Airport:=z.Airport,N:=z.N,Hours:=z.Hours}:Rule)].length)*80≤Bj then .ok (D++[({Kind:=z.Kind,C:=[],A:=[],Class:=z.Class,Airport:=z.Airport,N:=z.N,Hours:=z.Hours}:Rule)])else .bad
def Ai7 (a:Airspace):R Bool:=(Acu).bind λr=>if r then
((Aab a).bind λr1=>if r1 then
((eachS (λ_ a1=>λl=>Ao4 a1 l) 0 a.Volumes []).bind ((λl=>(eachS (λ_ a2=>λl1=>Amh a2 l1) 0 a.Sectors []).bind ((λl1=>(eachS (λ_ a3=>λz=>Anq a3 z) 0 a.Configs []).bind ((λz=>(eachS (λ_ W=>λA=>Apc W A) 0 a.Segments []).bind ((λA=>(eachS (λ_ X=>λD=>Al7 X D) 0 a.Routes []).bind ((λD=>(eachS (λ_ Y=>λO=>Th Y O) 0 a.Airports []).bind ((λO=>(eachS (λ_ Z=>λS=>Apa Z S) 0 a.Classes []).bind ((λS=>(eachS (λ_ a9=>λU=>Al9 a9 U) 0 a.Rules []).bind ((λU=>(N6 a).bind λr2=>
 (N6 ({Volumes:=l,Sectors:=l1,Configs:=z,Segments:=A,Routes:=D,Airports:=O,Classes:=S,Rules:=U}:Airspace)).bind λV=>
 (if(r2.2==V.2)then(S7 r2.1 V.1).bind λr4=>
 R.ok r4 else R.ok false).bind (λ(b:Bool)=>.ok b))))))))))))))))))
else
(.ok true))
else
(.ok false)
end
end Go.Am
namespace Go.Am
open Go Go.Proofs Go.Proofs.Tryz
attribute [local irreducible] WR WO WP WU Nu
instance Bp0 (a):CP prog 6 [.A (Aj a)] (Ai7 a) AV.bool:=by
 refine ci 218 23 func6 (Ai7.eq_1 _) λh0 ids z hF=>go ?_;intro g r _;refine N8 O (λhc=>?_) (λhc=>?_)
 ·refine go ?_;intro r1 _;refine N8 O (λbe=>?_) (λbe=>?_)
  ·refine go ?_;intro g1 _;refine Kl (g0:=0) [1,3,34,35] 36 3 (λl=>l) (λl v=>[]) (λl v g2=>[Ab g 8 [Aj a],Ab g1 8 [[v,.emp,.emp,.emp,.emp,.emp,.emp,.emp]],none,Ccu v g2 2 Ba l,none,none,none,none,none,none,none,none,none,none,none,none,none,none,none,none,none,none,none]) .nil ?_ ?_
   ·rintro j a1 l v g2 ao _ vH W hW;refine Ae (Ao4.eq_1 _ _)<|By ?_;refine Ah<|Bl (.B (decide ((j:Int)<(a.Volumes.length:Int))))<|Ad<|Ai<|Fs (t:=34) (L:=a.Volumes) O λb8=>Co O (AQ.2 (A6 ao))<|A8<|Ai<|A3<|Ah<|Au (.cp (Ba a1) 0) O (Ay (Ex Bxw.eq Byh.eq O ao))<|Bl (.A (Ba a1))<|D9 2 Byh.eq λg3=>Gk (.A (Ba a1)) ?_;refine Ad<|Bv ?_;refine A4<|Ao 5 [1,2] [(44,.A [.str [],.L 2 Ax a1.Closed]),(41,v)]<|Ch (e:=Ba) (L:=[({Name:=[],Closed:=a1.Closed}:Volume)]) (st:=2) (rows:=[[.str [],.L 2 Ax a1.Closed]]) O Bxw.eq Byh.eq O O O O O (.cons .s2 .nil) (λx=>Agb x) O O<|Cf λhl=>Ce (e:=Ba) (L:=l) (L2:=[({Name:=[],Closed:=a1.Closed}:Volume)]) (v:=v) (g:=g2) (st:=2) (j:=3) z O O O O vH O (B7 O) Bxw.eq Bxw.eq O Byh.eq O O O hl λv1 g4 bf=>Bl (.q ids 1 g1)<|Cw (De bf z O O O O Bxw.eq O O O)<|go ?_;refine Ck 4<|Hx hW
   rintro l v g2 vH;refine go ?_;intro _;refine Kl (g0:=0) [1,3,50,51] 52 5 (λl1=>l1) (λl1 v2=>[]) (λl1 v2 g5=>[Ab g 8 [Aj a],Ab g1 8 [[v,v2,.emp,.emp,.emp,.emp,.emp,.emp]],none,Ccu v g2 2 Ba l,none,Ccu v2 g5 5 Br l1,none,none,none,none,none,none,none,none,none,none,none,none,none,none,none,none,none]) .nil ?_ ?_
   ·rintro j1 a2 l1 v2 g5 ap _ ak W bg;refine Ae (Amh.eq_1 _ _)<|By ?_;refine Ah<|Bl (.B (decide ((j1:Int)<(a.Sectors.length:Int))))<|Ad<|Ai<|Fs (t:=50) (L:=a.Sectors) O λbh=>Co O (AQ.2 (A6 ap))<|A8<|Ai<|A3<|Ah<|Au (.cp (Br a2) 0) O (Ay (Ex Tt.eq Bxl.eq O ap))<|Bl (.A (Br a2))<|D9 4 Bxl.eq λg6=>Gk (.A (Br a2)) ?_;refine Ad<|Bv ?_;refine A4<|Ao 9 [1,4,4,4] [(64,.A [.str [],.emp,.K a2.Volumes,.I a2.Radar,.I a2.Procedural]),(57,v2)]<|Ch (e:=Br) (L:=[({Name:=[],Names:=[],Volumes:=a2.Volumes,Radar:=a2.Radar,Procedural:=a2.Procedural}:Sector)]) (st:=5) (rows:=[[.str [],.emp,.K a2.Volumes,.I a2.Radar,.I a2.Procedural]]) O Tt.eq Bxl.eq O O O O O (.cons (.s (.cons (.emp _) (.s .s2))) .nil) (λx=>Vs x) O O<|Cf λbi=>Ce (e:=Br) (L:=l1) (L2:=[({Name:=[],Names:=[],Volumes:=a2.Volumes,Radar:=a2.Radar,Procedural:=a2.Procedural}:Sector)]) (v:=v2) (g:=g5) (st:=5) (j:=5) z O O O O ak O (B7 O) Tt.eq Tt.eq O Bxl.eq O O O bi λv3 g7 bj=>Bl (.ptr (ix ids 1) g1 0 1)<|Cw (De bj z O O O O Tt.eq O O O)<|go ?_;refine Ck 16<|Hx bg
   rintro l1 v2 g5 ak;refine go ?_;intro _;refine Kl (g0:=0) [1,3,70,71] 72 7 (λl2=>l2) (λl2 S=>[]) (λl2 S g8=>[Ab g 8 [Aj a],Ab g1 8 [[v,v2,S,.emp,.emp,.emp,.emp,.emp]],none,Ccu v g2 2 Ba l,none,Ccu v2 g5 5 Br l1,none,Ccu S g8 3 Bz l2,none,none,none,none,none,none,none,none,none,none,none,none,none,none,none]) .nil ?_ ?_
   ·rintro j2 a3 l2 S g8 aq _ al W bk;refine Ae (Anq.eq_1 _ _)<|By ?_;refine Ah<|Bl (.B (decide ((j2:Int)<(a.Configs.length:Int))))<|Ad<|Ai<|Fs (t:=70) (L:=a.Configs) O λbl=>Co O (AQ.2 (A6 aq))<|A8<|Ai<|A3<|Ah<|Au (.cp (Bz a3) 0) O (Ay (Ex Xv.eq Bx3.eq O aq))<|Bl (.A (Bz a3))<|D9 6 Bx3.eq λg9=>Gk (.A (Bz a3)) ?_;refine Ad<|Bv ?_;refine A4<|Ao 5 [1,6] [(80,.A [.str [],.emp,.K a3.Sectors]),(77,S)]<|Ch (e:=Bz) (L:=[({Name:=[],Names:=[],Sectors:=a3.Sectors}:Config)]) (st:=3) (rows:=[[.str [],.emp,.K a3.Sectors]]) O Xv.eq Bx3.eq O O O O O (.cons (.s (.cons (.emp _) .s1)) .nil) (λx=>Vp x) O O<|Cf λbm=>Ce (e:=Bz) (L:=l2) (L2:=[({Name:=[],Names:=[],Sectors:=a3.Sectors}:Config)]) (v:=S) (g:=g8) (st:=3) (j:=7) z O O O O al O (B7 O) Xv.eq Xv.eq O Bx3.eq O O O bm λv5 b9 bn=>Bl (.ptr (ix ids 1) g1 0 2)<|Cw (De bn z O O O O Xv.eq O O O)<|go ?_;refine Ck 64<|Hx bk
   rintro l2 S g8 al;refine go ?_;intro _;refine Kl (g0:=0) [1,3,86,87] 88 9 (λl3=>l3) (λl3 V=>[]) (λl3 V U=>[Ab g 8 [Aj a],Ab g1 8 [[v,v2,S,V,.emp,.emp,.emp,.emp]],none,Ccu v g2 2 Ba l,none,Ccu v2 g5 5 Br l1,none,Ccu S g8 3 Bz l2,none,Ccu V U 5 C3 l3,none,none,none,none,none,none,none,none,none,none,none,none,none]) .nil ?_ ?_
   ·rintro j3 a4 l3 V U ar _ am W bo;refine Ae (Apc.eq_1 _ _)<|By ?_;refine Ah<|Bl (.B (decide ((j3:Int)<(a.Segments.length:Int))))<|Ad<|Ai<|Fs (t:=86) (L:=a.Segments) O λbp=>Co O (AQ.2 (A6 ar))<|A8<|Ai<|A3<|Ah<|Au (.cp (C3 a4) 0) O (Ay (Ex Vb.eq Bxo.eq O ar))<|Bl (.A (C3 a4))<|D9 8 Bxo.eq λca=>Gk (.A (C3 a4)) ?_;refine Ad<|Bv ?_;refine A4<|Ao 9 [1,8,8,8] [(100,.A [.str [],.str [],.I a4.Volume,.I a4.Length,.L 2 Ax a4.Open]),(93,V)]<|Ch (e:=C3) (L:=[({Name:=[],In:=[],Volume:=a4.Volume,Length:=a4.Length,Open:=a4.Open}:Segment)]) (st:=5) (rows:=[[.str [],.str [],.I a4.Volume,.I a4.Length,.L 2 Ax a4.Open]]) O Vb.eq Bxo.eq O O O O O (.cons (.s (.s (.s .s2))) .nil) (λx=>Adf x) O O<|Cf λbq=>Ce (e:=C3) (L:=l3) (L2:=[({Name:=[],In:=[],Volume:=a4.Volume,Length:=a4.Length,Open:=a4.Open}:Segment)]) (v:=V) (g:=U) (st:=5) (j:=9) z O O O O am O (B7 O) Vb.eq Vb.eq O Bxo.eq O O O bq λv7 cb br=>Bl (.ptr (ix ids 1) g1 0 3)<|Cw (De br z O O O O Vb.eq O O O)<|go ?_;refine Ck 256<|Hx bo
   rintro l3 V U am;refine go ?_;intro _;refine Kl (g0:=0) [1,3,106,107] 108 11 (λl4=>l4) (λl4 Z=>[]) (λl4 Z X=>[Ab g 8 [Aj a],Ab g1 8 [[v,v2,S,V,Z,.emp,.emp,.emp]],none,Ccu v g2 2 Ba l,none,Ccu v2 g5 5 Br l1,none,Ccu S g8 3 Bz l2,none,Ccu V U 5 C3 l3,none,Ccu Z X 7 Ed l4,none,none,none,none,none,none,none,none,none,none,none]) .nil ?_ ?_
   ·rintro j4 a5 l4 Z X au _ an W bs;refine Ae (Al7.eq_1 _ _)<|By ?_;refine Ah<|Bl (.B (decide ((j4:Int)<(a.Routes.length:Int))))<|Ad<|Ai<|Fs (t:=106) (L:=a.Routes) O λbt=>Co O (AQ.2 (A6 au))<|A8<|Ai<|A3<|Ah<|Au (.cp (Ed a5) 0) O (Ay (Ex Ags.eq Yc.eq O au))<|Bl (.A (Ed a5))<|D9 10 Yc.eq λcc=>Gk (.A (Ed a5)) ?_;refine Ad<|Bv ?_;refine A4<|Ao 9 [1,10,10,10] [(120,.A [.str [],.str [],.str [],.I a5.From,.I a5.To,.emp,.K a5.Segments]),(113,Z)]<|Ch (e:=Ed) (L:=[({Name:=[],A:=[],B:=[],From:=a5.From,To:=a5.To,Names:=[],Segments:=a5.Segments}:Route)]) (st:=7) (rows:=[[.str [],.str [],.str [],.I a5.From,.I a5.To,.emp,.K a5.Segments]]) O Ags.eq Yc.eq O O O O O (.cons (.s (.s (.s (.s (.s (.cons (.emp _) .s1)))))) .nil) (λx=>Aiw x) O O<|Cf λbu=>Ce (e:=Ed) (L:=l4) (L2:=[({Name:=[],A:=[],B:=[],From:=a5.From,To:=a5.To,Names:=[],Segments:=a5.Segments}:Route)]) (v:=Z) (g:=X) (st:=7) (j:=11) z O O O O an O (B7 O) Ags.eq Ags.eq O Yc.eq O O O bu λv9 cd bv=>Bl (.ptr (ix ids 1) g1 0 4)<|Cw (De bv z O O O O Ags.eq O O O)<|go ?_;refine Ck 1024<|Hx bs
   rintro l4 Z X an;refine go ?_;intro _;refine Kl (g0:=0) [1,3,126,127] 128 16 (λl5=>l5) (λl5 D=>[]) (λl5 D aa=>[Ab g 8 [Aj a],Ab g1 8 [[v,v2,S,V,Z,D,.emp,.emp]],none,Ccu v g2 2 Ba l,none,Ccu v2 g5 5 Br l1,none,Ccu S g8 3 Bz l2,none,Ccu V U 5 C3 l3,none,Ccu Z X 7 Ed l4,none,none,none,none,Ccu D aa 2 Dh l5,none,none,none,none,none,none]) .nil ?_ ?_
   ·rintro j5 a6 l5 D aa av _ ad W ce;refine Ae (Th.eq_1 _ _)<|By ?_;refine Ah<|Bl (.B (decide ((j5:Int)<(a.Airports.length:Int))))<|Ad<|Ai<|Fs (t:=126) (L:=a.Airports) O λbw=>Co O (AQ.2 (A6 av))<|A8<|Ai<|A3<|Ah<|Au (.cp (Dh a6) 0) O (Ay (Ex Ab9.eq A7v.eq O av))<|Bl (.A (Dh a6))<|D9 12 A7v.eq λcf=>Gk (.A (Dh a6)) ?_;refine Ad<|Bv ?_;refine Ah<|Bl (.A [.str [],.emp])<|D9 13 A7v.eq λaw=>go ?_;intro _;refine Ck 4096<|Kl (g0:=0) [1,3,16,126,127,128,134,135] 136 15 (λl6=>l6) (λl6 ab=>[]) (λl6 ab ai=>[Ab g 8 [Aj a],Ab g1 8 [[v,v2,S,V,Z,D,.emp,.emp]],none,Ccu v g2 2 Ba l,none,Ccu v2 g5 5 Br l1,none,Ccu S g8 3 Bz l2,none,Ccu V U 5 C3 l3,none,Ccu Z X 7 Ed l4,none,Ab aw 2 [[.str [],ab]],none,Ccu ab ai 2 Qk l6,Ccu D aa 2 Dh l5,none,none,none,none,none,none]) .nil ?_ ?_
    ·rintro j6 a7 l6 ab ai ax _ ae W bx;refine Ae (Alq.eq_1 _ _)<|By ?_;refine Ah<|Bl (.B (decide ((j6:Int)<(a6.Modes.length:Int))))<|Ad<|Ai<|Fs (t:=134) (L:=a6.Modes) O λbz=>Co O (AQ.2 (A6 ax))<|A8<|Ai<|A3<|Ah<|Au (.cp (Qk a7) 0) O (Ay (Ex Bxm.eq Bxh.eq O ax))<|Bl (.A (Qk a7))<|D9 14 Bxh.eq λcg=>Gk (.A (Qk a7)) ?_;refine Ad<|Bv ?_;refine A4<|Ao 5 [13,14] [(144,.A [.str [],.I a7.Places]),(141,ab)]<|Ch (e:=Qk) (L:=[({Name:=[],Places:=a7.Places}:Mode)]) (st:=2) (rows:=[[.str [],.I a7.Places]]) O Bxm.eq Bxh.eq O O O O O (.cons .s2 .nil) (λx=>A5w x) O O<|Cf λb0=>Ce (e:=Qk) (L:=l6) (L2:=[({Name:=[],Places:=a7.Places}:Mode)]) (v:=ab) (g:=ai) (st:=2) (j:=15) z O O O O ae O (B7 O) Bxm.eq Bxm.eq O Bxh.eq O O O b0 λch cj ay=>Bl (.ptr (ix ids 13) aw 0 1)<|Cw (De ay z O O O O Bxm.eq O O O)<|go ?_;refine Ck 16384<|Hx bx
    rintro l6 ab ai ae;refine By ?_;refine Ah<|Bl (.B (decide ((a6.Modes.length:Int)<(a6.Modes.length:Int))))<|Ad<|Ai<|Eb O (BH _)<|Di O<|A4<|Ao 3 [1,13] [(151,.A [.str [],ab]),(150,D)]<|Bb7 (h2:=hp h0 ids [Ab g 8 [Aj a],Ab g1 8 [[v,v2,S,V,Z,D,.emp,.emp]],none,Ccu v g2 2 Ba l,none,Ccu v2 g5 5 Br l1,none,Ccu S g8 3 Bz l2,none,Ccu V U 5 C3 l3,none,Ccu Z X 7 Ed l4,none,none,none,none,Ccu D aa 2 Dh l5,none,none,none,none,none,none]) [(1,.q ids 0 g),(3,.q ids 1 g1),(126,.L 2 Dh a.Airports),(127,.I (a.Airports.length:Int)),(128,.I j5),(150,D),(151,.A (Dh ({Name:=[],Modes:=l6}:Airport)))] (HS (.keep (.keep (.keep (.keep (.keep (.keep (.keep (.keep (.keep (.keep (.keep (.keep (.keep (.drop (.keep (.drop (.keep (.keep (.keep (.keep (.keep (.keep (.keep .nil))))))))))))))))))))))) z.len) (.s (.s (.s (.s (.s (.s (.cons (.aggL (.s (.cons (Ca ae (z.at O O) (z.at O O) (λx=>A5w x)) .nil))) .nil))))))) O O<|Ch (e:=Dh) (L:=[({Name:=[],Modes:=l6}:Airport)]) (st:=2) (rows:=[[.str ({Name:=[],Modes:=l6}:Airport).Name,.sl 2 (List.map Qk ({Name:=[],Modes:=l6}:Airport).Modes)]]) O Ab9.eq A7v.eq O O O O O (.cons (AC _) .nil) (λx=>Anr x) O O<|Cf λb1=>Ce (e:=Dh) (L:=l5) (L2:=[({Name:=[],Modes:=l6}:Airport)]) (v:=D) (g:=aa) (st:=2) (j:=16) z O O O O ad O (B7 O) Ab9.eq Ab9.eq O A7v.eq O O O b1 λck cl az=>Bl (.ptr (ix ids 1) g1 0 5)<|Cw (De az z O O O O Ab9.eq O O O)<|gc
   rintro l5 D aa ad;refine go ?_;intro _;refine Kl (g0:=0) [1,3,157,158] 159 18 (λl7=>l7) (λl7 Y=>[]) (λl7 Y af=>[Ab g 8 [Aj a],Ab g1 8 [[v,v2,S,V,Z,D,Y,.emp]],none,Ccu v g2 2 Ba l,none,Ccu v2 g5 5 Br l1,none,Ccu S g8 3 Bz l2,none,Ccu V U 5 C3 l3,none,Ccu Z X 7 Ed l4,none,none,none,none,Ccu D aa 2 Dh l5,none,Ccu Y af 4 E2 l7,none,none,none,none]) .nil ?_ ?_
   ·rintro j7 a8 l7 Y af a0 _ ag W b2;refine Ae (Apa.eq_1 _ _)<|By ?_;refine Ah<|Bl (.B (decide ((j7:Int)<(a.Classes.length:Int))))<|Ad<|Ai<|Fs (t:=157) (L:=a.Classes) O λb3=>Co O (AQ.2 (A6 a0))<|A8<|Ai<|A3<|Ah<|Au (.cp (E2 a8) 0) O (Ay (Ex Ajt.eq Byr.eq O a0))<|Bl (.A (E2 a8))<|D9 17 Byr.eq λcm=>Gk (.A (E2 a8)) ?_;refine Ad<|Bv ?_;refine A4<|Ao 9 [1,17,17,17] [(171,.A [.str [],.I a8.Slow,.I a8.Fast,.I a8.Places]),(164,Y)]<|Ch (e:=E2) (L:=[({Name:=[],Slow:=a8.Slow,Fast:=a8.Fast,Places:=a8.Places}:Class)]) (st:=4) (rows:=[[.str [],.I a8.Slow,.I a8.Fast,.I a8.Places]]) O Ajt.eq Byr.eq O O O O O (.cons (.s (.s .s2)) .nil) (λx=>Asy x) O O<|Cf λb4=>Ce (e:=E2) (L:=l7) (L2:=[({Name:=[],Slow:=a8.Slow,Fast:=a8.Fast,Places:=a8.Places}:Class)]) (v:=Y) (g:=af) (st:=4) (j:=18) z O O O O ag O (B7 O) Ajt.eq Ajt.eq O Byr.eq O O O b4 λcn co ba=>Bl (.ptr (ix ids 1) g1 0 6)<|Cw (De ba z O O O O Ajt.eq O O O)<|go ?_;refine Ck 131072<|Hx b2
   rintro l7 Y af ag;refine go ?_;intro _;refine Kl (g0:=0) [1,3,177,178] 179 20 (λl8=>l8) (λl8 ac=>[]) (λl8 ac aj=>[Ab g 8 [Aj a],Ab g1 8 [[v,v2,S,V,Z,D,Y,ac]],none,Ccu v g2 2 Ba l,none,Ccu v2 g5 5 Br l1,none,Ccu S g8 3 Bz l2,none,Ccu V U 5 C3 l3,none,Ccu Z X 7 Ed l4,none,none,none,none,Ccu D aa 2 Dh l5,none,Ccu Y af 4 E2 l7,none,Ccu ac aj 8 Bk l8,none,none]) .nil ?_ ?_
   ·rintro j8 R l8 ac aj bb _ ah W b5;refine Ae (Al9.eq_1 _ _)<|By ?_;refine Ah<|Bl (.B (decide ((j8:Int)<(a.Rules.length:Int))))<|Ad<|Ai<|Fs (t:=177) (L:=a.Rules) O λb6=>Co O (AQ.2 (A6 bb))<|A8<|Ai<|A3<|Ah<|Au (.cp (Bk R) 0) O (Ay (Ex Ahg.eq Byl.eq O bb))<|Bl (.A (Bk R))<|D9 19 Byl.eq λcp=>Gk (.A (Bk R)) ?_;refine Ad<|Bv ?_;refine A4<|Ao 13 [1,19,19,19,19,19] [(195,.A [.I R.Kind,.str [],.str [],.I R.Class,.I R.Airport,.I R.N,.I R.Hours.From,.I R.Hours.To]),(184,ac)]<|Ch (e:=Bk) (L:=[({Kind:=R.Kind,C:=[],A:=[],Class:=R.Class,Airport:=R.Airport,N:=R.N,Hours:=R.Hours}:Rule)]) (st:=8) (rows:=[[.I R.Kind,.str [],.str [],.I R.Class,.I R.Airport,.I R.N,.I R.Hours.From,.I R.Hours.To]]) O Ahg.eq Byl.eq O O O O O (.cons (.s (.s (.s (.s (.s (.s .s2)))))) .nil) (λx=>Abp x) O O<|Cf λb7=>Ce (e:=Bk) (L:=l8) (L2:=[({Kind:=R.Kind,C:=[],A:=[],Class:=R.Class,Airport:=R.Airport,N:=R.N,Hours:=R.Hours}:Rule)]) (v:=ac) (g:=aj) (st:=8) (j:=20) z O O O O ah O (B7 O) Ahg.eq Ahg.eq O Byl.eq O O O b7 λcq cr bc=>Bl (.ptr (ix ids 1) g1 0 7)<|Cw (De bc z O O O O Ahg.eq O O O)<|go ?_;refine Ck 524288<|Hx b5
   rintro l8 ac aj ah;refine By ?_;refine Ah<|Bl (.B (decide ((a.Rules.length:Int)<(a.Rules.length:Int))))<|Ad<|Ai<|Eb O (BH _)<|Di O<|Ah<|Ao 1 [0] [(201,.A (Aj a))]<|oc ((Arv a) _) λr2 _=>Ao 3 [] [(204,.I r2.2),(203,.A (B9 r2.1))]<|D9 21 Az3.eq λbd=>go ?_;refine Bb7 (h2:=hp h0 ids [Ab g 8 [Aj a],none,none,none,none,none,none,none,none,none,none,none,none,none,none,none,none,none,none,none,none,Ab bd 6 [B9 r2.1],none]) [(23,.q ids 21 bd),(24,.I r2.2),(206,.A (Aj ({Volumes:=l,Sectors:=l1,Configs:=l2,Segments:=l3,Routes:=l4,Airports:=l5,Classes:=l7,Rules:=l8}:Airspace)))] (HS (.keep (.drop (.keep (.drop (.keep (.drop (.keep (.drop (.keep (.drop (.keep (.drop (.keep (.keep (.keep (.keep (.drop (.keep (.drop (.keep (.drop (.keep (.keep .nil))))))))))))))))))))))) z.len) (.s (.s (.cons (.aggL (.cons (Ca vH (z.at O O) (z.at O O) (λx=>Agb x)) (.cons (Ca ak (z.at O O) (z.at O O) (λx=>Vs x)) (.cons (Ca al (z.at O O) (z.at O O) (λx=>Vp x)) (.cons (Ca am (z.at O O) (z.at O O) (λx=>Adf x)) (.cons (Ca an (z.at O O) (z.at O O) (λx=>Aiw x)) (.cons (Ca ad (z.at O O) (z.at O O) (λx=>Anr x)) (.cons (Ca ag (z.at O O) (z.at O O) (λx=>Asy x)) (.cons (Ca ah (z.at O O) (z.at O O) (λx=>Abp x)) .nil))))))))) .nil))) O O<|gc
  exact gc
 exact gc
end Go.Am
namespace Go.Am
open Go
def Aeo:Prop:=∀(z:Airspace) (_:Ahm.good z),Ahm.bulk z≤1048576→Ai7 z=.ok true
def zV (x:Volume):Volume:={Name:=[],Closed:=x.Closed}
def zG (x:Segment):Segment:={Name:=[],In:=[],Volume:=x.Volume,Length:=x.Length,Open:=x.Open}
def zR (x:Route):Route:={Name:=[],A:=[],B:=[],From:=x.From,To:=x.To,Names:=[],Segments:=x.Segments}
def zM (x:Mode):Mode:={Name:=[],Places:=x.Places}
def zP (x:Airport):Airport:={Name:=[],Modes:=x.Modes.map zM}
def zK (x:Class):Class:={Name:=[],Slow:=x.Slow,Fast:=x.Fast,Places:=x.Places}
def zU (x:Rule):Rule:={Kind:=x.Kind,C:=[],A:=[],Class:=x.Class,Airport:=x.Airport,N:=x.N,Hours:=x.Hours}
def zA (a:Airspace):Airspace:={Volumes:=a.Volumes.map zV,Sectors:=a.Sectors.map lS,Configs:=a.Configs.map lC,Segments:=a.Segments.map zG,Routes:=a.Routes.map zR,Airports:=a.Airports.map zP,Classes:=a.Classes.map zK,Rules:=a.Rules.map zU}
theorem B2l (a:Airspace):(zA a).Volumes.length=a.Volumes.length:=AL _
theorem Ca0 (a:Airspace):(zA a).Sectors.length=a.Sectors.length:=AL _
theorem Cam (a:Airspace):(zA a).Configs.length=a.Configs.length:=AL _
theorem Ca5 (a:Airspace):(zA a).Segments.length=a.Segments.length:=AL _
theorem Caq (a:Airspace):(zA a).Routes.length=a.Routes.length:=AL _
theorem B88 (a:Airspace):(zA a).Airports.length=a.Airports.length:=AL _
theorem B86 (a:Airspace):(zA a).Classes.length=a.Classes.length:=AL _
theorem B8t (a:Airspace):(zA a).Rules.length=a.Rules.length:=AL _
theorem B83 (a:Airspace):Yv (zA a)=Yv a:=by
 unfold Yv;rw[show(zA a).Sectors=a.Sectors.map lS from rfl,Axd];have e:(λ(_:Nat) (x:Sector) (l:List Int)=>Sw (zA a) (lS x) l)=λ_ x l=>Sw a x l:=by
  funext _ x l;unfold Sw;have A:(λ(_:Nat) (a2:Int) (z:Int)=>Acy (zA a) a2 z)=λ_ a2 z=>Acy a a2 z:=by funext _ a2 z;unfold Acy;rw[B2l]
  rw[A];rfl
 rw[e]
theorem B7k (a:Airspace):Mq (zA a)=Mq a:=by
 unfold Mq;rw[B83,B2l,Ca0,Cam,show(zA a).Configs=a.Configs.map lC from rfl];simp only[Axd];have e:∀r:List Int×Bool,(λ(_:Nat) (x:Config) (l:List (List (Int×Bool)))=>L8 (zA a) r (lC x) l)=λ_ x l=>L8 a r x l:=by intro r;funext _ x l;unfold L8;rw[B2l];rfl
 simp only[e]
theorem B7a (a:Airspace):Sr (zA a)=Sr a:=by unfold Sr;rw[B7k]
theorem B7v (a:Airspace):P0 (zA a)=P0 a:=by unfold P0 Wo;rw[B7k]
theorem B9p (a:Airspace)(s1:T310)(r:Rule):Vd (zU r) (zA a) s1=Vd r a s1:=by unfold Vd Zs;rw[B86,B88];rfl
theorem B1e (a:Airspace):Tv (zA a)=Tv a:=by
 unfold Tv;rw[B8t];have e:∀r,Jn (zA a).Rules (zA a) r=Jn a.Rules a r:=by
  intro r;unfold Jn Lq;rw[show(zA a).Rules=a.Rules.map zU from rfl,Axd];have e:(λ(j:Nat) (x:Rule) (_:Unit)=>Oy (zA a) r j (zU x))=λj x _=>Oy a r j x:=by funext j x _;unfold Oy;rw[B9p]
  rw[e]
 simp only[e]
theorem B65 (w:List Int)(l:List Rule):K8 w (l.map zU)=K8 w l:=by unfold K8 Z2;simp only[Bkl,R.bind_assoc,R.ok_bind];rfl
theorem B73 (l:List Rule)(s:List Int):Aan (l.map zU) s=Aan l s:=by unfold Aan Vh Aen;simp only[B65]
theorem B66 (a:Airspace):Xz (zA a)=Xz a:=by unfold Xz O9 Ack Ada Tj;rw[B1e,B8t];simp only[show(zA a).Rules=a.Rules.map zU from rfl,show(zA a).Airports=a.Airports.map zP from rfl,show(zA a).Classes=a.Classes.map zK from rfl,Rq,Bkl,R.bind_assoc,R.ok_bind,B73];rfl
theorem B1g (a:Airspace)(c:Int):Tx (zA a) c=Tx a c:=by unfold Tx;rw[B1e,B86]
theorem B1b (a:Airspace)(k c o:Int):Ru (zA a) k c o=Ru a k c o:=by unfold Ru Kb;simp only[show(zA a).Rules=a.Rules.map zU from rfl,Axd,Bkl,R.bind_assoc,R.ok_bind];rfl
theorem B6x (a:Airspace)(c:Int):Yi (zA a) c=Yi a c:=by unfold Yi;rw[B1g,B1b]
theorem B58 (a:Airspace)(c:Int):Wu (zA a) c=Wu a c:=by unfold Wu;rw[B1g,B1b,B1b]
theorem B60 (a:Airspace)(c p:Int):X6 (zA a) c p=X6 a c p:=by unfold X6;rw[B1g,B88];simp only[show(zA a).Rules=a.Rules.map zU from rfl,Rq];rfl
theorem B7n (a:Airspace)(s:Int):Pd (zA a) s=Pd a s:=by unfold Pd Lg;rw[Ca5,B2l];simp only[show(zA a).Segments=a.Segments.map zG from rfl,show(zA a).Volumes=a.Volumes.map zV from rfl,Bkl,R.bind_assoc,R.ok_bind];rfl
theorem B84 (a:Airspace):Vz (zA a)=Vz a:=by unfold Vz Tb S3;simp only[show(zA a).Segments=a.Segments.map zG from rfl,Rq,B7n];rfl
theorem B4m {σ:Type}(r:Int)(a:Airspace)(b:Leg→σ→R σ)(s:σ):L6 r (zA a) b s=L6 r a b s:=by unfold L6 Im;rw[Caq];simp only[show(zA a).Segments=a.Segments.map zG from rfl,show(zA a).Routes=a.Routes.map zR from rfl,Bkl,R.bind_assoc,R.ok_bind,B7n];rfl
theorem B6e (a:Airspace):Xs (zA a)=Xs a:=by unfold Xs Ur O4;simp only[show(zA a).Routes=a.Routes.map zR from rfl,Rq,B4m];rfl
theorem B8u (a:Airspace)(r:Int):Acm (zA a) r=Acm a r:=by unfold Acm Ze;simp only[B4m];rfl
theorem B9l (a:Airspace):N6 (zA a)=N6 a:=by
 unfold N6;have z:∀r:List Nat,each (λ_ a1=>λ_=>Z5 (zA a) a1) 0 r ()=each (λ_ a1=>λ_=>Z5 a a1) 0 r ():=by
  intro r;have e:(λ(_:Nat) (a1:Nat) (_:Unit)=>Z5 (zA a) a1)=λ_ a1 _=>Z5 a a1:=by funext _ x _;unfold Z5 P3 Qc P6;rw[B7a,B7v,B1e,B66,B84,B6e,B2l]
  rw[e]
 have A:G2 (zA a).Sectors=G2 a.Sectors:=by unfold G2;rw[show(zA a).Sectors=a.Sectors.map lS from rfl,Rq];rfl
 have D:Gx (zA a).Configs=Gx a.Configs:=by unfold Gx;rw[show(zA a).Configs=a.Configs.map lC from rfl,Rq];rfl
 have O:Ls (zA a).Routes (zA a)=Ls a.Routes a:=by unfold Ls No P8;rw[show(zA a).Routes=a.Routes.map zR from rfl,Rq];simp only[B8u];rfl
 have R:Fv (zA a).Airports=Fv a.Airports:=by unfold Fv Adx Qd Mh;rw[show(zA a).Airports=a.Airports.map zP from rfl,Rq];simp only[show ∀x:Airport,(zP x).Modes=x.Modes.map zM from λ_=>rfl,Rq];rfl
 have S:Kv (zA a).Classes (zA a)=Kv a.Classes a:=by
  unfold Kv Mf Qa;rw[show(zA a).Classes=a.Classes.map zK from rfl,Rq];have e:∀i,Li (zA a).Airports (zA a) i=Li a.Airports a i:=by intro i;unfold Li Vc Md;rw[show(zA a).Airports=a.Airports.map zP from rfl,Rq];simp only[B60]
  simp only[B6x,B58,e];rfl
 simp only[z,A,D,O,R,S,B2l]
theorem A47 {α β:Type}{b:Nat→α→List β→R (List β)}{g:α→β}{c:Nat}(O:∀j a s,b j a s=if(s.length+1)*c≤Bj then .ok (s++[g a])else .bad)(S:c≤1000){l:List α}(U:l.length≤1000):eachS b 0 l []=.ok (l.map g):=by
 have h:As (eachS b 0 l []) λy=>y=(l.take (0+l.length)).map g:=My (λk (y:List β)=>y=(l.take k).map g) l 0 [] (λj a y D z=>by
  have V:=A6 D;rw[AG]at z ⊢;rw[O];have A:y.length=j:=by rw[z,AL,CM];omega
  refine CS ?_ (.ok ?_)
  ·rw[A];have h1:(j+1)*c≤1000*1000:=IU (by omega) S;exact Zl (BT h1 (by omega))
  ·rw[z,EE,D,EF];rfl) rfl
 obtain⟨y,h1,h2⟩:=h;rw[h1,h2,AG,EI]
theorem law_AirspaceNames (V:Acu=.ok true):Aeo:=by
 intro a _ _;unfold Ai7;rw[V,R.ok_bind,if_pos rfl];obtain⟨b,W,z⟩:=A9o a;rw[W,R.ok_bind];cases b with
 |false=>rfl
 |true=>
  have z:=z rfl;rw[if_pos rfl];have X:eachS (λ_ A=>λD=>Th A D) 0 a.Airports []=.ok (a.Airports.map zP):=by
   have h:As (eachS (λ_ A=>λD=>Th A D) 0 a.Airports []) λy=>y=(a.Airports.take (0+a.Airports.length)).map zP:=My (λk (y:List Airport)=>y=(a.Airports.take k).map zP) a.Airports 0 [] (λj x y O S=>by
    have hj:=A6 O;have hp:=z.p;rw[AG]at S ⊢;have U:y.length=j:=by rw[S,AL,CM];omega
    unfold Th;rw[A47 (b:=λ_ Y Z=>Alq Y Z) (g:=zM) (c:=24) (λ_ _ _=>rfl) (by omega) (z.pm x (AP O)),R.ok_bind];refine CS (Zl (by rw[U,AB];omega)) (.ok ?_);rw[S,EE,O,EF];rfl) rfl
   obtain⟨y,h1,h2⟩:=h;rw[h1,h2,AG,EI]
  rw[A47 (b:=λ_ x l=>Ao4 x l) (g:=zV) (c:=40) (λ_ _ _=>rfl) (by omega) z.v,R.ok_bind];rw[A47 (b:=λ_ x l=>Amh x l) (g:=lS) (c:=80) (λ_ _ _=>rfl) (by omega) z.s,R.ok_bind];rw[A47 (b:=λ_ x l=>Anq x l) (g:=lC) (c:=64) (λ_ _ _=>rfl) (by omega) z.c,R.ok_bind];rw[A47 (b:=λ_ x l=>Apc x l) (g:=zG) (c:=72) (λ_ _ _=>rfl) (by omega) z.g,R.ok_bind];rw[A47 (b:=λ_ x l=>Al7 x l) (g:=zR) (c:=112) (λ_ _ _=>rfl) (by omega) z.r,R.ok_bind];rw[X,R.ok_bind];rw[A47 (b:=λ_ x l=>Apa x l) (g:=zK) (c:=40) (λ_ _ _=>rfl) (by omega) z.k,R.ok_bind];rw[A47 (b:=λ_ x l=>Al9 x l) (g:=zU) (c:=80) (λ_ _ _=>rfl) (by omega) z.u,R.ok_bind];obtain⟨t,ht,hT⟩:=Bbp a z.low0;rw[show({Volumes:=a.Volumes.map zV,Sectors:=a.Sectors.map lS,Configs:=a.Configs.map lC,Segments:=a.Segments.map zG,Routes:=a.Routes.map zR,Airports:=a.Airports.map zP,Classes:=a.Classes.map zK,Rules:=a.Rules.map zU}:Airspace)=zA a from rfl,B9l,ht];simp only[R.ok_bind,EH,if_true,Alg _ hT]
end Go.Am
