/- Written by shrink.py from texts of ours: comments struck, what is not reached left out, names short. -/
import Derived.Test.YtjmofjoifnhloaaU4
import Derived.Lib.SlBytesConst
import Derived.Test.YtjmofjoifnhloaaRows
import Derived.KernelRfl
namespace Go.Am
open Go Go.Proofs
set_option maxRecDepth 100000
set_option maxHeartbeats 4000000
set_option linter.unusedSimpArgs false
set_option linter.unusedVariables false
theorem Qk:CP Try.prog 24 [] (I3) (fun(x:Airspace)=>(AV.agg (Ac x))):=by
 refine He (n:=20) 1 Try.func24 J (by decide) J J fun h0 ids hI=>Cf (Ai (I3.eq_1) ?_)
 refine Aa<|Y<|De (j:=0) hI J J J J Ct J fun g=>Ab<|Bn ?_
 refine Aa<|Y<|Z (.agg [(.I 150),(.I 160)]) J (Ex (Im E4 Xg J))<|Fr (e:=Ah) (L:=[({ From:=150,To:=160 }:Span)]) (st:=2) (rows:=[[(.I 150),(.I 160)]]) J Dw E4 J J J J J (.cons (.cons (.same _) (.cons (.same _) .nil)) .nil) (fun x=>Fp x) J J<|Ad 2 [] [(4,(.agg [(.I 0),(.I 1440)])),(3,(.agg [(.str []),(.sl 2 (List.map Ah [({ From:=150,To:=160 }:Span)]))]))] ?_
 refine Fr (e:=Ah) (L:=[({ From:=0,To:=1440 }:Span)]) (st:=2) (rows:=[[(.I 0),(.I 1440)]]) J Dw E4 J J J J J (.cons (.cons (.same _) (.cons (.same _) .nil)) .nil) (fun x=>Fp x) J J<|Z (.agg [(.str []),(.sl 2 (List.map Ah [({ From:=0,To:=1440 }:Span)]))]) J (Ex (Im Oo Adu J))<|Fr (e:=Bg) (L:=[({ Name:=[],Closed:=[({ From:=150,To:=160 }:Span)] }:Volume),({ Name:=[],Closed:=[({ From:=0,To:=1440 }:Span)] }:Volume)]) (st:=2) (rows:=[[(.str []),(.sl 2 (List.map Ah [({ From:=150,To:=160 }:Span)]))],[(.str []),(.sl 2 (List.map Ah [({ From:=0,To:=1440 }:Span)]))]]) J G7 Oo J J J J J (.cons (.cons (.same _) (.cons (.same _) .nil)) (.cons (.cons (.same _) (.cons (.same _) .nil)) .nil)) (fun x=>Fw x) J J<|Z (.agg [(.I 100),(.I 200)]) J (Ex (Im E4 Xg J))<|Fr (e:=Ah) (L:=[({ From:=100,To:=200 }:Span)]) (st:=2) (rows:=[[(.I 100),(.I 200)]]) J Dw E4 J J J J J (.cons (.cons (.same _) (.cons (.same _) .nil)) .nil) (fun x=>Fp x) J J<|Ad 2 [] [(11,(.agg [(.str []),(.str []),(.I 1),(.I 40),.emp])),(10,(.agg [(.str []),(.str []),(.I 0),(.I 30),(.sl 2 (List.map Ah [({ From:=100,To:=200 }:Span)]))]))] ?_
 refine Fr (e:=Aj) (L:=[({ Name:=[],In:=[],Volume:=0,Length:=30,Open:=[({ From:=100,To:=200 }:Span)] }:Segment),({ Name:=[],In:=[],Volume:=1,Length:=40,Open:=[] }:Segment)]) (st:=5) (rows:=[[(.str []),(.str []),(.I 0),(.I 30),(.sl 2 (List.map Ah [({ From:=100,To:=200 }:Span)]))],[(.str []),(.str []),(.I 1),(.I 40),.emp]]) J Fa G6 J J J J J (.cons (.cons (.same _) (.cons (.same _) (.cons (.same _) (.cons (.same _) (.cons (.same _) .nil))))) (.cons (.cons (.same _) (.cons (.same _) (.cons (.same _) (.cons (.same _) (.cons (.emp _) .nil))))) .nil)) (fun x=>K0 x) J J<|Fr (e:=(rI .i64)) (L:=[0]) (st:=1) (rows:=[[(.I 0)]]) J Eg Ih J J J J J (.cons (RowSim.refl _) .nil) (fun x=>Og x) J J<|Z (.agg [(.str []),(.str []),(.str []),(.I 0),(.I 0),.emp,(.sl 1 (List.map (rI .i64) [0]))]) J (Ex (Im P4 Adc J))<|Fr (e:=(rI .i64)) (L:=[0,1]) (st:=1) (rows:=[[(.I 0)],[(.I 1)]]) J Eg Ih J J J J J (.cons (RowSim.refl _) (.cons (RowSim.refl _) .nil)) (fun x=>Og x) J J<|Ad 2 [] [(17,(.agg [(.str []),(.str []),(.str []),(.I 0),(.I 0),.emp,.emp])),(16,(.agg [(.str []),(.str []),(.str []),(.I 0),(.I 0),.emp,(.sl 1 (List.map (rI .i64) [0,1]))]))] ?_
 refine Fr (e:=A9) (L:=[({ Name:=[],A:=[],B:=[],From:=0,To:=0,Names:=[],Segments:=[0] }:Route),({ Name:=[],A:=[],B:=[],From:=0,To:=0,Names:=[],Segments:=[0,1] }:Route),({ Name:=[],A:=[],B:=[],From:=0,To:=0,Names:=[],Segments:=[] }:Route)]) (st:=7) (rows:=[[(.str []),(.str []),(.str []),(.I 0),(.I 0),.emp,(.sl 1 (List.map (rI .i64) [0]))],[(.str []),(.str []),(.str []),(.I 0),(.I 0),.emp,(.sl 1 (List.map (rI .i64) [0,1]))],[(.str []),(.str []),(.str []),(.I 0),(.I 0),.emp,.emp]]) J Ic P4 J J J J J (.cons (.cons (.same _) (.cons (.same _) (.cons (.same _) (.cons (.same _) (.cons (.same _) (.cons (.emp _) (.cons (.same _) .nil))))))) (.cons (.cons (.same _) (.cons (.same _) (.cons (.same _) (.cons (.same _) (.cons (.same _) (.cons (.emp _) (.cons (.same _) .nil))))))) (.cons (.cons (.same _) (.cons (.same _) (.cons (.same _) (.cons (.same _) (.cons (.same _) (.cons (.emp _) (.cons (.emp _) .nil))))))) .nil))) (fun x=>Tx x) J J<|Z (.agg [(.sl 2 (List.map Bg [({ Name:=[],Closed:=[({ From:=150,To:=160 }:Span)] }:Volume),({ Name:=[],Closed:=[({ From:=0,To:=1440 }:Span)] }:Volume)])),.emp,.emp,(.sl 5 (List.map Aj [({ Name:=[],In:=[],Volume:=0,Length:=30,Open:=[({ From:=100,To:=200 }:Span)] }:Segment),({ Name:=[],In:=[],Volume:=1,Length:=40,Open:=[] }:Segment)])),(.sl 7 (List.map A9 [({ Name:=[],A:=[],B:=[],From:=0,To:=0,Names:=[],Segments:=[0] }:Route),({ Name:=[],A:=[],B:=[],From:=0,To:=0,Names:=[],Segments:=[0,1] }:Route),({ Name:=[],A:=[],B:=[],From:=0,To:=0,Names:=[],Segments:=[] }:Route)])),.emp,.emp,.emp]) J (Ex (Im Ct W5 J))<|B4 (C4 (v:=(.agg [(.sl 2 (List.map Bg [({ Name:=[],Closed:=[({ From:=150,To:=160 }:Span)] }:Volume),({ Name:=[],Closed:=[({ From:=0,To:=1440 }:Span)] }:Volume)])),.emp,.emp,(.sl 5 (List.map Aj [({ Name:=[],In:=[],Volume:=0,Length:=30,Open:=[({ From:=100,To:=200 }:Span)] }:Segment),({ Name:=[],In:=[],Volume:=1,Length:=40,Open:=[] }:Segment)])),(.sl 7 (List.map A9 [({ Name:=[],A:=[],B:=[],From:=0,To:=0,Names:=[],Segments:=[0] }:Route),({ Name:=[],A:=[],B:=[],From:=0,To:=0,Names:=[],Segments:=[0,1] }:Route),({ Name:=[],A:=[],B:=[],From:=0,To:=0,Names:=[],Segments:=[] }:Route)])),.emp,.emp,.emp])) hI J J J J Ct J J J J J)<|Ab<|Bn ?_
 exact C5 (a:=({ Volumes:=[({ Name:=[],Closed:=[({ From:=150,To:=160 }:Span)] }:Volume),({ Name:=[],Closed:=[({ From:=0,To:=1440 }:Span)] }:Volume)],Sectors:=[],Configs:=[],Segments:=[({ Name:=[],In:=[],Volume:=0,Length:=30,Open:=[({ From:=100,To:=200 }:Span)] }:Segment),({ Name:=[],In:=[],Volume:=1,Length:=40,Open:=[] }:Segment)],Routes:=[({ Name:=[],A:=[],B:=[],From:=0,To:=0,Names:=[],Segments:=[0] }:Route),({ Name:=[],A:=[],B:=[],From:=0,To:=0,Names:=[],Segments:=[0,1] }:Route),({ Name:=[],A:=[],B:=[],From:=0,To:=0,Names:=[],Segments:=[] }:Route)],Airports:=[],Classes:=[],Rules:=[] }:Airspace)) (vs:=[(.agg [(.sl 2 (List.map Bg [({ Name:=[],Closed:=[({ From:=150,To:=160 }:Span)] }:Volume),({ Name:=[],Closed:=[({ From:=0,To:=1440 }:Span)] }:Volume)])),.emp,.emp,(.sl 5 (List.map Aj [({ Name:=[],In:=[],Volume:=0,Length:=30,Open:=[({ From:=100,To:=200 }:Span)] }:Segment),({ Name:=[],In:=[],Volume:=1,Length:=40,Open:=[] }:Segment)])),(.sl 7 (List.map A9 [({ Name:=[],A:=[],B:=[],From:=0,To:=0,Names:=[],Segments:=[0] }:Route),({ Name:=[],A:=[],B:=[],From:=0,To:=0,Names:=[],Segments:=[0,1] }:Route),({ Name:=[],A:=[],B:=[],From:=0,To:=0,Names:=[],Segments:=[] }:Route)])),.emp,.emp,.emp])]) Try.func24 hI (Hp (C6 hI J J J Ct J) Fb) (.aggL (.cons (.same _) (.cons (.emp _) (.cons (.emp _) (.cons (.same _) (.cons (.same _) (.cons (.emp _) (.cons (.emp _) (.cons (.emp _) .nil)))))))))
theorem Ny (l:List Span)(h0:O)(o0:Nat)(hI0:Ids h0 [o0] 1):Gw l≠.bad→Bh Try.prog 51 [(.sl 2 (List.map Ah l))] (hp h0 [o0] [none]) (Km (fun a_ v h' => ∃ (g2:Nat),v=(.ptr o0 g2 0 0)∧h'=hp h0 [o0] [some (.rows g2 1440 [((rV rB) a_)])]) h0 (Gw l)):=by
 refine I0 (n:=26) 1 Try.func51 J (by decide) J J hI0 J fun ids he hI=>?_
 clear hI0
 obtain rfl:ix ids 0=o0:=he 0 rfl
 clear he
 refine Cf (Ai (Gw.eq_1 _) ?_)
 refine Bn ?_
 refine Aa<|Y<|Z .nilp J Af<|Ab<|Aa<|Y<|X3 (j:=0) (row:=((rV rB) (N9 1440 false))) hI J J J J Nv (Acb (n:=1440) (e:=rB) (E:=(fun x:Bool=>(AV.bool x))) (fun _=>J) _).symm ((Ab6 (fun x=>Abw x) J) _) fun g=>?_
 refine Ab<|Bn ?_
 refine Aa<|Aa<|Y<|Z (.sl 2 (List.map Ah l)) J Ag<|Z (.I (l.length:Int)) J (Al (Ak Dw))<|Z (.I 0) J Ag<|Ab ?_
 refine Ao<|D7 [(3,(.q ids 0 g)),(7,(.sl 2 (List.map Ah l))),(8,(.I (l.length:Int))),(9,(.I 0))] (FI J)<|Hi (P:=Try.prog) l (fun _ a=>fun o=>Ey a o) (((fun o=>.ok o)):(Vector Bool 1440)→R (Vector Bool 1440)) (fun j=>fun o=>fun(fr:Nat→AV) (h:O)=>fr=Ae [(3,(.q ids 0 g)),(7,(.sl 2 (List.map Ah l))),(8,(.I (l.length:Int))),(9,(.I (j:Int)))]∧h=hp h0 ids [(some (.rows g 1440 [((rV rB) o)])),none]) (N9 1440 false) ?_ ?_ ?_
 ·exact⟨J,J⟩
 ·rintro j a ha W hW o fr h ⟨rfl,rfl⟩
  refine Ai (m':=Ey a o) J (Ai (Ey.eq_1 _ _) ?_)
  refine Aa<|Y<|Z (.bool (decide ((j:Int)<(l.length:Int)))) J (Av J J J)<|Ab<|Aa<|Fh (t:=7) (L:=l) J fun hlim=>Dj J (Int.ofNat_lt.2 (Aq ha)) ?_
  refine Aw<|Aa<|Ao<|Aa<|Y<|Z (.cp (Ah a) 0) J (B3 (Ek Dw E4 J ha))<|Z (.agg (Ah a)) J (A7 (Dv E4 J)) ?_
  refine De (j:=1) hI J J J J E4 J fun g1=>B4 (C4 (v:=(.agg (Ah a))) hI J J J J E4 J J J J J)<|Ab<|Bn ?_
  refine Aa<|Y<|Ad 2 [1] [(14,(.I a.From))] ?_
  refine Z (.I (if 0 > a.From then 0 else a.From)) J (Ab4 J)<|Z (.I (if 0 > a.From then 0 else a.From)) J Af<|Ab<|Mt (fun o2=>Ik o2) (fun o2=>fun(fr:Nat→AV) (h:O)=>fr=Ae [(3,(.q ids 0 g)),(7,(.sl 2 (List.map Ah l))),(8,(.I (l.length:Int))),(9,(.I (j:Int)))]∧h=hp h0 ids [(some (.rows g 1440 [((rV rB) o2)])),none]) ?_ fun hJ=>?_
  ·rintro o2 fr h ⟨rfl,rfl⟩
   refine Ai (Ik.eq_1 _)<|A3<|Y<|Ad 2 [] [(9,(.I (IntKind.wrap .i64 ((j:Int)+1))))] ?_
   refine Ab<|Cw (L1 (hW o2 _ _ ⟨J,J⟩)) (.cons J (.cons J (.cons J (.cons (D1 (Aq ha) hlim) .nil))))
  refine Ao<|D7 [(3,(.q ids 0 g)),(5,(.q ids 1 g1)),(6,(.I (if 0 > a.From then 0 else a.From))),(7,(.sl 2 (List.map Ah l))),(8,(.I (l.length:Int))),(9,(.I (j:Int)))] (FI J)<|Pr (P:=Try.prog) (Ia fun m o1=>Dq a m o1) ((fun o2=>Ik o2):(Vector Bool 1440)→R (Vector Bool 1440)) (Ia fun m o1=>fun(fr:Nat→AV) (h:O)=>fr=Ae [(3,(.q ids 0 g)),(5,(.q ids 1 g1)),(6,(.I m)),(7,(.sl 2 (List.map Ah l))),(8,(.I (l.length:Int))),(9,(.I (j:Int)))]∧h=hp h0 ids [(some (.rows g 1440 [((rV rB) o1)])),(some (.rows g1 2 [(Ah a)]))]) ((if 0 > a.From then 0 else a.From),o) ?_ ?_
  ·exact⟨J,J⟩
  rintro vW1 hW1 ⟨m,o1⟩ fr h ⟨rfl,rfl⟩
  refine Ai (m':=Dq a m o1) J (Ai (Dq.eq_1 _ _ _) ?_)
  refine Aa<|Aa<|Y<|Ad 3 [1] [(18,(.I a.To)),(16,(.I m))] ?_
  refine Z (.I (if 1440<a.To then 1440 else a.To)) J (Abl J)<|Z (.bool (decide (m<(if 1440<a.To then 1440 else a.To)))) J (Av J J J)<|Ab<|Lm J (fun hc=>?_) (fun hc=>?_)
  ·refine Aw<|Aa<|Ao<|Y<|Z (.I m) J Ag<|H3 fun hi=>Z (.ptr (ix ids 0) g 0 (Int.toNat m)) J (B3 (Xm Nv Lk J hi)) ?_
   refine B4 (Xk (e:=rB) (E:=(fun x:Bool=>(AV.bool x))) (x:=true) (fun _=>J) hI J J J Lk J J (Ps hi) J J J)<|Ab<|Bn ?_
   refine A3<|Y<|Ad 3 [] [(6,(.I (IntKind.wrap .i64 (m+1))))] ?_
   refine Ab<|Cw (O2 (hW1 ((IntKind.wrap .i64 (m+1)),(I9 o1 (Int.toNat m) true)) _ _ ⟨J,J⟩))
  refine C9 J<|Rn<|G4 [(some (.rows g 1440 [((rV rB) o1)])),none] hI J (.keep (.drop .nil))<|Cw (hJ o1 _ _ ⟨J,J⟩)
 rintro o fr h ⟨rfl,rfl⟩
 refine Aa<|Y<|Z (.bool (decide ((l.length:Int)<(l.length:Int)))) J (Av J J J)<|Ab<|Aa<|Di J (Int.lt_irrefl _)<|C9 J ?_
 refine Aa<|Y<|Z (.q ids 0 g) J Af<|Ab<|Pc (K:=1) (N:=1) (a:=o) (vs:=[(.q ids 0 g)]) [some (.rows g 1440 [((rV rB) o)])] Try.func51 hI J J J (.keep (.keep .nil)) (.same _) ⟨g,J,J⟩
theorem Pe (a:Bool)(y:Bool):CP Try.prog 47 [(.bool a),(.bool y)] (H5 a y) (fun(x:Bool)=>(AV.bool x)):=by
 refine He (n:=10) 0 Try.func47 J (by decide) J J fun h0 ids hI=>Cf (Ai (H5.eq_1 _ _) ?_)
 refine Aa<|Y<|Z (.bool false) J Af<|Ab<|Aa<|Y<|Ad 2 [] [(6,(.bool a))] ?_
 refine Bz 3 [(9,(.bool (a&&(!y))))] ?_ fun hJ=>Bk a (fun hb1=>?_) (fun hb1=>?_)
 ·refine Z (.bool (a&&(!y))) J Af<|Ab<|C5 (a:=(a&&(!y))) (vs:=[(.bool (a&&(!y)))]) Try.func47 hI J (.same _)
 ·refine A0 (t:=6) hb1 J<|Ad 3 [] [(9,(.bool (!y)))] ?_
  exact A4 hJ (.cons (Nf hb1) .nil)
 refine A0 (t:=6) hb1 J<|Ad 3 [] [(9,(.bool false))] ?_
 exact A4 hJ (.cons (M8 hb1) .nil)
theorem Nj (s:(Vector Bool 1440))(h0:O)(o0:Nat)(o1:Nat)(g:Nat)(hI0:Ids h0 [o0,o1] 2):Eb s≠.bad→Bh Try.prog 53 [(.ptr o0 g 0 0)] (hp h0 [o0,o1] [some (.rows g 1440 [((rV rB) s)]),none]) (Km (fun a_ v h' => ∃ (g2:Nat),v=(.func (.func 66) [] [(.ptr o1 g2 0 0)])∧h'=hp h0 [o0,o1] [some (.rows g 1440 [((rV rB) s)]),some (.rows g2 1 [[(.ptr o0 g 0 0)]])]) h0 (Eb s)):=by
 refine I0 (n:=4) 0 Try.func53 J (by decide) J J hI0 J fun ids he hI=>?_
 clear hI0
 obtain rfl:ix ids 0=o0:=he 0 rfl
 obtain rfl:ix ids 1=o1:=he 1 rfl
 clear he
 refine Cf (Ai (Eb.eq_1 _) ?_)
 refine Aa<|Y<|G0 (v:=(.q ids 0 g)) (j:=1) hI J J J J J J J fun g1=>Z .nilf J Af<|Ab<|Bn ?_
 refine Aa<|Y<|Ad 2 [] [(2,(.func (.func 66) [] [(.q ids 1 g1)]))] ?_
 refine Ab<|Pc (K:=2) (N:=0) (a:=()) (vs:=[(.func (.func 66) [] [(.q ids 1 g1)])]) [some (.rows g 1440 [((rV rB) s)]),some (.rows g1 1 [[(.q ids 0 g)]])] Try.func53 hI J J J (.keep (.keep .nil)) (.same _) ⟨g1,J,J⟩
theorem Mh {σ_:Type}(b:(Vector Bool 1440))(b_:Span→σ_→R σ_)(St_:σ_→O→Prop)(y_:YF)(o_ g_:Nat)(hy_ : ∀ (a0_:Span),Yh Try.prog y_ o_ g_ [(.agg (Ah a0_))] St_ (b_ a0_))(hnp_ : ∀ (a0_:Span) (s:σ_) (v:PV),b_ a0_ s≠.pan v)(s_:σ_)(hh_:O)(hs_:St_ s_ hh_):Du b b_ s_≠.bad→Bh Try.prog 66 [(.yld y_ o_ g_),(.cp [(.cp ((rV rB) b) 0)] 0)] hh_ (Rk St_ (Du b b_ s_)):=by
 refine Tt (n:=35) Try.func66 J (by decide) J J<|Cf (Ai (Du.eq_1 _ _ _) ?_)
 refine Aa<|Y<|Z (.I 0) J Af<|Ab<|Mt (fun s4=>Db s4) (fun s4=>fun(fr:Nat→AV) (h:O) => ∃ (hh4:O),St_ s4 hh4∧fr=Ae []∧hh4=h) ?_ fun hJ2=>?_
 ·rintro s4 fr h ⟨hh4,vHs4,rfl,rfl⟩
  refine Ai (Db.eq_1 _)<|Wm Try.func66 J vHs4
 refine Ao<|D7 [(0,(.yld y_ o_ g_)),(1,(.cp [(.cp ((rV rB) b) 0)] 0)),(3,(.I 0))] (FI J)<|Pr (P:=Try.prog) (Ia fun vfrom s=>A2 b b_ vfrom s) ((fun s4=>Db s4):σ_→R σ_) (Ia fun vfrom s=>fun(fr:Nat→AV) (h:O) => ∃ (hh:O),St_ s hh∧fr=Ae [(0,(.yld y_ o_ g_)),(1,(.cp [(.cp ((rV rB) b) 0)] 0)),(3,(.I vfrom))]∧hh=h) (0,s_) ?_ ?_
 ·exact⟨_,hs_,J,J⟩
 rintro vW hW ⟨vfrom,s⟩ fr h ⟨hh,vHs,rfl,rfl⟩
 refine Ai (m':=A2 b b_ vfrom s) J (Ai (A2.eq_1 _ _ _ _) ?_)
 refine Aa<|Aa<|Y<|Z (.I vfrom) J Ag<|Z (.bool (decide (vfrom<1440))) J (Av J J J)<|Ab<|Lm J (fun hc=>?_) (fun hc=>?_)
 ·refine Aw<|Aa<|Ao<|Aa<|Aa<|Y<|Z (.cp ((rV rB) b) 0) J (A7 (Dv Abi J)) ?_
  refine Z (.I vfrom) J Ag<|Z (.cp ((rV rB) b) 0) J (G1 J)<|H3 fun hi=>Z (.cp ((rV rB) b) (Int.toNat vfrom)) J (B3 (Sp Nv Lk J hi))<|Z (.bool (Cd b (Int.toNat vfrom) false)) J (A7 (Dv Lk (W7 (e:=rB) (E:=(fun x:Bool=>(AV.bool x))) (fun _=>J) (Ps hi) false)))<|Z (.bool (!(Cd b (Int.toNat vfrom) false))) J (Ra J)<|Ab ?_
  refine Nx J (fun hc1=>?_) (fun hc1=>?_)
  ·refine Aw<|Aa<|Y<|Z (.I vfrom) J Ag<|Z (.I (IntKind.wrap .i64 (vfrom+1))) J (Av J J J)<|Z (.I (IntKind.wrap .i64 (vfrom+1))) J Af<|Ab ?_
   refine Aa<|Mt (Ia fun vto1 s2=>Da b_ vfrom vto1 s2) (Ia fun vto1 s2=>fun(fr:Nat→AV) (h:O) => ∃ (hh2:O),St_ s2 hh2∧fr=Ae [(0,(.yld y_ o_ g_)),(1,(.cp [(.cp ((rV rB) b) 0)] 0)),(3,(.I vfrom)),(4,(.I vto1))]∧hh2=h) ?_ fun hJ1=>?_
   ·rintro⟨vto1,s2⟩ fr h ⟨hh2,vHs2,rfl,rfl⟩
    refine Ai (Da.eq_1 _ _ _ _)<|Aa<|Aa<|Y<|Z (.yld y_ o_ g_) J Ag<|Z (.I vfrom) J Ag<|Z (.I vto1) J Ag ?_
    refine Z (.agg [(.I vfrom),(.I vto1)]) J (Ex (Im E4 Xg J))<|Zp (b:=b_ ({ From:=vfrom,To:=vto1 }:Span)) J J J vHs2 (hy_ ({ From:=vfrom,To:=vto1 }:Span)) (hnp_ ({ From:=vfrom,To:=vto1 }:Span) _) fun s3 hb2 hh3 vHs3=>Z (.bool false) J (Ra J)<|Ab<|Mk false J<|Aw<|Y ?_
    refine Z (.I vto1) J Ag<|Z (.I vto1) J Af<|Ab<|A3<|Y<|Z (.I vto1) J Ag<|Z (.I (IntKind.wrap .i64 (vto1+1))) J (Av J J J) ?_
    refine Z (.I (IntKind.wrap .i64 (vto1+1))) J Af<|Ab<|Cw (O2 (hW ((IntKind.wrap .i64 (vto1+1)),s3) _ _ ⟨_,vHs3,J,J⟩))
   refine Ao<|D7 [(0,(.yld y_ o_ g_)),(1,(.cp [(.cp ((rV rB) b) 0)] 0)),(3,(.I vfrom)),(4,(.I (IntKind.wrap .i64 (vfrom+1))))] (FI J)<|Pr (P:=Try.prog) (Ia fun vto s1=>Bi b vto s1) ((Ia fun vto1 s2=>Da b_ vfrom vto1 s2):(Int×σ_)→R ((Int×σ_) ⊕ σ_)) (Ia fun vto s1=>fun(fr:Nat→AV) (h:O) => ∃ (hh1:O),St_ s1 hh1∧fr=Ae [(0,(.yld y_ o_ g_)),(1,(.cp [(.cp ((rV rB) b) 0)] 0)),(3,(.I vfrom)),(4,(.I vto))]∧hh1=h) ((IntKind.wrap .i64 (vfrom+1)),s) ?_ ?_
   ·exact⟨_,vHs,J,J⟩
   rintro vW1 hW1 ⟨vto,s1⟩ fr h ⟨hh1,vHs1,rfl,rfl⟩
   refine Ai (m':=Bi b vto s1) J (Ai (Bi.eq_1 _ _ _) ?_)
   refine Aa<|Aa<|Y<|Z (.I vto) J Ag<|Z (.bool (decide (vto<1440))) J (Av J J J)<|Z (.bool (decide (vto<1440))) J Ag<|H8 6 ((fun(b1:Bool)=>if b1 then(.ok (.inl ((IntKind.wrap .i64 (vto+1)),s1))) else(.ok (.inr ((vto,s1))))):Bool→R ((Int×σ_) ⊕ (Int×σ_))) (fun(b1:Bool) (fr:Nat→AV) (h:O)=>fr=Ae [(0,(.yld y_ o_ g_)),(1,(.cp [(.cp ((rV rB) b) 0)] 0)),(3,(.I vfrom)),(4,(.I vto)),(25,(.bool b1))]∧hh1=h) ?_ fun hJ=>I8 (fun hb1=>?_) (fun hb1=>?_)
   ·rintro b1 fr h ⟨rfl,rfl⟩
    refine Ab<|Ds J (fun hc2=>?_) (fun hc2=>?_)
    ·refine Aw<|Ao<|Y<|Z (.I vto) J Ag<|Z (.I (IntKind.wrap .i64 (vto+1))) J (Av J J J)<|Z (.I (IntKind.wrap .i64 (vto+1))) J Af<|Ab ?_
     refine A3<|Cw (O2 (hW1 ((IntKind.wrap .i64 (vto+1)),s1) _ _ ⟨_,vHs1,J,J⟩))
    refine C9 J<|Rn<|Cw (hJ1 (vto,s1) _ _ ⟨_,vHs1,J,J⟩)
   ·refine A0 (t:=19) hb1 J<|Ap (tj:=19) (.cp ((rV rB) b) 0) J J J (A7 (Dv Abi J))<|Ap (tj:=19) (.I vto) J J J Ag<|Ap (tj:=19) (.cp ((rV rB) b) 0) J J J (G1 J)<|H3 fun hi1=>Ap (tj:=19) (.cp ((rV rB) b) (Int.toNat vto)) J J J (B3 (Sp Nv Lk J hi1))<|Ap (tj:=19) (.bool (Cd b (Int.toNat vto) false)) J J J (A7 (Dv Lk (W7 (e:=rB) (E:=(fun x:Bool=>(AV.bool x))) (fun _=>J) (Ps hi1) false))) ?_
    refine Z (.bool (Cd b (Int.toNat vto) false)) J (Hx (t:=true) J J)<|C1<|E3 [(0,(.yld y_ o_ g_)),(1,(.cp [(.cp ((rV rB) b) 0)] 0)),(3,(.I vfrom)),(4,(.I vto)),(25,(.bool (Cd b (Int.toNat vto) false)))] (FI J)<|hJ (Cd b (Int.toNat vto) false) _ _ ⟨J,J⟩
   refine A0 (t:=19) hb1 J<|Ii (tj:=19) (b:=false) J J J J<|Ii (tj:=19) (b:=false) J J J J<|Ii (tj:=19) (b:=false) J J J J<|Ii (tj:=19) (b:=false) J J J J<|Ii (tj:=19) (b:=false) J J J J<|Z (.bool false) J (Hx (t:=false) J J) ?_
   refine C1<|E3 [(0,(.yld y_ o_ g_)),(1,(.cp [(.cp ((rV rB) b) 0)] 0)),(3,(.I vfrom)),(4,(.I vto)),(25,(.bool false))] (FI J)<|hJ false _ _ ⟨J,J⟩
  refine C9 J<|Y<|Z (.I vfrom) J Ag<|Z (.I (IntKind.wrap .i64 (vfrom+1))) J (Av J J J)<|Z (.I (IntKind.wrap .i64 (vfrom+1))) J Af<|Ab<|Cw (O2 (hW ((IntKind.wrap .i64 (vfrom+1)),s) _ _ ⟨_,vHs,J,J⟩))
 refine C9 J<|Rn<|Cw (hJ2 s _ _ ⟨_,vHs,J,J⟩)
theorem Jl (s1:(Vector Bool 1440))(h0:O)(o0:Nat)(o1:Nat)(o2:Nat)(g:Nat)(g1:Nat)(hI0:Ids h0 [o0,o1,o2] 3):Cv s1≠.bad→Bh Try.prog 65 [.emp,(.func (.func 66) [] [(.ptr o0 g 0 0)])] (hp h0 [o0,o1,o2] [some (.rows g 1 [[(.ptr o1 g1 0 0)]]),some (.rows g1 1440 [((rV rB) s1)]),none]) (Km (fun a_ v h' => ∃ (v4:AV),∃ (g6:Nat),Co v4 o2 g6 a_.length∧v4=v∧h'=hp h0 [o0,o1,o2] [none,none,Az v4 g6 2 (List.map Ah a_)]) h0 (Cv s1)):=by
 refine I0 (n:=13) 3 Try.func65 J (by decide) J J hI0 J fun ids he hI=>?_
 clear hI0
 obtain rfl:ix ids 0=o0:=he 0 rfl
 obtain rfl:ix ids 1=o1:=he 1 rfl
 obtain rfl:ix ids 2=o2:=he 2 rfl
 clear he
 refine Cf (Ai (Cv.eq_1 _) ?_)
 refine Bn ?_
 refine Aau<|Aa<|Y<|G0 (v:=.emp) (j:=3) hI J J J J J J J fun g2=>Z .emp J Af<|Ab<|Bn ?_
 refine Aa<|Aa<|Y<|Z (.func (.func 66) [] [(.q ids 0 g)]) J Ag<|Ab<|Ao<|T5 (h2:=hp h0 ids [none,none,none,(some (.rows g2 1 [[.emp]])),none,none]) [(2,(.q ids 3 g2)),(6,(.func (.func 66) [] [(.cp [(.cp ((rV rB) s1) 0)] 0)]))] (Drops.sub (.drop (.drop (.keep (.keep (.keep (.keep .nil)))))) hI.len) (.cons (.same _) (.cons (.funcL .nil (.cons (.ptrL (hI.at J J) (hI.at J J) J (.cons (.ptrL (hI.at J J) (hI.at J J) ((Ab6 (fun x=>Abw x) J) _).1 (K6 _)) .nil)) .nil)) .nil)) J J ?_
 refine D7 [(2,(.q ids 3 g2)),(6,(.func (.func 66) [] [(.cp [(.cp ((rV rB) s1) 0)] 0)]))] (FI J)<|Lc (P:=Try.prog) 4 (fun(gL:Nat) (r_L:Loop)=>fun l=>fun(h1:O) => ∃ (v1:AV),∃ (g3:Nat),Co v1 (ix ids 2) g3 l.length∧h1=hp h0 ids [none,none,(Az v1 g3 2 (List.map Ah l)),(some (.rows g2 1 [[v1]])),(some (.blk gL (.loop r_L))),none]:Nat→Loop→(List Span)→O→Prop) J J hI J J J fun gL y_L r_L hl_L hy_L=>⟨?_,?_,?_,?_⟩
 ·refine Mh s1 _ _ _ _ _ (fun a=>Ok hl_L (by decide) J hy_L ?_ ?_) (fun _ _ _=>R.np_ne _ _) _ _ ?_
  ·rintro l _ ⟨v1,g3,vH,rfl⟩
   exact hI.at J J
  ·rintro lo_ l _ ⟨v1,g3,vH,rfl⟩
   refine W9 (Cf (Ai (m':=Ci a l) J (Ai (Ci.eq_1 _ _) ?_)))
   refine Tk [(7,(.agg (Ah a))),(2,(.q ids 3 g2)),(6,(.func (.func 66) [] [(.cp [(.cp ((rV rB) s1) 0)] 0)]))] (Lp _ _ _)<|Y<|De (j:=5) hI J J J J E4 J fun g4=>B4 (C4 (v:=(.agg (Ah a))) hI J J J J E4 J J J J J)<|Ab<|Bn ?_
   refine Js hI J J J hl_L.ready<|Bn ?_
   refine Ao<|Y<|Ad 2 [3,5] [(9,(.agg (Ah a))),(8,v1)] ?_
   refine Fr (e:=Ah) (L:=[a]) (st:=2) (rows:=[[(.I a.From),(.I a.To)]]) J Dw E4 J J J J J (.cons (RowSim.refl _) .nil) (fun x=>Fp x) J J<|H3 fun hl=>Lt (e:=Ah) (L:=l) (L2:=[a]) (v:=v1) (g:=g3) (st:=2) (j:=2) hI J J J J vH J (Qy J) Dw Dw J E4 J J J hl fun v2 g5 vH1=>B4 (Mf vH1 hI J J J J Dw J J J)<|Ab<|Bn ?_
   refine A3<|G4 [none,none,(Az v2 g5 2 (List.map Ah (l++[a]))),(some (.rows g2 1 [[v2]])),(some (.blk gL (.loop { r_L with state:=.busy }))),none] hI J (.keep (.keep (.keep (.keep (.keep (.drop .nil))))))<|Po (s:=(l++[a])) (jL:=4) hI J J J ⟨v2,g5,vH1,J⟩
  exact⟨.emp,0,.nil,J⟩
 ·rintro l _ ⟨v1,g3,vH,rfl⟩
  exact hI.at J J
 ·rintro l _ _ ⟨v1,g3,vH,rfl⟩
  refine T8 [none,none,(Az v1 g3 2 (List.map Ah l)),(some (.rows g2 1 [[v1]])),none,none] hI J J J<|A3<|Aa<|Y<|Ad 2 [3] [(4,v1)] ?_
  refine Ab<|Rh (Iz (Aam (K:=3) (N:=3) (a:=l) (vs:=[v1]) [none,none,Az v1 g3 2 (List.map Ah l)] Try.func65 hI J J J (.keep (.keep (.keep (.drop (.keep (.keep .nil)))))) (.same _) ⟨v1,g3,vH,J,J⟩))
 rintro v3 _ l _ ⟨v1,g3,vH,rfl⟩
 refine Tz [none,none,(Az v1 g3 2 (List.map Ah l)),(some (.rows g2 1 [[v1]])),none,none] hI J J J<|Iz (Wk (K:=3) (N:=3) Try.func65 hI)
theorem Kh (s1:(Vector Bool 1440))(h0:O)(o0:Nat)(o1:Nat)(o2:Nat)(g:Nat)(g1:Nat)(hI0:Ids h0 [o0,o1,o2] 3):Ca s1≠.bad→Bh Try.prog 52 [(.func (.func 66) [] [(.ptr o0 g 0 0)])] (hp h0 [o0,o1,o2] [some (.rows g 1 [[(.ptr o1 g1 0 0)]]),some (.rows g1 1440 [((rV rB) s1)]),none]) (Km (fun a_ v h' => ∃ (v2:AV),∃ (g3:Nat),Co v2 o2 g3 a_.length∧v2=v∧h'=hp h0 [o0,o1,o2] [none,none,Az v2 g3 2 (List.map Ah a_)]) h0 (Ca s1)):=by
 refine I0 (n:=5) 0 Try.func52 J (by decide) J J hI0 J fun ids he hI=>?_
 clear hI0
 obtain rfl:ix ids 0=o0:=he 0 rfl
 obtain rfl:ix ids 1=o1:=he 1 rfl
 obtain rfl:ix ids 2=o2:=he 2 rfl
 clear he
 refine Cf (Ai (Ca.eq_1 _) ?_)
 refine Aa<|Y<|Z .emp J Af<|Ab<|Aa<|Y<|Z (.func (.func 66) [] [(.q ids 0 g)]) J Ag ?_
 refine Ei [0,1,2] hI J J (Jl s1 _ (ix ids 0) (ix ids 1) (ix ids 2) g g1 (by exact hI.sub' J J)) J J J J J J (fun v _=>Wk (K:=3) (N:=0) Try.func52 hI) ?_
 rintro r _ _ _ ⟨v1,g2,vH,rfl,rfl⟩
 refine H4 [0,1,2] hI J J J ?_
 refine E5<|Z v1 J Af<|Ab<|Bn ?_
 exact Pc (K:=3) (N:=0) (a:=r) (vs:=[v1]) [none,none,Az v1 g2 2 (List.map Ah r)] Try.func52 hI J J J (.keep (.keep (.keep .nil))) (.same _) ⟨v1,g2,vH,J,J⟩
theorem No (a:List Span)(b:List Span):V5 Try.prog 46 [(.sl 2 (List.map Ah a)),(.sl 2 (List.map Ah b)),(.func (.func 47) [] [])] (Gu a b) 2 Ah:=by
 refine N8 (n:=37) 3 Try.func46 J (by decide) J J fun h0 ids hI=>Cf (Ai (Gu.eq_1 _ _) ?_)
 refine Aa<|Y<|Z .emp J Af<|Ab<|Aa<|Y<|Z (.sl 2 (List.map Ah a)) J Ag ?_
 refine Ei [1] hI J J (Ny a _ (ix ids 1) (by exact hI.sub' J J)) J J J J J J (fun v _=>H0 Try.func46 hI) ?_
 rintro d _ _ _ ⟨g,rfl,rfl⟩
 refine H4 [1] hI J J J ?_
 refine E5<|Z (.sl 2 (List.map Ah b)) J Ag<|Ei [2] hI J J (Ny b _ (ix ids 2) (by exact hI.sub' J J)) J J J J J J (fun v _=>H0 Try.func46 hI) ?_
 rintro e _ _ _ ⟨g1,rfl,rfl⟩
 refine H4 [2] hI J J J ?_
 refine E5<|Ad 2 [] [(8,(.q ids 2 g1)),(7,(.q ids 1 g))] ?_
 refine Ab<|Bn ?_
 refine Aa<|Aa<|Y<|Z (.I 0) J Ag<|Ab<|Ao<|D7 [(2,(.func (.func 47) [] [])),(7,(.q ids 1 g)),(8,(.q ids 2 g1)),(14,(.I 0))] (FI J) ?_
 refine Hi (P:=Try.prog) (List.range 1440) (fun j _=>fun o=>Cj e j o) (((fun o=>(Eb o).bind fun _=>(Ca o).bind fun r2=>.ok r2)):(Vector Bool 1440)→R (List Span)) (fun j=>fun o=>fun(fr:Nat→AV) (h:O)=>fr=Ae [(2,(.func (.func 47) [] [])),(7,(.q ids 1 g)),(8,(.q ids 2 g1)),(14,(.I (j:Int)))]∧h=hp h0 ids [none,(some (.rows g 1440 [((rV rB) o)])),(some (.rows g1 1440 [((rV rB) e)])),none]) d ?_ ?_ ?_
 ·exact⟨J,J⟩
 ·rintro j a1 ha1 W hW o fr h ⟨rfl,rfl⟩
  refine Ai (m':=Cj e j o) J (Ai (Cj.eq_1 _ _ _) ?_)
  refine Aa<|Y<|Z (.bool (decide ((j:Int)<1440))) J (Av J J J)<|Ab<|Aa<|Dj J (by have:=(Gl ha1).1; omega)<|Aw ?_
  refine Aa<|Ao<|Aa<|Y<|Ad 2 [] [(9,(.I (j:Int)))] ?_
  refine Ab<|O8 U6 [[],[],[],[],[],[3],[3,4,5],[3,4,5,6],[],[],[8],[8,9,10],[8,9,10,11],[2,3,4,5,6,7,8,9,10,11,12],[0],[0,1,1,2,3,4,5,6,7,8,9,10,11,12,13,14],[0,1,2,3,4,5,6,7,8,9,10,11,12,13,14,15]] [(false,0),(false,1),(false,2),(false,3),(false,4),(false,5),(false,6),(false,7),(false,8),(false,9),(false,10),(false,11),(false,12),(false,14),(true,13),(false,15),(true,16)] (by kernel_rfl)<|Au (.q ids 1 g) J J Ag<|Au (.I (j:Int)) J J Ag<|Au (.func (.func 47) [] []) J J Ag<|Au (.q ids 1 g) J J Ag<|Au (.I (j:Int)) J J Ag ?_
  refine Au (.q ids 1 g) J J (G1 J)<|Au (.ptr (ix ids 1) g 0 j) J J (B3 (Px Nv Lk J (Gl ha1).1))<|Au (.bool (Cd o j false)) J J (A7 (C6 hI J J J Lk (W7 (e:=rB) (E:=(fun x:Bool=>(AV.bool x))) (fun _=>J) (Gl ha1).1 false)))<|Au (.q ids 2 g1) J J Ag<|Au (.I (j:Int)) J J Ag<|Au (.q ids 2 g1) J J (G1 J)<|Au (.ptr (ix ids 2) g1 0 j) J J (B3 (Px Nv Lk J (Gl ha1).1)) ?_
  refine Au (.bool (Cd e j false)) J J (A7 (C6 hI J J J Lk (W7 (e:=rB) (E:=(fun x:Bool=>(AV.bool x))) (fun _=>J) (Gl ha1).1 false)))<|Au (.q ids 1 g) J J (G1 J)<|Aav [(.bool (Cd o j false)),(.bool (Cd e j false))] J J J J J ((Pe (Cd o j false) (Cd e j false)) _) (fun v _ _ _=>H0 Try.func46 hI) (E6 J (G1 J) (Pd J (K4 J (Jv J (E6 J Ag (E6 J Ag Fd)))))) fun r _=>Au (.ptr (ix ids 1) g 0 j) J J (B3 (Px Nv Lk J (Gl ha1).1))<|O0 J (fun _ _=>J) (fun K hK=>Ix (Xk (e:=rB) (E:=(fun x:Bool=>(AV.bool x))) (x:=r) (fun _=>J) hI J J J Lk J J (Gl ha1).1 J J J) (hK _ _ (Pd J (Ri J (K4 J (Jv J Fd)))) ?_))
  clear hK K
  refine Mn<|Bn ?_
  refine A3<|Y<|Ad 2 [] [(14,(.I (IntKind.wrap .i64 ((j:Int)+1))))] ?_
  refine Ab<|Cw (L1 (hW (I9 o j r) _ _ ⟨J,J⟩)) (.cons J (.cons J (.cons J (.cons (D1 (Gl ha1).1 (by decide)) .nil))))
 rintro o fr h ⟨rfl,rfl⟩
 refine Aa<|Y<|Z (.bool (decide (((List.range 1440).length:Int)<1440))) J (Av J J J)<|Ab<|Aa<|Di J (by simp)<|C9 J ?_
 refine Aa<|Y<|Z (.q ids 1 g) J Ag<|Ei [1,3] hI J J (Nj o _ (ix ids 1) (ix ids 3) g (by exact hI.sub' J J)) J J J J J J (fun v _=>H0 Try.func46 hI) ?_
 rintro _ _ _ _ ⟨g2,rfl,rfl⟩
 refine H4 [1,3] hI J J J ?_
 refine E5<|Ei [3,1,0] hI J J (Kh o _ (ix ids 3) (ix ids 1) (ix ids 0) g2 g (by exact hI.sub' J J)) J J J J J J (fun v _=>H0 Try.func46 hI) ?_
 rintro r2 _ _ _ ⟨v,g3,vH,rfl,rfl⟩
 refine H4 [3,1,0] hI J J J ?_
 refine E5<|Z v J Af<|Ab<|Bn ?_
 exact Rm (a:=r2) (v:=v) (g:=g3) Try.func46 hI J J vH J
theorem Re (a:List Span)(b:List Span):V5 Try.prog 38 [(.sl 2 (List.map Ah a)),(.sl 2 (List.map Ah b))] (Ie a b) 2 Ah:=by
 refine N8 (n:=8) 0 Try.func38 J (by decide) J J fun h0 ids hI=>Cf (Ai (Ie.eq_1 _ _) ?_)
 refine Aa<|Y<|Z .emp J Af<|Ab<|Aa<|Y<|Ad 2 [] [(6,(.sl 2 (List.map Ah b))),(5,(.sl 2 (List.map Ah a)))] ?_
 refine Pn (j:=0) [(.sl 2 (List.map Ah a)),(.sl 2 (List.map Ah b)),(.func (.func 47) [] [])] hI J J J J J J ((No a b) _ _ (hI.at J J)) (fun v _=>H0 Try.func38 hI) fun r _ v g vH=>Z v J Af<|Ab<|Bn ?_
 exact Rm (a:=r) (v:=v) (g:=g) Try.func38 hI J J vH J
theorem Jm (a:Airspace)(segment:Int):V5 Try.prog 27 [(.agg (Ac a)),(.int .i64 segment)] (Dk a segment) 2 Ah:=by
 refine N8 (n:=52) 2 Try.func27 J (by decide) J J fun h0 ids hI=>Cf (Ai (Dk.eq_1 _ _) ?_)
 refine Aa<|Y<|G0 (v:=(.agg (Ac a))) (j:=1) hI J J J J J J J fun g=>Z .emp J Af<|Ab<|Bn ?_
 refine Aa<|Aa<|Y<|Ad 3 [] [(9,(.bool (decide (segment<0))))] ?_
 refine Bz 6 [(1,(.I segment)),(2,(.q ids 1 g)),(15,(.bool ((decide (segment<0))||(decide (segment≥(a.Segments.length:Int))))))] ?_ fun hJ=>Bk (decide (segment<0)) (fun hb1=>?_) (fun hb1=>?_)
 ·refine Ab<|Ds J (fun hc=>?_) (fun hc=>?_)
  ·refine Y<|Ad 2 [] [(17,(.iface 86 (.agg [])))] ?_
   exact Pz (v:=⟨86,.unit⟩) J J (H0 Try.func27 hI)
  refine Aw<|Aa<|Y<|Ad 3 [1] [(20,(.I segment)),(19,(.sl 5 (List.map Aj a.Segments)))] ?_
  refine J1 fun a1 hz hx1=>Z (.cp (Aj a1) 0) J (B3 (Hl Fa G6 J hz hx1))<|Z (.agg (Aj a1)) J (A7 (Dv G6 J))<|De (j:=2) hI J J J J G6 J fun g1=>B4 (C4 (v:=(.agg (Aj a1))) hI J J J J G6 J J J J J)<|Ab<|Bn ?_
  refine Aa<|Aa<|Y<|Ad 4 [2] [(26,(.bool (decide (a1.Volume<0))))] ?_
  refine Bz 7 [(2,(.q ids 1 g)),(5,(.q ids 2 g1)),(33,(.bool ((decide (a1.Volume<0))||(decide (a1.Volume≥(a.Volumes.length:Int))))))] ?_ fun hJ1=>Bk (decide (a1.Volume<0)) (fun hb3=>?_) (fun hb3=>?_)
  ·refine Ab<|Ds J (fun hc1=>?_) (fun hc1=>?_)
   ·refine Y<|Ad 2 [] [(35,(.iface 86 (.agg [])))] ?_
    exact Pz (v:=⟨86,.unit⟩) J J (H0 Try.func27 hI)
   refine Aw<|Aa<|Y<|Ad 3 [2] [(6,(.sl 2 (List.map Ah a1.Open)))] ?_
   refine Ab<|Aa<|Aa<|Y<|Z (.sl 2 (List.map Ah a1.Open)) J Ag<|Z (.I (a1.Open.length:Int)) J (Al (Ak Dw))<|Z (.bool ((a1.Open.length:Int)==0)) J (Av J J J) ?_
   refine Ab<|Mt (fun vopen=>Dt a a1 vopen) (fun vopen=>fun(fr:Nat→AV) (h:O)=>fr=Ae [(2,(.q ids 1 g)),(5,(.q ids 2 g1)),(6,(.sl 2 (List.map Ah vopen)))]∧h=hp h0 ids [none,(some (.rows g 8 [(Ac a)])),(some (.rows g1 5 [(Aj a1)]))]) ?_ fun hJ2=>?_
   ·rintro vopen fr h ⟨rfl,rfl⟩
    refine Ai (Dt.eq_1 _ _ _)<|Aa<|Y<|Ad 5 [1,2] [(47,(.I a1.Volume)),(45,(.sl 2 (List.map Bg a.Volumes))),(43,(.sl 2 (List.map Ah vopen)))] ?_
    refine J1 fun a2 hz1 hx2=>Z (.cp (Bg a2) 0) J (B3 (Hl G7 Oo J hz1 hx2))<|Ad 2 [] [(50,(.sl 2 (List.map Ah a2.Closed)))] ?_
    refine Pn (j:=0) [(.sl 2 (List.map Ah vopen)),(.sl 2 (List.map Ah a2.Closed))] hI J J J J J J ((Re vopen a2.Closed) _ _ (hI.at J J)) (fun v _=>H0 Try.func27 hI) fun r _ v g2 vH=>Z v J Af<|Ab<|Bn ?_
    exact Rm (a:=r) (v:=v) (g:=g2) Try.func27 hI J J vH J
   refine Ds J (fun hc2=>?_) (fun hc2=>?_)
   ·refine Y<|Z (.agg [(.I 0),(.I 1440)]) J (Ex (Im E4 Xg J))<|Fr (e:=Ah) (L:=[({ From:=0,To:=1440 }:Span)]) (st:=2) (rows:=[[(.I 0),(.I 1440)]]) J Dw E4 J J J J J (.cons (.cons (.same _) (.cons (.same _) .nil)) .nil) (fun x=>Fp x) J J<|Z (.sl 2 (List.map Ah [({ From:=0,To:=1440 }:Span)])) J Af<|Ab<|Cw (hJ2 [({ From:=0,To:=1440 }:Span)] _ _ ⟨J,J⟩)
   refine Aw<|Cw (hJ2 a1.Open _ _ ⟨J,J⟩)
  ·refine A0 (t:=26) hb3 J<|Ad 7 [] [(33,(.bool true))] ?_
   exact A4 hJ1 (.cons J (.cons J (.cons (Fe hb3) .nil)))
  refine A0 (t:=26) hb3 J<|Ad 4 [2,1] [(30,(.sl 2 (List.map Bg a.Volumes))),(28,(.I a1.Volume))] ?_
  refine Ap (tj:=26) (.I (a.Volumes.length:Int)) J J J (Al (Ak G7))<|Ad 2 [] [(33,(.bool (decide (a1.Volume≥(a.Volumes.length:Int)))))] ?_
  exact A4 hJ1 (.cons J (.cons J (.cons (E9 hb3) .nil)))
 ·refine A0 (t:=9) hb1 J<|Ad 6 [] [(15,(.bool true))] ?_
  exact A4 hJ (.cons J (.cons J (.cons (Fe hb1) .nil)))
 refine A0 (t:=9) hb1 J<|Ad 3 [1] [(12,(.sl 5 (List.map Aj a.Segments))),(10,(.I segment))] ?_
 refine Ap (tj:=9) (.I (a.Segments.length:Int)) J J J (Al (Ak Fa))<|Ad 2 [] [(15,(.bool (decide (segment≥(a.Segments.length:Int)))))] ?_
 exact A4 hJ (.cons J (.cons J (.cons (E9 hb1) .nil)))
theorem Hr (a:Airspace)(segment:Int):CP Try.prog 27 [(.agg (Ac a)),(.int .i64 segment)] (Dk a segment) (fun(x:List Span)=>(AV.sl 2 (List.map Ah x))):=(Jm a segment).cp (fun x=>Fp x)
theorem F8 (w:AV):CP Try.prog 26 [.nili,w] (Cx) (fun(_:Unit)=>AV.tup []):=by
 refine He (n:=15) 0 Try.func26 J (by decide) J J fun h0 ids hI=>Cf (Ai (Cx.eq_1) ?_)
 refine Aa<|Y<|Z .nili J Ag<|Ab<|Ao<|Aa<|Y ?_
 refine Z (.bool true) J (Av J J (Abm Abv))<|Ab<|Mk true J<|Y<|Z .nili J Af<|Ab<|A3 ?_
 exact Abs (a:=()) (vs:=[]) Try.func26 hI J (.tupL .nil)
theorem Ig (a0:AV)(h:O):Dz Try.prog 25 [a0] .ret h (Jj (fun _:Unit=>h) .ret (.ok ())):=by
 refine Hk (n:=3) Try.func25 J (by decide) J J ?_ ⟨(),J⟩
 refine Cf (Ai (m':=(Cx).bind fun _ =>   .ok ()) J ?_)
 refine Y<|Pb J<|B9 [.nili,a0] J J J J ((F8 a0) _) (fun v hv=>by unfold Cx at hv; cases hv) fun _ _=>?_
 refine Ab<|Iw Try.func25 J J J
theorem Fl (p:T85)(h0:O)(o0:Nat)(r:List AV)(g:Nat)(hr:r.length=1)(hI0:Ids h0 [o0] 1):Bb p≠.bad→Bh Try.prog 26 [(.iface 86 (.agg (Um p))),(.ptr o0 g 0 0)] (hp h0 [o0] [some (.rows g 1 [r])]) (Km (fun a_ v h'=>v=(.tup [])∧h'=hp h0 [o0] [some (.rows g 1 [[(.int .i64 1)]])]) h0 (Bb p)):=by
 refine I0 (n:=15) 1 Try.func26 J (by decide) J J hI0 J fun ids he hI=>?_
 clear hI0
 obtain rfl:ix ids 0=o0:=he 0 rfl
 clear he
 refine Cf (Ai (Bb.eq_1 _) ?_)
 refine Bn ?_
 refine Aa<|Y<|Z (.iface 86 (.agg (Um p))) J Ag<|Ab<|Ao<|Aa<|Y ?_
 refine Z (.bool false) J (Av J J (Aa3 Abv))<|Ab<|Mk false J<|Aa<|Y<|Z (.tup [(.agg (Um p)),(.bool true)]) J (Ack (Abn Tl (by decide)))<|Ad 2 [] [(12,(.agg (Um p))),(11,(.bool true))] ?_
 refine Ab<|Mk true J<|Aa<|Y<|De (j:=1) hI J J J J Tl J fun g1=>B4 (C4 (v:=(.agg (Um p))) hI J J J J Tl J J J J J)<|Ab ?_
 refine Bn ?_
 refine Y<|Ad 2 [] [(14,(.q ids 0 g))] ?_
 refine B4 (Aa8 (v:=(.I 1)) hI J J J F2 J J J hr J)<|Ab<|Bn ?_
 refine A3<|Aak (K:=1) (N:=1) (a:=()) (vs:=[]) [some (.rows g 1 [[(.I 1)]])] Try.func26 hI J J J (.keep (.drop .nil)) (.same _) ⟨J,J⟩
theorem Gy (h0:O)(ids:List Nat)(hI:Ids h0 ids 1)(g0_:Nat)(r0_:List AV)(hr0_:r0_.length=1):(∃ a,A5=.ok a)→Dz Try.prog 25 [(.ptr (ix ids 0) g0_ 0 0)] (.pan (.iface 86 (.agg [])) false) (hp h0 ids [some (.rows g0_ 1 [r0_])]) (Jj (fun p=>hp h0 ids [some (.rows g0_ 1 [[(.int .i64 1)]])]) (.pan (.iface 86 (.agg [])) true) (A5)):=by
 refine Hk (n:=3) Try.func25 J (by decide) J J<|Cf (Ai (A5.eq_1) ?_)
 refine Y<|O4 J<|Ei [0] hI J J (Fl ({}:T85) _ (ix ids 0) r0_ g0_ hr0_ (by exact hI.sub' J J)) J J J J J J (fun v hv=>by unfold Bb at hv; cases hv) ?_
 rintro _ _ _ _ ⟨rfl,rfl⟩
 refine H4 [0] hI J J J ?_
 refine E5<|Ab<|Bn ?_
 exact Iw (a:=()) Try.func25 J J J
theorem Jz (a:Airspace)(segment:Int):CP Try.prog 10 [(.agg (Ac a)),(.int .i64 segment)] (Cq a segment) (fun(p:((List Span)×Int))=>AV.tup [(.sl 2 (List.map Ah p.1)),(.int .i64 p.2)]):=by
 show CP _ _ _ ((Ed a segment).catch' (Cb 86 ((A5).bind fun _=>.ok ([],1)) (fun _=>.bad))) _
 refine Lq (n:=10) 2 Try.func10 J (by decide) J J fun h0 ids hI=>?_
 have hU : ∀ (v:PV) (fr:Nat→AV) (xs:List (Option AO)) (g0_:Nat) (r0_:List AV) (hl_:xs.length=2) (hr0_:r0_.length=1) (hy_:xs.take 1=[some (.rows g0_ 1 [r0_])]) (hq4_:fr 4=.emp) (hq5_:fr 5=.q ids 0 g0_),WU Try.prog 10 10 false (H6 (fun(p:((List Span)×Int))=>AV.tup [(.sl 2 (List.map Ah p.1)),(.I p.2)]) h0 (Cb 86 ((A5).bind fun _=>.ok ([],1)) (fun _=>.bad))) (.pan v) (.pan v.av false) fr [⟨25,[.q ids 0 g0_]⟩] (hp h0 ids xs) .ret:=by
  intro v fr xs g0_ r0_ hl_ hr0_ hy_ hq4_ hq5_
  refine S5 (t:=86) J (fun hv=>?_) (fun hne86=>?_)
  ·subst hv
   exact Nr (Hc:=A5) (fin:=fun _=>([],1)) (c:=1) (cells:=fun p=>[some (.rows g0_ 1 [[(.I 1)]])]) (vs:=fun p=>[.emp,(.I 1)]) Try.func10 hI hl_ J hy_ (by first | (rw [Er]; done) | (rw [Er]; rfl)) (fun hx=>by have:=Gy h0 (ids.take 1) (hI.take J) g0_ r0_ hr0_ hx; simp only [G5 (c:=1) (j:=0) J] at this; exact this) (by intro w; simp [A5,Bb]) (fun p=>(Kg hq4_ (I2 hq5_ (Mr (hI.take J) (G5 J) J J J F2 J) Fb))) (fun p=>(.tupL (.cons (.emp _) (.cons (.same _) .nil))))
  exact S9 (by rw [Kd hne86])
 refine Cf (Ai (Ed.eq_1 _ _) ?_)
 refine Aa<|Y<|G0 (v:=(.agg (Ac a))) (j:=1) hI J J J J J J J fun g=>Z .emp J Af<|De (j:=0) hI J J J J F2 J fun g1=>Ab<|Bn ?_
 refine Aa<|Y<|Z (.func (.func 25) [] [(.q ids 0 g1)]) J Mp<|Li J J J ?_
 refine Ab<|Aa<|Y<|Ad 2 [1] [(8,(.I segment)),(7,(.agg (Ac a)))] ?_
 refine B9 [(.agg (Ac a)),(.I segment)] J J J J ((Hr a segment) _) (fun v _=>hU v _ _ _ _ J J J J J) fun l _=>Z (.sl 2 (List.map Ah l)) J Af<|B4 (C4 (v:=(.I 0)) hI J J J J F2 J J J J J)<|Ab<|Wo (a:=(l,0)) (vs:=[(.sl 2 (List.map Ah l)),(.I 0)]) Try.func10 hI (Ig _ _) (Ju (Hp (C6 hI J J J F2 J) Fb)) (.tupL (.cons (.same _) (.cons (.same _) .nil)))
theorem Ks (a:Airspace)(route:Int)(h0:O)(o0:Nat)(o1:Nat)(hI0:Ids h0 [o0,o1] 2):Ej a route≠.bad→Bh Try.prog 31 [(.agg (Ac a)),(.int .i64 route)] (hp h0 [o0,o1] [none,none]) (Km (fun a_ v h' => ∃ (g2:Nat),∃ (g3:Nat),v=(.func (.func 41) [] [(.ptr o1 g3 0 0),(.ptr o0 g2 0 0)])∧h'=hp h0 [o0,o1] [some (.rows g2 8 [(Ac a)]),some (.rows g3 1 [[(.int .i64 route)]])]) h0 (Ej a route)):=by
 refine I0 (n:=6) 0 Try.func31 J (by decide) J J hI0 J fun ids he hI=>?_
 clear hI0
 obtain rfl:ix ids 0=o0:=he 0 rfl
 obtain rfl:ix ids 1=o1:=he 1 rfl
 clear he
 refine Cf (Ai (Ej.eq_1 _ _) ?_)
 refine Aa<|Y<|G0 (v:=(.agg (Ac a))) (j:=0) hI J J J J J J J fun g=>G0 (v:=(.I route)) (j:=1) hI J J J J J J J fun g1=>Z .nilf J Af<|Ab<|Bn ?_
 refine Aa<|Y<|Ad 2 [] [(4,(.func (.func 41) [] [(.q ids 1 g1),(.q ids 0 g)]))] ?_
 refine Ab<|Pc (K:=2) (N:=0) (a:=()) (vs:=[(.func (.func 41) [] [(.q ids 1 g1),(.q ids 0 g)])]) [some (.rows g 8 [(Ac a)]),some (.rows g1 1 [[(.I route)]])] Try.func31 hI J J J (.keep (.keep .nil)) (.same _) ⟨g,g1,J,J⟩
theorem J4 {σ_:Type}(b:Int)(c:Airspace)(b_:Leg→σ_→R σ_)(St_:σ_→O→Prop)(y_:YF)(o_ g_:Nat)(hy_ : ∀ (a0_:Leg),Yh Try.prog y_ o_ g_ [(.agg (Bv a0_))] St_ (b_ a0_))(hnp_ : ∀ (a0_:Leg) (s:σ_) (v:PV),b_ a0_ s≠.pan v)(s_:σ_)(hh_:O)(hs_:St_ s_ hh_):D3 b c b_ s_≠.bad→Bh Try.prog 41 [(.yld y_ o_ g_),(.cp [(.int .i64 b)] 0),(.cp (Ac c) 0)] hh_ (Rk St_ (D3 b c b_ s_)):=by
 refine Tt (n:=51) Try.func41 J (by decide) J J<|Cf (Ai (D3.eq_1 _ _ _ _) ?_)
 refine Aa<|Aa<|Y<|Z (.I b) J (A7 (Dv Ih J))<|Z (.bool (decide (b<0))) J (Av J J J)<|Z (.bool (decide (b<0))) J Ag<|Bz 6 [(0,(.yld y_ o_ g_)),(1,(.cp [(.I b)] 0)),(2,(.cp (Ac c) 0)),(15,(.bool ((decide (b<0))||(decide (b≥(c.Routes.length:Int))))))] ?_ fun hJ=>Bk (decide (b<0)) (fun hb1=>?_) (fun hb1=>?_)
 ·refine Ab<|Ds J (fun hc=>?_) (fun hc=>?_)
  ·refine Y<|Z (.agg []) J (Ex (Im Tl Adj J))<|Z (.iface 86 (.agg [])) J (Y0 Tl (by decide))<|Pz (v:=⟨86,.unit⟩) J J (Wh Try.func41 hs_)
  refine Aw<|Aa<|Y<|Z (.cp (Ac c) 4) J (Il (Nl (c:=0) (off:=4) (i:=4) Ct J Ic J))<|Z (.sl 7 (List.map A9 c.Routes)) J (A7 (Dv Ic J))<|Z (.I b) J (A7 (Dv Ih J))<|J1 fun a hz hx1=>?_
  refine Z (.cp (A9 a) 0) J (B3 (Hl Ic P4 J hz hx1))<|Z (.cp (A9 a) 6) J (Il (Nl (c:=0) (off:=6) (i:=6) P4 J Eg J))<|Z (.sl 1 (List.map (rI .i64) a.Segments)) J (A7 (Dv Eg J))<|Z (.I (a.Segments.length:Int)) J (Al (Ak Eg))<|Z (.I 0) J Ag<|Ab<|Ao ?_
  refine D7 [(0,(.yld y_ o_ g_)),(2,(.cp (Ac c) 0)),(23,(.sl 1 (List.map (rI .i64) a.Segments))),(24,(.I (a.Segments.length:Int))),(25,(.I 0))] (FI J)<|Hi (P:=Try.prog) a.Segments (fun _ a1=>fun s=>Df c b_ a1 s) (((fun s=>.ok s)):σ_→R σ_) (fun j=>fun s=>fun(fr:Nat→AV) (h:O) => ∃ (hh:O),St_ s hh∧fr=Ae [(0,(.yld y_ o_ g_)),(2,(.cp (Ac c) 0)),(23,(.sl 1 (List.map (rI .i64) a.Segments))),(24,(.I (a.Segments.length:Int))),(25,(.I (j:Int)))]∧hh=h) s_ ?_ ?_ ?_
  ·exact⟨_,hs_,J,J⟩
  ·rintro j a1 ha1 W hW s fr h ⟨hh,vHs,rfl,rfl⟩
   refine Ai (m':=Df c b_ a1 s) J (Ai (Df.eq_1 _ _ _ _) ?_)
   refine Aa<|Y<|Z (.bool (decide ((j:Int)<(a.Segments.length:Int)))) J (Av J J J)<|Ab<|Aa<|Fh (t:=23) (L:=a.Segments) J fun hlim=>Dj J (Int.ofNat_lt.2 (Aq ha1)) ?_
   refine Aw<|Aa<|Ao<|Aa<|Y<|Z (.cp [(.I a1)] 0) J (B3 (Ek Eg Ih J ha1))<|Z (.I a1) J (A7 (Dv Ih J)) ?_
   refine Z (.I a1) J Af<|Ab<|Aa<|Y<|Z (.agg (Ac c)) J (A7 (Dv Ct J))<|Z (.I a1) J Ag<|B9 [(.agg (Ac c)),(.I a1)] J J J J ((Hr c a1) _) (fun v _=>Wh Try.func41 vHs) fun m _=>?_
   refine Z (.sl 2 (List.map Ah m)) J Af<|Ab<|Aa<|O8 U6 [[],[],[],[2],[],[2,3,4],[2,3,4,5],[2,3,4,5,6],[],[8],[],[8,9,10],[8,9,10,11],[8,9,10,11,12],[],[1,2,3,4,5,6,7,8,9,10,11,12,13,14],[0,1,2,3,4,5,6,7,8,9,10,11,12,13,14,15],[0,1,2,3,4,5,6,7,8,9,10,11,12,13,14,15,16]] [(false,0),(false,1),(false,2),(false,3),(false,4),(false,5),(false,6),(false,7),(false,8),(false,9),(false,10),(false,11),(false,12),(false,13),(false,14),(false,15),(true,16),(false,17)] (by kernel_rfl)<|Au (.yld y_ o_ g_) J J Ag<|Au (.I a1) J J Ag<|Au (.cp (Ac c) 3) J J (Il (Nl (c:=0) (off:=3) (i:=3) Ct J Fa J)) ?_
   refine Au (.sl 5 (List.map Aj c.Segments)) J J (A7 (Dv Fa J))<|Au (.I a1) J J Ag<|Th fun a2 hz1 hx2=>Au (.cp (Aj a2) 0) J J (B3 (Hl Fa G6 J hz1 hx2))<|Au (.cp (Aj a2) 2) J J (Il (Nl (c:=0) (off:=2) (i:=2) G6 J Ih J))<|Au (.I a2.Volume) J J (A7 (Dv Ih J))<|Au (.cp (Ac c) 3) J J (Il (Nl (c:=0) (off:=3) (i:=3) Ct J Fa J)) ?_
   refine Au (.sl 5 (List.map Aj c.Segments)) J J (A7 (Dv Fa J))<|Au (.I a1) J J Ag<|Au (.cp (Aj a2) 0) J J (B3 (Hl Fa G6 J hz1 hx2))<|Au (.cp (Aj a2) 3) J J (Il (Nl (c:=0) (off:=3) (i:=3) G6 J Ih J))<|Au (.I a2.Length) J J (A7 (Dv Ih J))<|Au (.sl 2 (List.map Ah m)) J J Ag<|Au (.agg [(.I a1),(.I a2.Volume),(.I a2.Length),(.sl 2 (List.map Ah m))]) J J (Ex (Im Ma Ac8 J)) ?_
   refine Zx (b:=b_ ({ Segment:=a1,Volume:=a2.Volume,Length:=a2.Length,Minutes:=m }:Leg)) J J J J vHs (hy_ ({ Segment:=a1,Volume:=a2.Volume,Length:=a2.Length,Minutes:=m }:Leg)) (hnp_ ({ Segment:=a1,Volume:=a2.Volume,Length:=a2.Length,Minutes:=m }:Leg) _) (fun _=>(Pd J (Pd J Fd))) fun s1 hb2 hh1 vHs1=>Au (.bool false) J J (Ra J)<|Mn<|Mk false J<|Aw<|A3<|Y ?_
   refine Z (.I (IntKind.wrap .i64 ((j:Int)+1))) J (Av J J J)<|Z (.I (IntKind.wrap .i64 ((j:Int)+1))) J Ag<|Ab<|Cw (L1 (hW s1 _ _ ⟨_,vHs1,J,J⟩)) (.cons J (.cons J (.cons J (.cons J (.cons (D1 (Aq ha1) hlim) .nil)))))
  rintro s fr h ⟨hh,vHs,rfl,rfl⟩
  refine Aa<|Y<|Z (.bool (decide ((a.Segments.length:Int)<(a.Segments.length:Int)))) J (Av J J J)<|Ab<|Aa<|Di J (Int.lt_irrefl _)<|C9 J ?_
  exact Wm Try.func41 J vHs
 ·refine A0 (t:=9) hb1 J<|Ii (tj:=9) (b:=true) J J J J<|Ii (tj:=9) (b:=true) J J J J<|Ii (tj:=9) (b:=true) J J J J<|Ii (tj:=9) (b:=true) J J J J<|Ii (tj:=9) (b:=true) J J J J<|Z (.bool true) J (Hx (t:=true) J J) ?_
  exact A4 hJ (.cons J (.cons J (.cons J (.cons (Fe hb1) .nil))))
 refine A0 (t:=9) hb1 J<|Ap (tj:=9) (.I b) J J J (A7 (Dv Ih J))<|Ap (tj:=9) (.cp (Ac c) 4) J J J (Il (Nl (c:=0) (off:=4) (i:=4) Ct J Ic J))<|Ap (tj:=9) (.sl 7 (List.map A9 c.Routes)) J J J (A7 (Dv Ic J))<|Ap (tj:=9) (.I (c.Routes.length:Int)) J J J (Al (Ak Ic))<|Ap (tj:=9) (.bool (decide (b≥(c.Routes.length:Int)))) J J J (Av J J J)<|Z (.bool (decide (b≥(c.Routes.length:Int)))) J (Hx (t:=false) J J) ?_
 exact A4 hJ (.cons J (.cons J (.cons J (.cons (E9 hb1) .nil))))
theorem N2 (a0:AV)(h:O):Dz Try.prog 30 [a0] .ret h (Jj (fun _:Unit=>h) .ret (.ok ())):=by
 refine Hk (n:=3) Try.func30 J (by decide) J J ?_ ⟨(),J⟩
 refine Cf (Ai (m':=(Cx).bind fun _ =>   .ok ()) J ?_)
 refine Y<|Pb J<|B9 [.nili,a0] J J J J ((F8 a0) _) (fun v hv=>by unfold Cx at hv; cases hv) fun _ _=>?_
 refine Ab<|Iw Try.func30 J J J
theorem Ln (h0:O)(ids:List Nat)(hI:Ids h0 ids 1)(g0_:Nat)(r0_:List AV)(hr0_:r0_.length=1):(∃ a,Ck=.ok a)→Dz Try.prog 30 [(.ptr (ix ids 0) g0_ 0 0)] (.pan (.iface 86 (.agg [])) false) (hp h0 ids [some (.rows g0_ 1 [r0_])]) (Jj (fun p=>hp h0 ids [some (.rows g0_ 1 [[(.int .i64 1)]])]) (.pan (.iface 86 (.agg [])) true) (Ck)):=by
 refine Hk (n:=3) Try.func30 J (by decide) J J<|Cf (Ai (Ck.eq_1) ?_)
 refine Y<|O4 J<|Ei [0] hI J J (Fl ({}:T85) _ (ix ids 0) r0_ g0_ hr0_ (by exact hI.sub' J J)) J J J J J J (fun v hv=>by unfold Bb at hv; cases hv) ?_
 rintro _ _ _ _ ⟨rfl,rfl⟩
 refine H4 [0] hI J J J ?_
 refine E5<|Ab<|Bn ?_
 exact Iw (a:=()) Try.func30 J J J
theorem Lr (a:Airspace)(route:Int):CP Try.prog 12 [(.agg (Ac a)),(.int .i64 route)] (Hn a route) (fun(p:((List Leg)×Int))=>AV.tup [(.sl 4 (List.map Bv p.1)),(.int .i64 p.2)]):=by
 show CP _ _ _ ((H2 a route).catch' (Cb 86 ((Ck).bind fun _=>.ok ([],1)) (fun _=>.bad))) _
 refine Lq (n:=18) 8 Try.func12 J (by decide) J J fun h0 ids hI=>?_
 have hU : ∀ (v:PV) (fr:Nat→AV) (xs:List (Option AO)) (g0_:Nat) (r0_:List AV) (hl_:xs.length=8) (hr0_:r0_.length=1) (hy_:xs.take 1=[some (.rows g0_ 1 [r0_])]) (hq4_:fr 4=.emp) (hq5_:fr 5=.q ids 0 g0_),WU Try.prog 12 18 false (H6 (fun(p:((List Leg)×Int))=>AV.tup [(.sl 4 (List.map Bv p.1)),(.I p.2)]) h0 (Cb 86 ((Ck).bind fun _=>.ok ([],1)) (fun _=>.bad))) (.pan v) (.pan v.av false) fr [⟨30,[.q ids 0 g0_]⟩] (hp h0 ids xs) .ret:=by
  intro v fr xs g0_ r0_ hl_ hr0_ hy_ hq4_ hq5_
  refine S5 (t:=86) J (fun hv=>?_) (fun hne86=>?_)
  ·subst hv
   exact Nr (Hc:=Ck) (fin:=fun _=>([],1)) (c:=1) (cells:=fun p=>[some (.rows g0_ 1 [[(.I 1)]])]) (vs:=fun p=>[.emp,(.I 1)]) Try.func12 hI hl_ J hy_ (by first | (rw [Er]; done) | (rw [Er]; rfl)) (fun hx=>by have:=Ln h0 (ids.take 1) (hI.take J) g0_ r0_ hr0_ hx; simp only [G5 (c:=1) (j:=0) J] at this; exact this) (by intro w; simp [Ck,Bb]) (fun p=>(Kg hq4_ (I2 hq5_ (Mr (hI.take J) (G5 J) J J J F2 J) Fb))) (fun p=>(.tupL (.cons (.emp _) (.cons (.same _) .nil))))
  exact S9 (by rw [Kd hne86])
 refine Cf (Ai (H2.eq_1 _ _) ?_)
 refine Aa<|Y<|G0 (v:=(.agg (Ac a))) (j:=1) hI J J J J J J J fun g=>Z .emp J Af<|De (j:=0) hI J J J J F2 J fun g1=>Ab<|Bn ?_
 refine Aa<|Y<|Z (.func (.func 30) [] [(.q ids 0 g1)]) J Mp<|Li J J J ?_
 refine V7<|Ab<|Aa<|Y<|De (j:=2) hI J J J J L4 J fun g2=>Ab<|Bn ?_
 refine Aa<|Aa<|Y<|Ad 2 [1] [(10,(.I route)),(9,(.agg (Ac a)))] ?_
 refine Ei [3,4] hI J J (Ks a route _ (ix ids 3) (ix ids 4) (by exact hI.sub' J J)) J J J J J J (fun v _=>Iz (hU v _ _ _ _ J J J J J)) ?_
 rintro _ _ _ _ ⟨g3,g4,rfl,rfl⟩
 refine H4 [3,4] hI J J J ?_
 refine E5<|Ab<|Bn ?_
 refine Ao<|T5 (h2:=hp h0 ids [(some (.rows g1 1 [[(.I 0)]])),(some (.rows g 8 [(Ac a)])),(some (.rows g2 1 [[.emp]])),none,none,none,none,none]) [(4,.emp),(5,(.q ids 0 g1)),(6,(.q ids 2 g2)),(11,(.func (.func 41) [] [(.cp [(.I route)] 0),(.cp (Ac a) 0)]))] (Drops.sub (.keep (.keep (.keep (.drop (.drop (.keep (.keep (.keep .nil)))))))) hI.len) (.cons (.same _) (.cons (.same _) (.cons (.same _) (.cons (.funcL .nil (.cons (.ptrL (hI.at J J) (hI.at J J) J (K6 _)) (.cons (.ptrL (hI.at J J) (hI.at J J) J (K6 _)) .nil))) .nil)))) J J<|G4 [(some (.rows g1 1 [[(.I 0)]])),none,(some (.rows g2 1 [[.emp]])),none,none,none,none,none] hI J (.keep (.drop (.keep (.keep (.keep (.keep (.keep (.keep .nil))))))))<|D7 [(4,.emp),(5,(.q ids 0 g1)),(6,(.q ids 2 g2)),(11,(.func (.func 41) [] [(.cp [(.I route)] 0),(.cp (Ac a) 0)]))] (FI J)<|Lc (P:=Try.prog) 5 (fun(gL:Nat) (r_L:Loop)=>fun l=>fun(h1:O) => ∃ (v:AV),∃ (g5:Nat),Co v (ix ids 7) g5 l.length∧h1=hp h0 ids [(some (.rows g1 1 [[(.I 0)]])),none,(some (.rows g2 1 [[v]])),none,none,(some (.blk gL (.loop r_L))),none,(Az v g5 4 (List.map Bv l))]:Nat→Loop→(List Leg)→O→Prop) J J hI J J J fun gL y_L r_L hl_L hy_L=>⟨?_,?_,?_,?_⟩
 ·refine J4 route a _ _ _ _ _ (fun a1=>Ok hl_L (by decide) J hy_L ?_ ?_) (fun _ _ _=>R.np_ne _ _) _ _ ?_
  ·rintro l _ ⟨v,g5,vH,rfl⟩
   exact hI.at J J
  ·rintro lo_ l _ ⟨v,g5,vH,rfl⟩
   refine W9 (Cf (Ai (m':=Ev a1 l) J (Ai (Ev.eq_1 _ _) ?_)))
   refine Tk [(12,(.agg (Bv a1))),(4,.emp),(5,(.q ids 0 g1)),(6,(.q ids 2 g2)),(11,(.func (.func 41) [] [(.cp [(.I route)] 0),(.cp (Ac a) 0)]))] (Lp _ _ _)<|Y<|De (j:=6) hI J J J J Ma J fun g6=>B4 (C4 (v:=(.agg (Bv a1))) hI J J J J Ma J J J J J)<|Ab<|Bn ?_
   refine Js hI J J J hl_L.ready<|Bn ?_
   refine Ao<|Y<|Ad 2 [2,6] [(14,(.agg (Bv a1))),(13,v)] ?_
   refine Fr (e:=Bv) (L:=[a1]) (st:=4) (rows:=[[(.I a1.Segment),(.I a1.Volume),(.I a1.Length),(.sl 2 (List.map Ah a1.Minutes))]]) J L4 Ma J J J J J (.cons (RowSim.refl _) .nil) (fun x=>Yr x) J J<|H3 fun hl=>Lt (e:=Bv) (L:=l) (L2:=[a1]) (v:=v) (g:=g5) (st:=4) (j:=7) hI J J J J vH J (Qy J) L4 L4 J Ma J J J hl fun v1 g7 vH1=>B4 (Mf vH1 hI J J J J L4 J J J)<|Ab<|Bn ?_
   refine A3<|G4 [(some (.rows g1 1 [[(.I 0)]])),none,(some (.rows g2 1 [[v1]])),none,none,(some (.blk gL (.loop { r_L with state:=.busy }))),none,(Az v1 g7 4 (List.map Bv (l++[a1])))] hI J (.keep (.keep (.keep (.keep (.keep (.keep (.drop (.keep .nil))))))))<|Po (s:=(l++[a1])) (jL:=5) hI J J J ⟨v1,g7,vH1,J⟩
  exact⟨.emp,0,.nil,J⟩
 ·rintro l _ ⟨v,g5,vH,rfl⟩
  exact hI.at J J
 ·rintro l _ _ ⟨v,g5,vH,rfl⟩
  refine T8 [(some (.rows g1 1 [[(.I 0)]])),none,(some (.rows g2 1 [[v]])),none,none,none,none,(Az v g5 4 (List.map Bv l))] hI J J J<|A3<|Aa<|Y<|Ad 2 [2] [(4,v)] ?_
  refine B4 (C4 (v:=(.I 0)) hI J J J J F2 J J J J J)<|Ab<|Rh (Iz (Wl (a:=(l,0)) (vs:=[v,(.I 0)]) Try.func12 hI (N2 _ _) (Ju (Hp (C6 hI J J J F2 J) Fb)) (.tupL (.cons (Ho vH (hI.at J J) (hI.out J) (fun x=>Yr x)) (.cons (.same _) .nil)))))
 rintro v2 _ l _ ⟨v,g5,vH,rfl⟩
 refine Tz [(some (.rows g1 1 [[(.I 0)]])),none,(some (.rows g2 1 [[v]])),none,none,none,none,(Az v g5 4 (List.map Bv l))] hI J J J<|Iz (hU v2 _ _ _ _ J J J J J)
theorem Qt (m:(List (Int×Bool)))(h0:O)(o0:Nat)(g:Nat)(hI0:Ids h0 [o0] 1):maps_Keys_34 m≠.bad→Bh Try.prog 34 [.map o0 g] (hp h0 [o0] [some (.mp g (mE (fun x:Int=>(AV.int .i64 x)) (fun x:Bool=>(AV.bool x)) m))]) (Km (fun a_ v h'=>v=(.func (.func 44) [] [(.cp0 [.map o0 g])])∧h'=hp h0 [o0] [some (.mp g (mE (fun x:Int=>(AV.int .i64 x)) (fun x:Bool=>(AV.bool x)) m))]) h0 (maps_Keys_34 m)):=fun _=>
 (W1 (.mk Try.func34 rfl (by decide)) Try.maps_Keys_34).mono (by rintro r h' ⟨rfl,rfl⟩; exact⟨_,rfl,rfl,rfl⟩)
theorem N1 (m:(List (Int×Bool)))(h0:O)(o0:Nat)(g:Nat)(hI0:Ids h0 [o0] 1):Fg m≠.bad→Bh Try.prog 33 [.func (.func 44) [] [(.cp0 [.map o0 g])]] (hp h0 [o0] [some (.mp g (mE (fun x:Int=>(AV.int .i64 x)) (fun x:Bool=>(AV.bool x)) m))]) (Km (fun a_ v h'=>v=(.sl 1 (List.map (rI .i64) a_))∧h'=hp h0 [o0] [some (.mp g (mE (fun x:Int=>(AV.int .i64 x)) (fun x:Bool=>(AV.bool x)) m))]) h0 (Fg m)):=
 Uu hI0 (.mk Try.func33 rfl (by decide)) Try.underlying3 Try.sorted_keys_33_34
theorem Lo (a0:AV)(h:O):Dz Try.prog 32 [a0] .ret h (Jj (fun _:Unit=>h) .ret (.ok ())):=by
 refine Hk (n:=3) Try.func32 J (by decide) J J ?_ ⟨(),J⟩
 refine Cf (Ai (m':=(Cx).bind fun _ =>   .ok ()) J ?_)
 refine Y<|Pb J<|B9 [.nili,a0] J J J J ((F8 a0) _) (fun v hv=>by unfold Cx at hv; cases hv) fun _ _=>?_
 refine Ab<|Iw Try.func32 J J J
theorem J6 (h0:O)(ids:List Nat)(hI:Ids h0 ids 1)(g0_:Nat)(r0_:List AV)(hr0_:r0_.length=1):(∃ a,B2=.ok a)→Dz Try.prog 32 [(.ptr (ix ids 0) g0_ 0 0)] (.pan (.iface 86 (.agg [])) false) (hp h0 ids [some (.rows g0_ 1 [r0_])]) (Jj (fun p=>hp h0 ids [some (.rows g0_ 1 [[(.int .i64 1)]])]) (.pan (.iface 86 (.agg [])) true) (B2)):=by
 refine Hk (n:=3) Try.func32 J (by decide) J J<|Cf (Ai (B2.eq_1) ?_)
 refine Y<|O4 J<|Ei [0] hI J J (Fl ({}:T85) _ (ix ids 0) r0_ g0_ hr0_ (by exact hI.sub' J J)) J J J J J J (fun v hv=>by unfold Bb at hv; cases hv) ?_
 rintro _ _ _ _ ⟨rfl,rfl⟩
 refine H4 [0] hI J J J ?_
 refine E5<|Ab<|Bn ?_
 exact Iw (a:=()) Try.func32 J J J
theorem G8 (a:Airspace):CP Try.prog 16 [(.agg (Ac a))] (Cs a) (fun(p:((List Int)×Int))=>AV.tup [(.sl 1 (List.map (rI .i64) p.1)),(.int .i64 p.2)]):=by
 show CP _ _ _ ((Fy a).catch' (Cb 86 ((B2).bind fun _=>.ok ([],1)) (fun _=>.bad))) _
 refine Lq (n:=29) 4 Try.func16 J (by decide) J J fun h0 ids hI=>?_
 have hU : ∀ (v:PV) (fr:Nat→AV) (xs:List (Option AO)) (g0_:Nat) (r0_:List AV) (hl_:xs.length=4) (hr0_:r0_.length=1) (hy_:xs.take 1=[some (.rows g0_ 1 [r0_])]) (hq2_:fr 2=.emp) (hq3_:fr 3=.q ids 0 g0_),WU Try.prog 16 29 false (H6 (fun(p:((List Int)×Int))=>AV.tup [(.sl 1 (List.map (rI .i64) p.1)),(.I p.2)]) h0 (Cb 86 ((B2).bind fun _=>.ok ([],1)) (fun _=>.bad))) (.pan v) (.pan v.av false) fr [⟨32,[.q ids 0 g0_]⟩] (hp h0 ids xs) .ret:=by
  intro v fr xs g0_ r0_ hl_ hr0_ hy_ hq2_ hq3_
  refine S5 (t:=86) J (fun hv=>?_) (fun hne86=>?_)
  ·subst hv
   exact Nr (Hc:=B2) (fin:=fun _=>([],1)) (c:=1) (cells:=fun p=>[some (.rows g0_ 1 [[(.I 1)]])]) (vs:=fun p=>[.emp,(.I 1)]) Try.func16 hI hl_ J hy_ (by first | (rw [Er]; done) | (rw [Er]; rfl)) (fun hx=>by have:=J6 h0 (ids.take 1) (hI.take J) g0_ r0_ hr0_ hx; simp only [G5 (c:=1) (j:=0) J] at this; exact this) (by intro w; simp [B2,Bb]) (fun p=>(Kg hq2_ (I2 hq3_ (Mr (hI.take J) (G5 J) J J J F2 J) Fb))) (fun p=>(.tupL (.cons (.emp _) (.cons (.same _) .nil))))
  exact S9 (by rw [Kd hne86])
 refine Cf (Ai (Fy.eq_1 _) ?_)
 refine Aa<|Y<|G0 (v:=(.agg (Ac a))) (j:=1) hI J J J J J J J fun g=>Z .emp J Af<|De (j:=0) hI J J J J F2 J fun g1=>Ab<|Bn ?_
 refine Aa<|Y<|Z (.func (.func 32) [] [(.q ids 0 g1)]) J Mp<|Li J J J ?_
 refine Ab<|Aa<|Y<|Xc (j:=2) hI J J J J fun g2=>Z (.map (ix ids 2) g2) J Af<|Ab<|Bn ?_
 refine Aa<|Aa<|Y<|Ad 2 [1] [(10,(.sl 5 (List.map Aj a.Segments)))] ?_
 refine Z (.I (a.Segments.length:Int)) J (Al (Ak Fa))<|Z (.I 0) J Ag<|Ab<|Ao<|D7 [(1,(.q ids 1 g)),(2,.emp),(3,(.q ids 0 g1)),(4,(.map (ix ids 2) g2)),(10,(.sl 5 (List.map Aj a.Segments))),(11,(.I (a.Segments.length:Int))),(12,(.I 0))] (FI J)<|Hi (P:=Try.prog) a.Segments (fun j a1=>fun m=>C3 a j a1 m) (((fun m=>(maps_Keys_34 m).bind fun _=>(Fg m).bind fun l=>.ok (l,0))):(List (Int×Bool))→R ((List Int)×Int)) (fun j=>fun m=>fun(fr:Nat→AV) (h:O)=>fr=Ae [(1,(.q ids 1 g)),(2,.emp),(3,(.q ids 0 g1)),(4,(.map (ix ids 2) g2)),(10,(.sl 5 (List.map Aj a.Segments))),(11,(.I (a.Segments.length:Int))),(12,(.I (j:Int)))]∧h=hp h0 ids [(some (.rows g1 1 [[(.I 0)]])),(some (.rows g 8 [(Ac a)])),(some (.mp g2 (mE (fun x:Int=>(AV.I x)) (fun x:Bool=>(AV.bool x)) m))),none]) [] ?_ ?_ ?_
 ·exact⟨J,J⟩
 ·rintro j a1 ha1 W hW m fr h ⟨rfl,rfl⟩
  refine Ai (m':=C3 a j a1 m) J (Ai (C3.eq_1 _ _ _ _) ?_)
  refine Aa<|Y<|Z (.bool (decide ((j:Int)<(a.Segments.length:Int)))) J (Av J J J)<|Ab<|Aa<|Fh (t:=10) (L:=a.Segments) J fun hlim=>Dj J (Int.ofNat_lt.2 (Aq ha1)) ?_
  refine Aw<|Aa<|Ao<|Aa<|Y<|Z (.I (j:Int)) J Ag<|Z (.cp (Aj a1) 0) J (B3 (Ek Fa G6 J ha1)) ?_
  refine Z (.agg (Aj a1)) J (A7 (Dv G6 J))<|De (j:=3) hI J J J J G6 J fun g3=>Z (.I (j:Int)) J Af<|B4 (C4 (v:=(.agg (Aj a1))) hI J J J J G6 J J J J J)<|Ab<|Bn ?_
  refine Aa<|Y<|Ad 2 [1] [(18,(.I (j:Int))),(17,(.agg (Ac a)))] ?_
  refine B9 [(.agg (Ac a)),(.I (j:Int))] J J J J ((Hr a (j:Int)) _) (fun v _=>hU v _ _ _ _ J J J J J) fun r _=>Z (.I (r.length:Int)) J (Al (Ak Dw))<|Z (.bool (decide ((r.length:Int) > 0))) J (Av J J J)<|Ab<|Lm J (fun hc=>?_) (fun hc=>?_)
  ·refine Y<|Ad 3 [3] [(24,(.I a1.Volume)),(22,(.map (ix ids 2) g2))] ?_
   refine Us (j:=2) (eK:=(fun x:Int=>(AV.I x))) (eV:=(fun x:Bool=>(AV.bool x))) (M:=m) (ky:=a1.Volume) (w:=true) hI J J J J J J Ac2 Ih Y5<|Ab<|Bn ?_
   refine A3<|Y<|Ad 2 [] [(12,(.I (IntKind.wrap .i64 ((j:Int)+1))))] ?_
   refine Ab<|G4 [(some (.rows g1 1 [[(.I 0)]])),(some (.rows g 8 [(Ac a)])),(some (.mp g2 (mE (fun x:Int=>(AV.I x)) (fun x:Bool=>(AV.bool x)) (E1 m a1.Volume true)))),none] hI J (.keep (.keep (.keep (.drop .nil))))<|Cw (L1 (hW (E1 m a1.Volume true) _ _ ⟨J,J⟩)) (.cons J (.cons J (.cons J (.cons J (.cons J (.cons J (.cons (D1 (Aq ha1) hlim) .nil)))))))
  refine Aw<|A3<|Y<|Ad 2 [] [(12,(.I (IntKind.wrap .i64 ((j:Int)+1))))] ?_
  refine Ab<|G4 [(some (.rows g1 1 [[(.I 0)]])),(some (.rows g 8 [(Ac a)])),(some (.mp g2 (mE (fun x:Int=>(AV.I x)) (fun x:Bool=>(AV.bool x)) m))),none] hI J (.keep (.keep (.keep (.drop .nil))))<|Cw (L1 (hW m _ _ ⟨J,J⟩)) (.cons J (.cons J (.cons J (.cons J (.cons J (.cons J (.cons (D1 (Aq ha1) hlim) .nil)))))))
 rintro m fr h ⟨rfl,rfl⟩
 refine Aa<|Y<|Z (.bool (decide ((a.Segments.length:Int)<(a.Segments.length:Int)))) J (Av J J J)<|Ab<|Aa<|Di J (Int.lt_irrefl _)<|C9 J ?_
 refine Aa<|Y<|Z (.map (ix ids 2) g2) J Ag<|Ei [2] hI J J (Qt m _ (ix ids 2) g2 (by exact hI.sub' J J)) J J J J J J (fun v _=>hU v _ _ _ _ J J J J J) ?_
 rintro _ _ _ _ ⟨rfl,rfl⟩
 refine H4 [2] hI J J J ?_
 refine E5<|Ei [2] hI J J (N1 m _ (ix ids 2) g2 (by exact hI.sub' J J)) J J J J J J (fun v _=>hU v _ _ _ _ J J J J J) ?_
 rintro l _ _ _ ⟨rfl,rfl⟩
 refine H4 [2] hI J J J ?_
 refine E5<|Z (.sl 1 (List.map (rI .i64) l)) J Af<|B4 (C4 (v:=(.I 0)) hI J J J J F2 J J J J J)<|Ab<|Wo (a:=(l,0)) (vs:=[(.sl 1 (List.map (rI .i64) l)),(.I 0)]) Try.func16 hI (Lo _ _) (Ju (Hp (C6 hI J J J F2 J) Fb)) (.tupL (.cons (.same _) (.cons (.same _) .nil)))
theorem L3 (a0:AV)(h:O):Dz Try.prog 35 [a0] .ret h (Jj (fun _:Unit=>h) .ret (.ok ())):=by
 refine Hk (n:=3) Try.func35 J (by decide) J J ?_ ⟨(),J⟩
 refine Cf (Ai (m':=(Cx).bind fun _ =>   .ok ()) J ?_)
 refine Y<|Pb J<|B9 [.nili,a0] J J J J ((F8 a0) _) (fun v hv=>by unfold Cx at hv; cases hv) fun _ _=>?_
 refine Ab<|Iw Try.func35 J J J
theorem Ko (h0:O)(ids:List Nat)(hI:Ids h0 ids 1)(g0_:Nat)(r0_:List AV)(hr0_:r0_.length=1):(∃ a,B8=.ok a)→Dz Try.prog 35 [(.ptr (ix ids 0) g0_ 0 0)] (.pan (.iface 86 (.agg [])) false) (hp h0 ids [some (.rows g0_ 1 [r0_])]) (Jj (fun p=>hp h0 ids [some (.rows g0_ 1 [[(.int .i64 1)]])]) (.pan (.iface 86 (.agg [])) true) (B8)):=by
 refine Hk (n:=3) Try.func35 J (by decide) J J<|Cf (Ai (B8.eq_1) ?_)
 refine Y<|O4 J<|Ei [0] hI J J (Fl ({}:T85) _ (ix ids 0) r0_ g0_ hr0_ (by exact hI.sub' J J)) J J J J J J (fun v hv=>by unfold Bb at hv; cases hv) ?_
 rintro _ _ _ _ ⟨rfl,rfl⟩
 refine H4 [0] hI J J J ?_
 refine E5<|Ab<|Bn ?_
 exact Iw (a:=()) Try.func35 J J J
theorem Ft (a:Airspace):CP Try.prog 18 [(.agg (Ac a))] (B0 a) (fun(p:((List Int)×Int))=>AV.tup [(.sl 1 (List.map (rI .i64) p.1)),(.int .i64 p.2)]):=by
 show CP _ _ _ ((F7 a).catch' (Cb 86 ((B8).bind fun _=>.ok ([],1)) (fun _=>.bad))) _
 refine Lq (n:=33) 8 Try.func18 J (by decide) J J fun h0 ids hI=>?_
 have hU : ∀ (v:PV) (fr:Nat→AV) (xs:List (Option AO)) (g0_:Nat) (r0_:List AV) (hl_:xs.length=8) (hr0_:r0_.length=1) (hy_:xs.take 1=[some (.rows g0_ 1 [r0_])]) (hq2_:fr 2=.emp) (hq3_:fr 3=.q ids 0 g0_),WU Try.prog 18 33 false (H6 (fun(p:((List Int)×Int))=>AV.tup [(.sl 1 (List.map (rI .i64) p.1)),(.I p.2)]) h0 (Cb 86 ((B8).bind fun _=>.ok ([],1)) (fun _=>.bad))) (.pan v) (.pan v.av false) fr [⟨35,[.q ids 0 g0_]⟩] (hp h0 ids xs) .ret:=by
  intro v fr xs g0_ r0_ hl_ hr0_ hy_ hq2_ hq3_
  refine S5 (t:=86) J (fun hv=>?_) (fun hne86=>?_)
  ·subst hv
   exact Nr (Hc:=B8) (fin:=fun _=>([],1)) (c:=1) (cells:=fun p=>[some (.rows g0_ 1 [[(.I 1)]])]) (vs:=fun p=>[.emp,(.I 1)]) Try.func18 hI hl_ J hy_ (by first | (rw [Er]; done) | (rw [Er]; rfl)) (fun hx=>by have:=Ko h0 (ids.take 1) (hI.take J) g0_ r0_ hr0_ hx; simp only [G5 (c:=1) (j:=0) J] at this; exact this) (by intro w; simp [B8,Bb]) (fun p=>(Kg hq2_ (I2 hq3_ (Mr (hI.take J) (G5 J) J J J F2 J) Fb))) (fun p=>(.tupL (.cons (.emp _) (.cons (.same _) .nil))))
  exact S9 (by rw [Kd hne86])
 refine Cf (Ai (F7.eq_1 _) ?_)
 refine Aa<|Y<|G0 (v:=(.agg (Ac a))) (j:=1) hI J J J J J J J fun g=>Z .emp J Af<|De (j:=0) hI J J J J F2 J fun g1=>Ab<|Bn ?_
 refine Aa<|Y<|Z (.func (.func 35) [] [(.q ids 0 g1)]) J Mp<|Li J J J ?_
 refine V7<|Ab<|Aa<|Y<|Z .emp J Af<|Ab<|Aa ?_
 refine Aa<|Y<|Ad 2 [1] [(10,(.sl 7 (List.map A9 a.Routes)))] ?_
 refine Z (.I (a.Routes.length:Int)) J (Al (Ak Ic))<|Z (.I 0) J Ag<|Ab<|Ao<|Fh (t:=10) (L:=a.Routes) J fun hlim=>D7 [(1,(.q ids 1 g)),(2,.emp),(3,(.q ids 0 g1)),(4,.emp),(11,(.I (a.Routes.length:Int))),(12,(.I 0))] (FI J)<|Hi (P:=Try.prog) a.Routes (fun j _=>fun x1=>Dg a j x1) (((fun x1=>.ok (x1,0))):(List Int)→R ((List Int)×Int)) (fun j=>fun x1=>fun(fr:Nat→AV) (h:O) => ∃ (v:AV),∃ (g2:Nat),Co v (ix ids 7) g2 x1.length∧fr=Ae [(1,(.q ids 1 g)),(2,.emp),(3,(.q ids 0 g1)),(4,v),(11,(.I (a.Routes.length:Int))),(12,(.I (j:Int)))]∧h=hp h0 ids [(some (.rows g1 1 [[(.I 0)]])),(some (.rows g 8 [(Ac a)])),none,none,none,none,none,(Az v g2 1 (List.map (rI .i64) x1))]) [] ?_ ?_ ?_
 ·exact⟨.emp,0,.nil,J,J⟩
 ·rintro j a1 ha1 W hW x1 fr h ⟨v,g2,vH,rfl,rfl⟩
  refine Ai (m':=Dg a j x1) J (Ai (Dg.eq_1 _ _ _) ?_)
  refine Aa<|Y<|Z (.bool (decide ((j:Int)<(a.Routes.length:Int)))) J (Av J J J)<|Ab<|Aa<|Dj J (Int.ofNat_lt.2 (Aq ha1))<|Aw ?_
  refine Aa<|Ao<|Aa<|Y<|Ad 2 [] [(5,(.I (j:Int)))] ?_
  refine Ab<|Aa<|Y<|De (j:=2) hI J J J J Lk J fun g3=>B4 (C4 (v:=(.bool false)) hI J J J J Lk J J J J J)<|Ab<|Bn ?_
  refine Aa<|Aa<|Y<|Ad 2 [1] [(16,(.I (j:Int))),(15,(.agg (Ac a)))] ?_
  refine Ei [3,4] hI J J (Ks a (j:Int) _ (ix ids 3) (ix ids 4) (by exact hI.sub' J J)) J J J J J J (fun v _=>Iz (hU v _ _ _ _ J J J J J)) ?_
  rintro _ _ _ _ ⟨g4,g5,rfl,rfl⟩
  refine H4 [3,4] hI J J J ?_
  refine E5<|Ab<|Bn ?_
  refine Ao<|T5 (h2:=hp h0 ids [(some (.rows g1 1 [[(.I 0)]])),(some (.rows g 8 [(Ac a)])),(some (.rows g3 1 [[(.bool false)]])),none,none,none,none,(Az v g2 1 (List.map (rI .i64) x1))]) [(1,(.q ids 1 g)),(2,.emp),(3,(.q ids 0 g1)),(4,v),(5,(.I (j:Int))),(6,(.q ids 2 g3)),(11,(.I (a.Routes.length:Int))),(12,(.I (j:Int))),(17,(.func (.func 41) [] [(.cp [(.I (j:Int))] 0),(.cp (Ac a) 0)]))] (Drops.sub (.keep (.keep (.keep (.drop (.drop (.keep (.keep (.keep .nil)))))))) hI.len) (.cons (.same _) (.cons (.same _) (.cons (.same _) (.cons (.same _) (.cons (.same _) (.cons (.same _) (.cons (.same _) (.cons (.same _) (.cons (.funcL .nil (.cons (.ptrL (hI.at J J) (hI.at J J) J (K6 _)) (.cons (.ptrL (hI.at J J) (hI.at J J) J (K6 _)) .nil))) .nil))))))))) J J<|D7 [(1,(.q ids 1 g)),(2,.emp),(3,(.q ids 0 g1)),(4,v),(5,(.I (j:Int))),(6,(.q ids 2 g3)),(11,(.I (a.Routes.length:Int))),(12,(.I (j:Int))),(17,(.func (.func 41) [] [(.cp [(.I (j:Int))] 0),(.cp (Ac a) 0)]))] (FI J)<|Lc (P:=Try.prog) 5 (fun(gL:Nat) (r_L:Loop)=>fun o=>fun(h1:O)=>h1=hp h0 ids [(some (.rows g1 1 [[(.I 0)]])),(some (.rows g 8 [(Ac a)])),(some (.rows g3 1 [[(.bool o)]])),none,none,(some (.blk gL (.loop r_L))),none,(Az v g2 1 (List.map (rI .i64) x1))]:Nat→Loop→Bool→O→Prop) J J hI J J J fun gL y_L r_L hl_L hy_L=>⟨?_,?_,?_,?_⟩
  ·refine J4 (j:Int) a _ _ _ _ _ (fun a2=>Ok hl_L (by decide) J hy_L ?_ ?_) (fun _ _ _=>R.np_ne _ _) _ _ ?_
   ·rintro o _ rfl
    exact hI.at J J
   ·rintro lo_ o _ rfl
    refine W9 (Cf (Ai (m':=Fu a2 o) J (Ai (Fu.eq_1 _ _) ?_)))
    refine Tk [(18,(.agg (Bv a2))),(1,(.q ids 1 g)),(2,.emp),(3,(.q ids 0 g1)),(4,v),(5,(.I (j:Int))),(6,(.q ids 2 g3)),(11,(.I (a.Routes.length:Int))),(12,(.I (j:Int))),(17,(.func (.func 41) [] [(.cp [(.I (j:Int))] 0),(.cp (Ac a) 0)]))] (Lp _ _ _)<|Y<|De (j:=6) hI J J J J Ma J fun g6=>B4 (C4 (v:=(.agg (Bv a2))) hI J J J J Ma J J J J J)<|Ab<|Bn ?_
    refine Js hI J J J hl_L.ready<|Bn ?_
    refine Ao<|Y<|Ad 2 [2] [(20,(.bool o))] ?_
    refine Bz 5 [(1,(.q ids 1 g)),(2,.emp),(3,(.q ids 0 g1)),(4,v),(6,(.q ids 2 g3)),(25,(.bool (o||((a2.Minutes.length:Int)==0))))] ?_ fun hJ=>Bk o (fun hb1=>?_) (fun hb1=>?_)
    ·refine B4 (C4 (v:=(.bool (o||((a2.Minutes.length:Int)==0)))) hI J J J J Lk J J J J J)<|Ab<|Bn ?_
     refine A3<|G4 [(some (.rows g1 1 [[(.I 0)]])),(some (.rows g 8 [(Ac a)])),(some (.rows g3 1 [[(.bool (o||((a2.Minutes.length:Int)==0)))]])),none,none,(some (.blk gL (.loop { r_L with state:=.busy }))),none,(Az v g2 1 (List.map (rI .i64) x1))] hI J (.keep (.keep (.keep (.keep (.keep (.keep (.drop (.keep .nil))))))))<|Po (s:=(o||((a2.Minutes.length:Int)==0))) (jL:=5) hI J J J J
    ·refine A0 (t:=20) hb1 J<|Ad 5 [] [(25,(.bool true))] ?_
     exact A4 hJ (.cons J (.cons J (.cons J (.cons J (.cons J (.cons (Fe hb1) .nil))))))
    refine A0 (t:=20) hb1 J<|Ad 2 [6] [(22,(.sl 2 (List.map Ah a2.Minutes)))] ?_
    refine Ap (tj:=20) (.I (a2.Minutes.length:Int)) J J J (Al (Ak Dw))<|Ad 2 [] [(25,(.bool ((a2.Minutes.length:Int)==0)))] ?_
    exact A4 hJ (.cons J (.cons J (.cons J (.cons J (.cons J (.cons (E9 hb1) .nil))))))
   exact J
  ·rintro o _ rfl
   exact hI.at J J
  ·rintro o _ _ rfl
   refine T8 [(some (.rows g1 1 [[(.I 0)]])),(some (.rows g 8 [(Ac a)])),(some (.rows g3 1 [[(.bool o)]])),none,none,none,none,(Az v g2 1 (List.map (rI .i64) x1))] hI J J J<|A3<|Aa<|Y<|Ad 1 [2] [(26,(.bool o))] ?_
   refine Ab<|Ds J (fun hc=>?_) (fun hc=>?_)
   ·refine Y<|Ad 2 [] [(28,(.I (j:Int))),(27,v)] ?_
    refine Fr (e:=(rI .i64)) (L:=[(j:Int)]) (st:=1) (rows:=[[(.I (j:Int))]]) J Eg Ih J J J J J (.cons (RowSim.refl _) .nil) (fun x=>Og x) J J<|H3 fun hl=>Lt (e:=(rI .i64)) (L:=x1) (L2:=[(j:Int)]) (v:=v) (g:=g2) (st:=1) (j:=7) hI J J J J vH J (Qy J) Eg Eg J Ih J J J hl fun v2 g7 vH1=>Z v2 J Af<|Ab<|Bn ?_
    refine A3<|Y<|Ad 2 [] [(12,(.I (IntKind.wrap .i64 ((j:Int)+1))))] ?_
    refine Ab<|G4 [(some (.rows g1 1 [[(.I 0)]])),(some (.rows g 8 [(Ac a)])),none,none,none,none,none,(Az v2 g7 1 (List.map (rI .i64) (x1++[(j:Int)])))] hI J (.keep (.keep (.drop (.keep (.keep (.keep (.keep (.keep .nil))))))))<|Cw (L1 (hW (x1++[(j:Int)]) _ _ ⟨v2,g7,vH1,J,J⟩)) (.cons J (.cons J (.cons J (.cons J (.cons J (.cons (D1 (Aq ha1) hlim) .nil))))))
   refine Aw<|A3<|Y<|Ad 2 [] [(12,(.I (IntKind.wrap .i64 ((j:Int)+1))))] ?_
   refine Ab<|G4 [(some (.rows g1 1 [[(.I 0)]])),(some (.rows g 8 [(Ac a)])),none,none,none,none,none,(Az v g2 1 (List.map (rI .i64) x1))] hI J (.keep (.keep (.drop (.keep (.keep (.keep (.keep (.keep .nil))))))))<|Cw (L1 (hW x1 _ _ ⟨v,g2,vH,J,J⟩)) (.cons J (.cons J (.cons J (.cons J (.cons J (.cons (D1 (Aq ha1) hlim) .nil))))))
  rintro v1 _ o _ rfl
  refine Tz [(some (.rows g1 1 [[(.I 0)]])),(some (.rows g 8 [(Ac a)])),(some (.rows g3 1 [[(.bool o)]])),none,none,none,none,(Az v g2 1 (List.map (rI .i64) x1))] hI J J J<|Iz (hU v1 _ _ _ _ J J J J J)
 rintro x1 fr h ⟨v,g2,vH,rfl,rfl⟩
 refine Aa<|Y<|Z (.bool (decide ((a.Routes.length:Int)<(a.Routes.length:Int)))) J (Av J J J)<|Ab<|Aa<|Di J (Int.lt_irrefl _)<|C9 J ?_
 refine Aa<|Y<|Ad 2 [] [(2,v)] ?_
 refine B4 (C4 (v:=(.I 0)) hI J J J J F2 J J J J J)<|Ab<|Rh (Iz (Wl (a:=(x1,0)) (vs:=[v,(.I 0)]) Try.func18 hI (L3 _ _) (Ju (Hp (C6 hI J J J F2 J) Fb)) (.tupL (.cons (Ho vH (hI.at J J) (hI.out J) (fun x=>Og x)) (.cons (.same _) .nil)))))
theorem Jy (a:List Span)(b:List Span):CP Try.prog 14 [(.sl 2 (List.map Ah a)),(.sl 2 (List.map Ah b))] (D5 a b) (fun(x:Bool)=>(AV.bool x)):=by
 refine He (n:=26) 0 Try.func14 J (by decide) J J fun h0 ids hI=>Cf (Ai (D5.eq_1 _ _) ?_)
 refine Aa<|Y<|Z (.bool false) J Af<|Ab<|Aa<|Aa<|Y ?_
 refine Z (.sl 2 (List.map Ah a)) J Ag<|Z (.I (a.length:Int)) J (Al (Ak Dw))<|Z (.sl 2 (List.map Ah b)) J Ag<|Z (.I (b.length:Int)) J (Al (Ak Dw))<|Z (.bool ((a.length:Int) != (b.length:Int))) J (Av J J J)<|Ab<|Ds J (fun hc=>?_) (fun hc=>?_)
 ·refine Aa<|Y<|Z (.bool false) J Af<|Ab<|C5 (a:=false) (vs:=[(.bool false)]) Try.func14 hI J (.same _)
 refine Aw<|Aa<|Aa<|Y<|Z (.I 0) J Af<|Ab<|Ao ?_
 refine D7 [(0,(.sl 2 (List.map Ah a))),(1,(.sl 2 (List.map Ah b))),(5,(.I 0))] (FI J)<|Gx (P:=Try.prog) a (fun j a1=>fun _=>Ep b j a1) ((D9 (fun _=>.ok true) (fun r=>.ok r)):(Unit ⊕ Bool)→R Bool) (fun j=>fun _=>fun(fr:Nat→AV) (h:O)=>fr=Ae [(0,(.sl 2 (List.map Ah a))),(1,(.sl 2 (List.map Ah b))),(5,(.I (j:Int)))]∧h=hp h0 ids []) () ?_ ?_ ?_
 ·exact⟨J,J⟩
 ·rintro j a1 ha1 W hW _ fr h ⟨rfl,rfl⟩
  refine Ai (m':=Ep b j a1) J (Ai (Ep.eq_1 _ _ _) ?_)
  refine Aa<|Aa<|Y<|Ad 2 [] [(12,(.sl 2 (List.map Ah a))),(11,(.I (j:Int)))] ?_
  refine Z (.I (a.length:Int)) J (Al (Ak Dw))<|Z (.bool (decide ((j:Int)<(a.length:Int)))) J (Av J J J)<|Ab<|Fh (t:=0) (L:=a) J fun hlim=>Dj J (Int.ofNat_lt.2 (Aq ha1))<|Aw<|Aa ?_
  refine Ao<|Aa<|O8 U6 [[],[],[0,1],[0,1,2],[],[],[4,5],[4,5,6],[0,1,2,3,4,5,6,7]] [(false,0),(false,1),(false,2),(false,3),(false,4),(false,5),(false,6),(false,7),(false,8)] (by kernel_rfl)<|Au (.sl 2 (List.map Ah a)) J J Ag<|Au (.I (j:Int)) J J Ag<|Au (.cp (Ah a1) 0) J J (B3 (Ek Dw E4 J ha1))<|Au (.agg (Ah a1)) J J (A7 (Dv E4 J)) ?_
  refine Au (.sl 2 (List.map Ah b)) J J Ag<|Au (.I (j:Int)) J J Ag<|Th fun a2 hz hx1=>Au (.cp (Ah a2) 0) J J (B3 (Hl Dw E4 J hz hx1))<|Au (.agg (Ah a2)) J J (A7 (Dv E4 J))<|Au (.bool (!((a1.From==a2.From)&&(a1.To==a2.To)))) J J (Av (Acg J J) J Acd)<|Mn ?_
  refine Nx J (fun hc1=>?_) (fun hc1=>?_)
  ·refine Aw<|A3<|Y<|Ad 3 [] [(5,(.I (IntKind.wrap .i64 ((j:Int)+1))))] ?_
   refine Ab<|Cw (H7 (hW () _ _ ⟨J,J⟩)) (.cons J (.cons J (.cons (D1 (Aq ha1) hlim) .nil)))
  refine Aa<|Y<|Z (.bool false) J Af<|Ab<|H9<|I1<|C5 (a:=false) (vs:=[(.bool false)]) Try.func14 hI J (.same _)
 rintro _ fr h ⟨rfl,rfl⟩
 refine Ai (Hy _ _ _)<|Aa<|Aa<|Y<|Ad 2 [] [(12,(.sl 2 (List.map Ah a))),(11,(.I (a.length:Int)))] ?_
 refine Z (.I (a.length:Int)) J (Al (Ak Dw))<|Z (.bool (decide ((a.length:Int)<(a.length:Int)))) J (Av J J J)<|Ab<|Di J (Int.lt_irrefl _)<|C9 J<|Aa<|Y ?_
 refine Z (.bool true) J Af<|Ab<|C5 (a:=true) (vs:=[(.bool true)]) Try.func14 hI J (.same _)
theorem Kt (a:List Int)(b:List Int):CP Try.prog 20 [(.sl 1 (List.map (rI .i64) a)),(.sl 1 (List.map (rI .i64) b))] (Cn a b) (fun(x:Bool)=>(AV.bool x)):=by
 refine He (n:=26) 0 Try.func20 J (by decide) J J fun h0 ids hI=>Cf (Ai (Cn.eq_1 _ _) ?_)
 refine Aa<|Y<|Z (.bool false) J Af<|Ab<|Aa<|Aa<|Y ?_
 refine Z (.sl 1 (List.map (rI .i64) a)) J Ag<|Z (.I (a.length:Int)) J (Al (Ak Eg))<|Z (.sl 1 (List.map (rI .i64) b)) J Ag<|Z (.I (b.length:Int)) J (Al (Ak Eg))<|Z (.bool ((a.length:Int) != (b.length:Int))) J (Av J J J)<|Ab<|Ds J (fun hc=>?_) (fun hc=>?_)
 ·refine Aa<|Y<|Z (.bool false) J Af<|Ab<|C5 (a:=false) (vs:=[(.bool false)]) Try.func20 hI J (.same _)
 refine Aw<|Aa<|Aa<|Y<|Z (.I 0) J Af<|Ab<|Ao ?_
 refine D7 [(0,(.sl 1 (List.map (rI .i64) a))),(1,(.sl 1 (List.map (rI .i64) b))),(5,(.I 0))] (FI J)<|Gx (P:=Try.prog) a (fun j a1=>fun _=>F6 b j a1) ((D9 (fun _=>.ok true) (fun r=>.ok r)):(Unit ⊕ Bool)→R Bool) (fun j=>fun _=>fun(fr:Nat→AV) (h:O)=>fr=Ae [(0,(.sl 1 (List.map (rI .i64) a))),(1,(.sl 1 (List.map (rI .i64) b))),(5,(.I (j:Int)))]∧h=hp h0 ids []) () ?_ ?_ ?_
 ·exact⟨J,J⟩
 ·rintro j a1 ha1 W hW _ fr h ⟨rfl,rfl⟩
  refine Ai (m':=F6 b j a1) J (Ai (F6.eq_1 _ _ _) ?_)
  refine Aa<|Aa<|Y<|Ad 2 [] [(12,(.sl 1 (List.map (rI .i64) a))),(11,(.I (j:Int)))] ?_
  refine Z (.I (a.length:Int)) J (Al (Ak Eg))<|Z (.bool (decide ((j:Int)<(a.length:Int)))) J (Av J J J)<|Ab<|Fh (t:=0) (L:=a) J fun hlim=>Dj J (Int.ofNat_lt.2 (Aq ha1))<|Aw<|Aa ?_
  refine Ao<|Aa<|O8 U6 [[],[],[0,1],[0,1,2],[],[],[4,5],[4,5,6],[0,1,2,3,4,5,6,7]] [(false,0),(false,1),(false,2),(false,3),(false,4),(false,5),(false,6),(false,7),(false,8)] (by kernel_rfl)<|Au (.sl 1 (List.map (rI .i64) a)) J J Ag<|Au (.I (j:Int)) J J Ag<|Au (.cp [(.I a1)] 0) J J (B3 (Ek Eg Ih J ha1))<|Au (.I a1) J J (A7 (Dv Ih J)) ?_
  refine Au (.sl 1 (List.map (rI .i64) b)) J J Ag<|Au (.I (j:Int)) J J Ag<|Th fun a2 hz hx1=>Au (.cp [(.I a2)] 0) J J (B3 (Hl Eg Ih J hz hx1))<|Au (.I a2) J J (A7 (Dv Ih J))<|Au (.bool (a1 != a2)) J J (Av J J J)<|Mn ?_
  refine Ds J (fun hc1=>?_) (fun hc1=>?_)
  ·refine Aa<|Y<|Z (.bool false) J Af<|Ab<|H9<|I1<|C5 (a:=false) (vs:=[(.bool false)]) Try.func20 hI J (.same _)
  refine Aw<|A3<|Y<|Ad 3 [] [(5,(.I (IntKind.wrap .i64 ((j:Int)+1))))] ?_
  refine Ab<|Cw (H7 (hW () _ _ ⟨J,J⟩)) (.cons J (.cons J (.cons (D1 (Aq ha1) hlim) .nil)))
 rintro _ fr h ⟨rfl,rfl⟩
 refine Ai (Hy _ _ _)<|Aa<|Aa<|Y<|Ad 2 [] [(12,(.sl 1 (List.map (rI .i64) a))),(11,(.I (a.length:Int)))] ?_
 refine Z (.I (a.length:Int)) J (Al (Ak Eg))<|Z (.bool (decide ((a.length:Int)<(a.length:Int)))) J (Av J J J)<|Ab<|Di J (Int.lt_irrefl _)<|C9 J<|Aa<|Y ?_
 refine Z (.bool true) J Af<|Ab<|C5 (a:=true) (vs:=[(.bool true)]) Try.func20 hI J (.same _)
theorem S0:CP Try.prog 8 [] (Jg) (fun(x:Bool)=>(AV.bool x)):=by
 refine He (n:=146) 1 Try.func8 J (by decide) J J fun h0 ids hI=>Cf (Ai (Jg.eq_1) ?_)
 refine Aa<|Y<|Z (.bool false) J Af<|Ab<|Aa<|Y<|B9 [] J J J J ((Qk) _) (fun v _=>Dr Try.func8 hI) fun r _=>?_
 refine De (j:=0) hI J J J J Ct J fun g=>B4 (C4 (v:=(.agg (Ac r))) hI J J J J Ct J J J J J)<|Ab<|Bn ?_
 refine Aa<|Y<|Ad 1 [0] [(20,(.agg (Ac r)))] ?_
 refine B9 [(.agg (Ac r)),(.I 0)] J J J J ((Jz r 0) _) (fun v _=>Dr Try.func8 hI) fun r1 _=>Ad 5 [] [(3,(.I r1.2)),(2,(.sl 2 (List.map Ah r1.1)))] ?_
 refine Ab<|Aa<|Y<|Ad 1 [0] [(25,(.agg (Ac r)))] ?_
 refine B9 [(.agg (Ac r)),(.I 1)] J J J J ((Lr r 1) _) (fun v _=>Dr Try.func8 hI) fun r2 _=>Ad 5 [] [(5,(.I r2.2)),(4,(.sl 4 (List.map Bv r2.1)))] ?_
 refine Ab<|Aa<|Y<|Ad 1 [0] [(30,(.agg (Ac r)))] ?_
 refine B9 [(.agg (Ac r)),(.I 2)] J J J J ((Lr r 2) _) (fun v _=>Dr Try.func8 hI) fun r3 _=>Ad 5 [] [(7,(.I r3.2)),(6,(.sl 4 (List.map Bv r3.1)))] ?_
 refine Ab<|Aa<|Y<|Ad 1 [0] [(35,(.agg (Ac r)))] ?_
 refine B9 [(.agg (Ac r))] J J J J ((G8 r) _) (fun v _=>Dr Try.func8 hI) fun r4 _=>Ad 5 [] [(9,(.I r4.2)),(8,(.sl 1 (List.map (rI .i64) r4.1)))] ?_
 refine Ab<|Aa<|Y<|Ad 1 [0] [(40,(.agg (Ac r)))] ?_
 refine B9 [(.agg (Ac r))] J J J J ((Ft r) _) (fun v _=>Dr Try.func8 hI) fun r5 _=>Ad 5 [] [(11,(.I r5.2)),(10,(.sl 1 (List.map (rI .i64) r5.1)))] ?_
 refine Ab<|Aa<|Y<|Z (.agg [.emp,.emp,.emp,.emp,.emp,.emp,.emp,.emp]) J (Ex (Im Ct W5 J))<|B9 [(.agg [.emp,.emp,.emp,.emp,.emp,.emp,.emp,.emp]),(.I 0)] J J J J (fun hb=>Bh.weak (.cons (.aggL (.cons (.emp _) (.cons (.emp _) (.cons (.emp _) (.cons (.emp _) (.cons (.emp _) (.cons (.emp _) (.cons (.emp _) (.cons (.emp _) .nil))))))))) (.cons (.same _) .nil)) ((Jz ({ Volumes:=[],Sectors:=[],Configs:=[],Segments:=[],Routes:=[],Airports:=[],Classes:=[],Rules:=[] }:Airspace) 0) _ hb)) (fun v _=>Dr Try.func8 hI) fun r6 _=>Ad 5 [] [(13,(.I r6.2))] ?_
 refine Ab<|Aa<|Y<|Z (.agg [.emp,.emp,.emp,.emp,.emp,.emp,.emp,.emp]) J (Ex (Im Ct W5 J))<|B9 [(.agg [.emp,.emp,.emp,.emp,.emp,.emp,.emp,.emp])] J J J J (fun hb=>Bh.weak (.cons (.aggL (.cons (.emp _) (.cons (.emp _) (.cons (.emp _) (.cons (.emp _) (.cons (.emp _) (.cons (.emp _) (.cons (.emp _) (.cons (.emp _) .nil))))))))) .nil) ((G8 ({ Volumes:=[],Sectors:=[],Configs:=[],Segments:=[],Routes:=[],Airports:=[],Classes:=[],Rules:=[] }:Airspace)) _ hb)) (fun v _=>Dr Try.func8 hI) fun r7 _=>Ad 5 [] [(15,(.I r7.2)),(14,(.sl 1 (List.map (rI .i64) r7.1)))] ?_
 refine Ab<|Aa<|Y<|Z (.agg [.emp,.emp,.emp,.emp,.emp,.emp,.emp,.emp]) J (Ex (Im Ct W5 J))<|B9 [(.agg [.emp,.emp,.emp,.emp,.emp,.emp,.emp,.emp])] J J J J (fun hb=>Bh.weak (.cons (.aggL (.cons (.emp _) (.cons (.emp _) (.cons (.emp _) (.cons (.emp _) (.cons (.emp _) (.cons (.emp _) (.cons (.emp _) (.cons (.emp _) .nil))))))))) .nil) ((Ft ({ Volumes:=[],Sectors:=[],Configs:=[],Segments:=[],Routes:=[],Airports:=[],Classes:=[],Rules:=[] }:Airspace)) _ hb)) (fun v _=>Dr Try.func8 hI) fun r8 _=>Ad 5 [] [(17,(.I r8.2)),(16,(.sl 1 (List.map (rI .i64) r8.1)))] ?_
 refine Ab<|Aa<|Aa<|Y<|Ad 3 [] [(61,(.bool (r1.2 != 0)))] ?_
 refine Bz 3 [(2,(.sl 2 (List.map Ah r1.1))),(4,(.sl 4 (List.map Bv r2.1))),(6,(.sl 4 (List.map Bv r3.1))),(7,(.I r3.2)),(8,(.sl 1 (List.map (rI .i64) r4.1))),(9,(.I r4.2)),(10,(.sl 1 (List.map (rI .i64) r5.1))),(11,(.I r5.2)),(13,(.I r6.2)),(14,(.sl 1 (List.map (rI .i64) r7.1))),(15,(.I r7.2)),(16,(.sl 1 (List.map (rI .i64) r8.1))),(17,(.I r8.2)),(64,(.bool ((r1.2 != 0)||(r2.2 != 0))))] ?_ fun hJ=>Bk (r1.2 != 0) (fun hb1=>?_) (fun hb1=>?_)
 ·refine Z (.bool ((r1.2 != 0)||(r2.2 != 0))) J Ag<|Bz 3 [(2,(.sl 2 (List.map Ah r1.1))),(4,(.sl 4 (List.map Bv r2.1))),(6,(.sl 4 (List.map Bv r3.1))),(8,(.sl 1 (List.map (rI .i64) r4.1))),(9,(.I r4.2)),(10,(.sl 1 (List.map (rI .i64) r5.1))),(11,(.I r5.2)),(13,(.I r6.2)),(14,(.sl 1 (List.map (rI .i64) r7.1))),(15,(.I r7.2)),(16,(.sl 1 (List.map (rI .i64) r8.1))),(17,(.I r8.2)),(68,(.bool (((r1.2 != 0)||(r2.2 != 0))||(r3.2 != 0))))] ?_ fun hJ1=>Bk ((r1.2 != 0)||(r2.2 != 0)) (fun hb3=>?_) (fun hb3=>?_)
  ·refine Z (.bool (((r1.2 != 0)||(r2.2 != 0))||(r3.2 != 0))) J Ag<|Bz 3 [(2,(.sl 2 (List.map Ah r1.1))),(4,(.sl 4 (List.map Bv r2.1))),(6,(.sl 4 (List.map Bv r3.1))),(8,(.sl 1 (List.map (rI .i64) r4.1))),(10,(.sl 1 (List.map (rI .i64) r5.1))),(11,(.I r5.2)),(13,(.I r6.2)),(14,(.sl 1 (List.map (rI .i64) r7.1))),(15,(.I r7.2)),(16,(.sl 1 (List.map (rI .i64) r8.1))),(17,(.I r8.2)),(72,(.bool ((((r1.2 != 0)||(r2.2 != 0))||(r3.2 != 0))||(r4.2 != 0))))] ?_ fun hJ2=>Bk (((r1.2 != 0)||(r2.2 != 0))||(r3.2 != 0)) (fun hb5=>?_) (fun hb5=>?_)
   ·refine Z (.bool ((((r1.2 != 0)||(r2.2 != 0))||(r3.2 != 0))||(r4.2 != 0))) J Ag<|Bz 3 [(2,(.sl 2 (List.map Ah r1.1))),(4,(.sl 4 (List.map Bv r2.1))),(6,(.sl 4 (List.map Bv r3.1))),(8,(.sl 1 (List.map (rI .i64) r4.1))),(10,(.sl 1 (List.map (rI .i64) r5.1))),(13,(.I r6.2)),(14,(.sl 1 (List.map (rI .i64) r7.1))),(15,(.I r7.2)),(16,(.sl 1 (List.map (rI .i64) r8.1))),(17,(.I r8.2)),(76,(.bool (((((r1.2 != 0)||(r2.2 != 0))||(r3.2 != 0))||(r4.2 != 0))||(r5.2 != 0))))] ?_ fun hJ3=>Bk ((((r1.2 != 0)||(r2.2 != 0))||(r3.2 != 0))||(r4.2 != 0)) (fun hb7=>?_) (fun hb7=>?_)
    ·refine Z (.bool (((((r1.2 != 0)||(r2.2 != 0))||(r3.2 != 0))||(r4.2 != 0))||(r5.2 != 0))) J Ag<|Bz 3 [(2,(.sl 2 (List.map Ah r1.1))),(4,(.sl 4 (List.map Bv r2.1))),(6,(.sl 4 (List.map Bv r3.1))),(8,(.sl 1 (List.map (rI .i64) r4.1))),(10,(.sl 1 (List.map (rI .i64) r5.1))),(14,(.sl 1 (List.map (rI .i64) r7.1))),(15,(.I r7.2)),(16,(.sl 1 (List.map (rI .i64) r8.1))),(17,(.I r8.2)),(80,(.bool ((((((r1.2 != 0)||(r2.2 != 0))||(r3.2 != 0))||(r4.2 != 0))||(r5.2 != 0))||(r6.2 != 1))))] ?_ fun hJ4=>Bk (((((r1.2 != 0)||(r2.2 != 0))||(r3.2 != 0))||(r4.2 != 0))||(r5.2 != 0)) (fun hb9=>?_) (fun hb9=>?_)
     ·refine Z (.bool ((((((r1.2 != 0)||(r2.2 != 0))||(r3.2 != 0))||(r4.2 != 0))||(r5.2 != 0))||(r6.2 != 1))) J Ag<|Bz 3 [(2,(.sl 2 (List.map Ah r1.1))),(4,(.sl 4 (List.map Bv r2.1))),(6,(.sl 4 (List.map Bv r3.1))),(8,(.sl 1 (List.map (rI .i64) r4.1))),(10,(.sl 1 (List.map (rI .i64) r5.1))),(14,(.sl 1 (List.map (rI .i64) r7.1))),(16,(.sl 1 (List.map (rI .i64) r8.1))),(17,(.I r8.2)),(84,(.bool (((((((r1.2 != 0)||(r2.2 != 0))||(r3.2 != 0))||(r4.2 != 0))||(r5.2 != 0))||(r6.2 != 1))||(r7.2 != 0))))] ?_ fun hJ5=>Bk ((((((r1.2 != 0)||(r2.2 != 0))||(r3.2 != 0))||(r4.2 != 0))||(r5.2 != 0))||(r6.2 != 1)) (fun hb11=>?_) (fun hb11=>?_)
      ·refine Z (.bool (((((((r1.2 != 0)||(r2.2 != 0))||(r3.2 != 0))||(r4.2 != 0))||(r5.2 != 0))||(r6.2 != 1))||(r7.2 != 0))) J Ag<|Bz 3 [(2,(.sl 2 (List.map Ah r1.1))),(4,(.sl 4 (List.map Bv r2.1))),(6,(.sl 4 (List.map Bv r3.1))),(8,(.sl 1 (List.map (rI .i64) r4.1))),(10,(.sl 1 (List.map (rI .i64) r5.1))),(14,(.sl 1 (List.map (rI .i64) r7.1))),(16,(.sl 1 (List.map (rI .i64) r8.1))),(88,(.bool ((((((((r1.2 != 0)||(r2.2 != 0))||(r3.2 != 0))||(r4.2 != 0))||(r5.2 != 0))||(r6.2 != 1))||(r7.2 != 0))||(r8.2 != 0))))] ?_ fun hJ6=>Bk (((((((r1.2 != 0)||(r2.2 != 0))||(r3.2 != 0))||(r4.2 != 0))||(r5.2 != 0))||(r6.2 != 1))||(r7.2 != 0)) (fun hb13=>?_) (fun hb13=>?_)
       ·refine Z (.bool ((((((((r1.2 != 0)||(r2.2 != 0))||(r3.2 != 0))||(r4.2 != 0))||(r5.2 != 0))||(r6.2 != 1))||(r7.2 != 0))||(r8.2 != 0))) J Ag<|Bz 4 [(2,(.sl 2 (List.map Ah r1.1))),(4,(.sl 4 (List.map Bv r2.1))),(6,(.sl 4 (List.map Bv r3.1))),(8,(.sl 1 (List.map (rI .i64) r4.1))),(10,(.sl 1 (List.map (rI .i64) r5.1))),(14,(.sl 1 (List.map (rI .i64) r7.1))),(16,(.sl 1 (List.map (rI .i64) r8.1))),(93,(.bool (((((((((r1.2 != 0)||(r2.2 != 0))||(r3.2 != 0))||(r4.2 != 0))||(r5.2 != 0))||(r6.2 != 1))||(r7.2 != 0))||(r8.2 != 0))||((r2.1.length:Int) != 2))))] ?_ fun hJ7=>Bk ((((((((r1.2 != 0)||(r2.2 != 0))||(r3.2 != 0))||(r4.2 != 0))||(r5.2 != 0))||(r6.2 != 1))||(r7.2 != 0))||(r8.2 != 0)) (fun hb15=>?_) (fun hb15=>?_)
        ·refine Ab<|Ds J (fun hc=>?_) (fun hc=>?_)
         ·refine Aa<|Y<|Z (.bool false) J Af<|Ab<|C5 (a:=false) (vs:=[(.bool false)]) Try.func8 hI J (.same _)
         refine Aw<|Aa<|Y<|Ad 3 [] [(96,(.agg [(.I 160),(.I 200)])),(95,(.agg [(.I 100),(.I 150)])),(94,(.sl 2 (List.map Ah r1.1)))] ?_
         refine Fr (e:=Ah) (L:=[({ From:=100,To:=150 }:Span),({ From:=160,To:=200 }:Span)]) (st:=2) (rows:=[[(.I 100),(.I 150)],[(.I 160),(.I 200)]]) J Dw E4 J J J J J (.cons (.cons (.same _) (.cons (.same _) .nil)) (.cons (.cons (.same _) (.cons (.same _) .nil)) .nil)) (fun x=>Fp x) J J<|B9 [(.sl 2 (List.map Ah r1.1)),(.sl 2 (List.map Ah [({ From:=100,To:=150 }:Span),({ From:=160,To:=200 }:Span)]))] J J J J ((Jy r1.1 [({ From:=100,To:=150 }:Span),({ From:=160,To:=200 }:Span)]) _) (fun v _=>Dr Try.func8 hI) fun r9 _=>Z (.bool r9) J Ag<|H8 6 ((fun(b:Bool)=>(if b then(Hm r2.1 1).bind fun a1=>R.ok (a1.Length==40) else R.ok false).bind (fun(b1:Bool)=>(if b1 then(Hm r2.1 1).bind fun a2=>R.ok ((a2.Minutes.length:Int)==0) else R.ok false).bind (fun(b2:Bool)=>(if(b2&&((r3.1.length:Int)==0)) then(Cn r4.1 [0]).bind fun r10=>R.ok r10 else R.ok false).bind (fun(b3:Bool)=>(if b3 then(Cn r5.1 [1]).bind fun r11=>R.ok r11 else R.ok false).bind (fun(b4:Bool)=>.ok ((b4&&((r7.1.length:Int)==0))&&((r8.1.length:Int)==0))))))):Bool→R Bool) (fun(b:Bool) (fr:Nat→AV) (h:O)=>fr=Ae [(4,(.sl 4 (List.map Bv r2.1))),(6,(.sl 4 (List.map Bv r3.1))),(8,(.sl 1 (List.map (rI .i64) r4.1))),(10,(.sl 1 (List.map (rI .i64) r5.1))),(14,(.sl 1 (List.map (rI .i64) r7.1))),(16,(.sl 1 (List.map (rI .i64) r8.1))),(105,(.bool b))]∧h=hp h0 ids [(some (.rows g 8 [(Ac r)]))]) ?_ fun hJ8=>I8 (fun hb17=>?_) (fun hb17=>?_)
         ·rintro b fr h ⟨rfl,rfl⟩
          refine Z (.bool b) J Ag<|H8 6 ((fun(b1:Bool)=>(if b1 then(Hm r2.1 1).bind fun a2=>R.ok ((a2.Minutes.length:Int)==0) else R.ok false).bind (fun(b2:Bool)=>(if(b2&&((r3.1.length:Int)==0)) then(Cn r4.1 [0]).bind fun r10=>R.ok r10 else R.ok false).bind (fun(b3:Bool)=>(if b3 then(Cn r5.1 [1]).bind fun r11=>R.ok r11 else R.ok false).bind (fun(b4:Bool)=>.ok ((b4&&((r7.1.length:Int)==0))&&((r8.1.length:Int)==0)))))):Bool→R Bool) (fun(b1:Bool) (fr:Nat→AV) (h:O)=>fr=Ae [(4,(.sl 4 (List.map Bv r2.1))),(6,(.sl 4 (List.map Bv r3.1))),(8,(.sl 1 (List.map (rI .i64) r4.1))),(10,(.sl 1 (List.map (rI .i64) r5.1))),(14,(.sl 1 (List.map (rI .i64) r7.1))),(16,(.sl 1 (List.map (rI .i64) r8.1))),(112,(.bool b1))]∧h=hp h0 ids [(some (.rows g 8 [(Ac r)]))]) ?_ fun hJ9=>I8 (fun hb19=>?_) (fun hb19=>?_)
          ·rintro b1 fr h ⟨rfl,rfl⟩
           refine Z (.bool b1) J Ag<|H8 7 ((fun(b2:Bool)=>(if(b2&&((r3.1.length:Int)==0)) then(Cn r4.1 [0]).bind fun r10=>R.ok r10 else R.ok false).bind (fun(b3:Bool)=>(if b3 then(Cn r5.1 [1]).bind fun r11=>R.ok r11 else R.ok false).bind (fun(b4:Bool)=>.ok ((b4&&((r7.1.length:Int)==0))&&((r8.1.length:Int)==0))))):Bool→R Bool) (fun(b2:Bool) (fr:Nat→AV) (h:O)=>fr=Ae [(6,(.sl 4 (List.map Bv r3.1))),(8,(.sl 1 (List.map (rI .i64) r4.1))),(10,(.sl 1 (List.map (rI .i64) r5.1))),(14,(.sl 1 (List.map (rI .i64) r7.1))),(16,(.sl 1 (List.map (rI .i64) r8.1))),(120,(.bool b2))]∧h=hp h0 ids [(some (.rows g 8 [(Ac r)]))]) ?_ fun hJ10=>I8 (fun hb21=>?_) (fun hb21=>?_)
           ·rintro b2 fr h ⟨rfl,rfl⟩
            refine Z (.bool b2) J Ag<|Bz 4 [(8,(.sl 1 (List.map (rI .i64) r4.1))),(10,(.sl 1 (List.map (rI .i64) r5.1))),(14,(.sl 1 (List.map (rI .i64) r7.1))),(16,(.sl 1 (List.map (rI .i64) r8.1))),(125,(.bool (b2&&((r3.1.length:Int)==0))))] ?_ fun hJ11=>Bk b2 (fun hb23=>?_) (fun hb23=>?_)
            ·refine Z (.bool (b2&&((r3.1.length:Int)==0))) J Ag<|H8 4 ((fun(b3:Bool)=>(if b3 then(Cn r5.1 [1]).bind fun r11=>R.ok r11 else R.ok false).bind (fun(b4:Bool)=>.ok ((b4&&((r7.1.length:Int)==0))&&((r8.1.length:Int)==0)))):Bool→R Bool) (fun(b3:Bool) (fr:Nat→AV) (h:O)=>fr=Ae [(10,(.sl 1 (List.map (rI .i64) r5.1))),(14,(.sl 1 (List.map (rI .i64) r7.1))),(16,(.sl 1 (List.map (rI .i64) r8.1))),(130,(.bool b3))]∧h=hp h0 ids [(some (.rows g 8 [(Ac r)]))]) ?_ fun hJ12=>I8 (fun hb25=>?_) (fun hb25=>?_)
             ·rintro b3 fr h ⟨rfl,rfl⟩
              refine Z (.bool b3) J Ag<|H8 4 ((fun(b4:Bool)=>.ok ((b4&&((r7.1.length:Int)==0))&&((r8.1.length:Int)==0))):Bool→R Bool) (fun(b4:Bool) (fr:Nat→AV) (h:O)=>fr=Ae [(14,(.sl 1 (List.map (rI .i64) r7.1))),(16,(.sl 1 (List.map (rI .i64) r8.1))),(135,(.bool b4))]∧h=hp h0 ids [(some (.rows g 8 [(Ac r)]))]) ?_ fun hJ13=>I8 (fun hb27=>?_) (fun hb27=>?_)
              ·rintro b4 fr h ⟨rfl,rfl⟩
               refine Z (.bool b4) J Ag<|Bz 4 [(16,(.sl 1 (List.map (rI .i64) r8.1))),(140,(.bool (b4&&((r7.1.length:Int)==0))))] ?_ fun hJ14=>Bk b4 (fun hb29=>?_) (fun hb29=>?_)
               ·refine Z (.bool (b4&&((r7.1.length:Int)==0))) J Ag<|Bz 4 [(145,(.bool ((b4&&((r7.1.length:Int)==0))&&((r8.1.length:Int)==0))))] ?_ fun hJ15=>Bk (b4&&((r7.1.length:Int)==0)) (fun hb31=>?_) (fun hb31=>?_)
                ·refine Z (.bool ((b4&&((r7.1.length:Int)==0))&&((r8.1.length:Int)==0))) J Af<|Ab<|C5 (a:=((b4&&((r7.1.length:Int)==0))&&((r8.1.length:Int)==0))) (vs:=[(.bool ((b4&&((r7.1.length:Int)==0))&&((r8.1.length:Int)==0)))]) Try.func8 hI J (.same _)
                ·refine A0 (t:=141) hb31 J<|Ap (tj:=141) (.sl 1 (List.map (rI .i64) r8.1)) J J J Ag<|Ap (tj:=141) (.I (r8.1.length:Int)) J J J (Al (Ak Eg))<|Ad 2 [] [(145,(.bool ((r8.1.length:Int)==0)))] ?_
                 exact A4 hJ15 (.cons (Nf hb31) .nil)
                refine A0 (t:=141) hb31 J<|Ad 4 [] [(145,(.bool false))] ?_
                exact A4 hJ15 (.cons (M8 hb31) .nil)
               ·refine A0 (t:=136) hb29 J<|Ap (tj:=136) (.sl 1 (List.map (rI .i64) r7.1)) J J J Ag<|Ap (tj:=136) (.I (r7.1.length:Int)) J J J (Al (Ak Eg))<|Ad 2 [] [(140,(.bool ((r7.1.length:Int)==0)))] ?_
                exact A4 hJ14 (.cons J (.cons (Nf hb29) .nil))
               refine A0 (t:=136) hb29 J<|Ad 4 [] [(140,(.bool false))] ?_
               exact A4 hJ14 (.cons J (.cons (M8 hb29) .nil))
              ·refine A0 (t:=131) hb27 J<|Ap (tj:=131) (.sl 1 (List.map (rI .i64) r5.1)) J J J Ag<|Uz (tj:=131) J J J (fun _ _=>J) (fun K hK=>O9 (e:=(rI .i64)) (L:=[1]) (st:=1) (rows:=[[(.I 1)]]) Eg Ih J J J J J (.cons (RowSim.refl _) .nil) (fun x=>Og x) J J (hK _ _ ?_))
               clear hK K
               refine B9 [(.sl 1 (List.map (rI .i64) r5.1)),(.sl 1 (List.map (rI .i64) [1]))] J (K3 (tj:=131) J J) J J ((Kt r5.1 [1]) _) (fun v _=>Dr Try.func8 hI) fun r11 _=>Z (.bool r11) J (Hx (t:=true) J J)<|C1<|E3 [(14,(.sl 1 (List.map (rI .i64) r7.1))),(16,(.sl 1 (List.map (rI .i64) r8.1))),(135,(.bool r11))] (FI J)<|hJ13 r11 _ _ ⟨J,J⟩
              refine A0 (t:=131) hb27 J<|Ad 4 [] [(135,(.bool false))] ?_
              refine C1<|E3 [(14,(.sl 1 (List.map (rI .i64) r7.1))),(16,(.sl 1 (List.map (rI .i64) r8.1))),(135,(.bool false))] (FI J)<|hJ13 false _ _ ⟨J,J⟩
             ·refine A0 (t:=126) hb25 J<|Ap (tj:=126) (.sl 1 (List.map (rI .i64) r4.1)) J J J Ag<|Uz (tj:=126) J J J (fun _ _=>J) (fun K hK=>O9 (e:=(rI .i64)) (L:=[0]) (st:=1) (rows:=[[(.I 0)]]) Eg Ih J J J J J (.cons (RowSim.refl _) .nil) (fun x=>Og x) J J (hK _ _ ?_))
              clear hK K
              refine B9 [(.sl 1 (List.map (rI .i64) r4.1)),(.sl 1 (List.map (rI .i64) [0]))] J (K3 (tj:=126) J J) J J ((Kt r4.1 [0]) _) (fun v _=>Dr Try.func8 hI) fun r10 _=>Z (.bool r10) J (Hx (t:=true) J J)<|C1<|E3 [(10,(.sl 1 (List.map (rI .i64) r5.1))),(14,(.sl 1 (List.map (rI .i64) r7.1))),(16,(.sl 1 (List.map (rI .i64) r8.1))),(130,(.bool r10))] (FI J)<|hJ12 r10 _ _ ⟨J,J⟩
             refine A0 (t:=126) hb25 J<|Ad 4 [] [(130,(.bool false))] ?_
             refine C1<|E3 [(10,(.sl 1 (List.map (rI .i64) r5.1))),(14,(.sl 1 (List.map (rI .i64) r7.1))),(16,(.sl 1 (List.map (rI .i64) r8.1))),(130,(.bool false))] (FI J)<|hJ12 false _ _ ⟨J,J⟩
            ·refine A0 (t:=121) hb23 J<|Ap (tj:=121) (.sl 4 (List.map Bv r3.1)) J J J Ag<|Ap (tj:=121) (.I (r3.1.length:Int)) J J J (Al (Ak L4))<|Ad 2 [] [(125,(.bool ((r3.1.length:Int)==0)))] ?_
             exact A4 hJ11 (.cons J (.cons J (.cons J (.cons J (.cons (Nf hb23) .nil)))))
            refine A0 (t:=121) hb23 J<|Ad 4 [] [(125,(.bool false))] ?_
            exact A4 hJ11 (.cons J (.cons J (.cons J (.cons J (.cons (M8 hb23) .nil)))))
           ·refine A0 (t:=113) hb21 J<|Ap (tj:=113) (.sl 4 (List.map Bv r2.1)) J J J Ag<|J1 fun a2 hz2 hx3=>Ap (tj:=113) (.cp (Bv a2) 0) J J J (B3 (Hl L4 Ma J hz2 hx3))<|Ad 2 [] [(117,(.sl 2 (List.map Ah a2.Minutes)))] ?_
            refine Ap (tj:=113) (.I (a2.Minutes.length:Int)) J J J (Al (Ak Dw))<|Ad 2 [] [(120,(.bool ((a2.Minutes.length:Int)==0)))] ?_
            refine C1<|E3 [(6,(.sl 4 (List.map Bv r3.1))),(8,(.sl 1 (List.map (rI .i64) r4.1))),(10,(.sl 1 (List.map (rI .i64) r5.1))),(14,(.sl 1 (List.map (rI .i64) r7.1))),(16,(.sl 1 (List.map (rI .i64) r8.1))),(120,(.bool ((a2.Minutes.length:Int)==0)))] (FI J)<|hJ10 ((a2.Minutes.length:Int)==0) _ _ ⟨J,J⟩
           refine A0 (t:=113) hb21 J<|Ad 7 [] [(120,(.bool false))] ?_
           refine C1<|E3 [(6,(.sl 4 (List.map Bv r3.1))),(8,(.sl 1 (List.map (rI .i64) r4.1))),(10,(.sl 1 (List.map (rI .i64) r5.1))),(14,(.sl 1 (List.map (rI .i64) r7.1))),(16,(.sl 1 (List.map (rI .i64) r8.1))),(120,(.bool false))] (FI J)<|hJ10 false _ _ ⟨J,J⟩
          ·refine A0 (t:=106) hb19 J<|Ap (tj:=106) (.sl 4 (List.map Bv r2.1)) J J J Ag<|J1 fun a1 hz1 hx2=>Ap (tj:=106) (.cp (Bv a1) 0) J J J (B3 (Hl L4 Ma J hz1 hx2))<|Ad 4 [] [(112,(.bool (a1.Length==40)))] ?_
           refine C1<|E3 [(4,(.sl 4 (List.map Bv r2.1))),(6,(.sl 4 (List.map Bv r3.1))),(8,(.sl 1 (List.map (rI .i64) r4.1))),(10,(.sl 1 (List.map (rI .i64) r5.1))),(14,(.sl 1 (List.map (rI .i64) r7.1))),(16,(.sl 1 (List.map (rI .i64) r8.1))),(112,(.bool (a1.Length==40)))] (FI J)<|hJ9 (a1.Length==40) _ _ ⟨J,J⟩
          refine A0 (t:=106) hb19 J<|Ad 6 [] [(112,(.bool false))] ?_
          refine C1<|E3 [(4,(.sl 4 (List.map Bv r2.1))),(6,(.sl 4 (List.map Bv r3.1))),(8,(.sl 1 (List.map (rI .i64) r4.1))),(10,(.sl 1 (List.map (rI .i64) r5.1))),(14,(.sl 1 (List.map (rI .i64) r7.1))),(16,(.sl 1 (List.map (rI .i64) r8.1))),(112,(.bool false))] (FI J)<|hJ9 false _ _ ⟨J,J⟩
         ·refine A0 (t:=99) hb17 J<|Ap (tj:=99) (.sl 4 (List.map Bv r2.1)) J J J Ag<|J1 fun a hz hx1=>Ap (tj:=99) (.cp (Bv a) 0) J J J (B3 (Hl L4 Ma J hz hx1))<|Ad 4 [] [(105,(.bool (a.Volume==1)))] ?_
          refine C1<|E3 [(4,(.sl 4 (List.map Bv r2.1))),(6,(.sl 4 (List.map Bv r3.1))),(8,(.sl 1 (List.map (rI .i64) r4.1))),(10,(.sl 1 (List.map (rI .i64) r5.1))),(14,(.sl 1 (List.map (rI .i64) r7.1))),(16,(.sl 1 (List.map (rI .i64) r8.1))),(105,(.bool (a.Volume==1)))] (FI J)<|hJ8 (a.Volume==1) _ _ ⟨J,J⟩
         refine A0 (t:=99) hb17 J<|Ad 6 [] [(105,(.bool false))] ?_
         refine C1<|E3 [(4,(.sl 4 (List.map Bv r2.1))),(6,(.sl 4 (List.map Bv r3.1))),(8,(.sl 1 (List.map (rI .i64) r4.1))),(10,(.sl 1 (List.map (rI .i64) r5.1))),(14,(.sl 1 (List.map (rI .i64) r7.1))),(16,(.sl 1 (List.map (rI .i64) r8.1))),(105,(.bool false))] (FI J)<|hJ8 false _ _ ⟨J,J⟩
        ·refine A0 (t:=89) hb15 J<|Ad 4 [] [(93,(.bool true))] ?_
         exact A4 hJ7 (.cons J (.cons J (.cons J (.cons J (.cons J (.cons J (.cons J (.cons (Fe hb15) .nil))))))))
        refine A0 (t:=89) hb15 J<|Ap (tj:=89) (.sl 4 (List.map Bv r2.1)) J J J Ag<|Ap (tj:=89) (.I (r2.1.length:Int)) J J J (Al (Ak L4))<|Ad 2 [] [(93,(.bool ((r2.1.length:Int) != 2)))] ?_
        exact A4 hJ7 (.cons J (.cons J (.cons J (.cons J (.cons J (.cons J (.cons J (.cons (E9 hb15) .nil))))))))
       ·refine A0 (t:=85) hb13 J<|Ad 3 [] [(88,(.bool true))] ?_
        exact A4 hJ6 (.cons J (.cons J (.cons J (.cons J (.cons J (.cons J (.cons J (.cons (Fe hb13) .nil))))))))
       refine A0 (t:=85) hb13 J<|Ad 3 [] [(88,(.bool (r8.2 != 0)))] ?_
       exact A4 hJ6 (.cons J (.cons J (.cons J (.cons J (.cons J (.cons J (.cons J (.cons (E9 hb13) .nil))))))))
      ·refine A0 (t:=81) hb11 J<|Ad 3 [] [(84,(.bool true))] ?_
       exact A4 hJ5 (.cons J (.cons J (.cons J (.cons J (.cons J (.cons J (.cons J (.cons J (.cons (Fe hb11) .nil)))))))))
      refine A0 (t:=81) hb11 J<|Ad 3 [] [(84,(.bool (r7.2 != 0)))] ?_
      exact A4 hJ5 (.cons J (.cons J (.cons J (.cons J (.cons J (.cons J (.cons J (.cons J (.cons (E9 hb11) .nil)))))))))
     ·refine A0 (t:=77) hb9 J<|Ad 3 [] [(80,(.bool true))] ?_
      exact A4 hJ4 (.cons J (.cons J (.cons J (.cons J (.cons J (.cons J (.cons J (.cons J (.cons J (.cons (Fe hb9) .nil))))))))))
     refine A0 (t:=77) hb9 J<|Ad 3 [] [(80,(.bool (r6.2 != 1)))] ?_
     exact A4 hJ4 (.cons J (.cons J (.cons J (.cons J (.cons J (.cons J (.cons J (.cons J (.cons J (.cons (E9 hb9) .nil))))))))))
    ·refine A0 (t:=73) hb7 J<|Ad 3 [] [(76,(.bool true))] ?_
     exact A4 hJ3 (.cons J (.cons J (.cons J (.cons J (.cons J (.cons J (.cons J (.cons J (.cons J (.cons J (.cons (Fe hb7) .nil)))))))))))
    refine A0 (t:=73) hb7 J<|Ad 3 [] [(76,(.bool (r5.2 != 0)))] ?_
    exact A4 hJ3 (.cons J (.cons J (.cons J (.cons J (.cons J (.cons J (.cons J (.cons J (.cons J (.cons J (.cons (E9 hb7) .nil)))))))))))
   ·refine A0 (t:=69) hb5 J<|Ad 3 [] [(72,(.bool true))] ?_
    exact A4 hJ2 (.cons J (.cons J (.cons J (.cons J (.cons J (.cons J (.cons J (.cons J (.cons J (.cons J (.cons J (.cons (Fe hb5) .nil))))))))))))
   refine A0 (t:=69) hb5 J<|Ad 3 [] [(72,(.bool (r4.2 != 0)))] ?_
   exact A4 hJ2 (.cons J (.cons J (.cons J (.cons J (.cons J (.cons J (.cons J (.cons J (.cons J (.cons J (.cons J (.cons (E9 hb5) .nil))))))))))))
  ·refine A0 (t:=65) hb3 J<|Ad 3 [] [(68,(.bool true))] ?_
   exact A4 hJ1 (.cons J (.cons J (.cons J (.cons J (.cons J (.cons J (.cons J (.cons J (.cons J (.cons J (.cons J (.cons J (.cons (Fe hb3) .nil)))))))))))))
  refine A0 (t:=65) hb3 J<|Ad 3 [] [(68,(.bool (r3.2 != 0)))] ?_
  exact A4 hJ1 (.cons J (.cons J (.cons J (.cons J (.cons J (.cons J (.cons J (.cons J (.cons J (.cons J (.cons J (.cons J (.cons (E9 hb3) .nil)))))))))))))
 ·refine A0 (t:=61) hb1 J<|Ad 3 [] [(64,(.bool true))] ?_
  exact A4 hJ (.cons J (.cons J (.cons J (.cons J (.cons J (.cons J (.cons J (.cons J (.cons J (.cons J (.cons J (.cons J (.cons J (.cons (Fe hb1) .nil))))))))))))))
 refine A0 (t:=61) hb1 J<|Ad 3 [] [(64,(.bool (r2.2 != 0)))] ?_
 exact A4 hJ (.cons J (.cons J (.cons J (.cons J (.cons J (.cons J (.cons J (.cons J (.cons J (.cons J (.cons J (.cons J (.cons J (.cons (E9 hb1) .nil))))))))))))))
theorem T6 (a:Airspace):CP Try.prog 9 [(.agg (Ac a))] (J5 a) (fun(x:Bool)=>(AV.bool x)):=by
 refine He (n:=175) 1 Try.func9 J (by decide) J J fun h0 ids hI=>Cf (Ai (J5.eq_1 _) ?_)
 refine Aa<|Y<|G0 (v:=(.agg (Ac a))) (j:=0) hI J J J J J J J fun g=>Z (.bool false) J Af<|Ab<|Bn ?_
 refine Aa<|Aa<|Y<|Ad 2 [0] [(10,(.sl 2 (List.map Bg a.Volumes)))] ?_
 refine Z (.I (a.Volumes.length:Int)) J (Al (Ak G7))<|Ad 2 [] [(13,(.bool (decide ((a.Volumes.length:Int) > 12))))] ?_
 refine Bz 5 [(1,(.q ids 0 g)),(18,(.bool ((decide ((a.Volumes.length:Int) > 12))||(decide ((a.Sectors.length:Int) > 12)))))] ?_ fun hJ=>Bk (decide ((a.Volumes.length:Int) > 12)) (fun hb1=>?_) (fun hb1=>?_)
 ·refine Z (.bool ((decide ((a.Volumes.length:Int) > 12))||(decide ((a.Sectors.length:Int) > 12)))) J Ag<|Bz 5 [(1,(.q ids 0 g)),(24,(.bool (((decide ((a.Volumes.length:Int) > 12))||(decide ((a.Sectors.length:Int) > 12)))||(decide ((a.Configs.length:Int) > 8)))))] ?_ fun hJ1=>Bk ((decide ((a.Volumes.length:Int) > 12))||(decide ((a.Sectors.length:Int) > 12))) (fun hb3=>?_) (fun hb3=>?_)
  ·refine Z (.bool (((decide ((a.Volumes.length:Int) > 12))||(decide ((a.Sectors.length:Int) > 12)))||(decide ((a.Configs.length:Int) > 8)))) J Ag<|Bz 5 [(1,(.q ids 0 g)),(30,(.bool ((((decide ((a.Volumes.length:Int) > 12))||(decide ((a.Sectors.length:Int) > 12)))||(decide ((a.Configs.length:Int) > 8)))||(decide ((a.Segments.length:Int) > 16)))))] ?_ fun hJ2=>Bk (((decide ((a.Volumes.length:Int) > 12))||(decide ((a.Sectors.length:Int) > 12)))||(decide ((a.Configs.length:Int) > 8))) (fun hb5=>?_) (fun hb5=>?_)
   ·refine Z (.bool ((((decide ((a.Volumes.length:Int) > 12))||(decide ((a.Sectors.length:Int) > 12)))||(decide ((a.Configs.length:Int) > 8)))||(decide ((a.Segments.length:Int) > 16)))) J Ag<|Bz 5 [(1,(.q ids 0 g)),(36,(.bool (((((decide ((a.Volumes.length:Int) > 12))||(decide ((a.Sectors.length:Int) > 12)))||(decide ((a.Configs.length:Int) > 8)))||(decide ((a.Segments.length:Int) > 16)))||(decide ((a.Routes.length:Int) > 10)))))] ?_ fun hJ3=>Bk ((((decide ((a.Volumes.length:Int) > 12))||(decide ((a.Sectors.length:Int) > 12)))||(decide ((a.Configs.length:Int) > 8)))||(decide ((a.Segments.length:Int) > 16))) (fun hb7=>?_) (fun hb7=>?_)
    ·refine Z (.bool (((((decide ((a.Volumes.length:Int) > 12))||(decide ((a.Sectors.length:Int) > 12)))||(decide ((a.Configs.length:Int) > 8)))||(decide ((a.Segments.length:Int) > 16)))||(decide ((a.Routes.length:Int) > 10)))) J Ag<|Bz 5 [(1,(.q ids 0 g)),(42,(.bool ((((((decide ((a.Volumes.length:Int) > 12))||(decide ((a.Sectors.length:Int) > 12)))||(decide ((a.Configs.length:Int) > 8)))||(decide ((a.Segments.length:Int) > 16)))||(decide ((a.Routes.length:Int) > 10)))||(decide ((a.Airports.length:Int) > 8)))))] ?_ fun hJ4=>Bk (((((decide ((a.Volumes.length:Int) > 12))||(decide ((a.Sectors.length:Int) > 12)))||(decide ((a.Configs.length:Int) > 8)))||(decide ((a.Segments.length:Int) > 16)))||(decide ((a.Routes.length:Int) > 10))) (fun hb9=>?_) (fun hb9=>?_)
     ·refine Z (.bool ((((((decide ((a.Volumes.length:Int) > 12))||(decide ((a.Sectors.length:Int) > 12)))||(decide ((a.Configs.length:Int) > 8)))||(decide ((a.Segments.length:Int) > 16)))||(decide ((a.Routes.length:Int) > 10)))||(decide ((a.Airports.length:Int) > 8)))) J Ag<|Bz 5 [(1,(.q ids 0 g)),(48,(.bool (((((((decide ((a.Volumes.length:Int) > 12))||(decide ((a.Sectors.length:Int) > 12)))||(decide ((a.Configs.length:Int) > 8)))||(decide ((a.Segments.length:Int) > 16)))||(decide ((a.Routes.length:Int) > 10)))||(decide ((a.Airports.length:Int) > 8)))||(decide ((a.Classes.length:Int) > 6)))))] ?_ fun hJ5=>Bk ((((((decide ((a.Volumes.length:Int) > 12))||(decide ((a.Sectors.length:Int) > 12)))||(decide ((a.Configs.length:Int) > 8)))||(decide ((a.Segments.length:Int) > 16)))||(decide ((a.Routes.length:Int) > 10)))||(decide ((a.Airports.length:Int) > 8))) (fun hb11=>?_) (fun hb11=>?_)
      ·refine Z (.bool (((((((decide ((a.Volumes.length:Int) > 12))||(decide ((a.Sectors.length:Int) > 12)))||(decide ((a.Configs.length:Int) > 8)))||(decide ((a.Segments.length:Int) > 16)))||(decide ((a.Routes.length:Int) > 10)))||(decide ((a.Airports.length:Int) > 8)))||(decide ((a.Classes.length:Int) > 6)))) J Ag<|Bz 5 [(1,(.q ids 0 g)),(54,(.bool ((((((((decide ((a.Volumes.length:Int) > 12))||(decide ((a.Sectors.length:Int) > 12)))||(decide ((a.Configs.length:Int) > 8)))||(decide ((a.Segments.length:Int) > 16)))||(decide ((a.Routes.length:Int) > 10)))||(decide ((a.Airports.length:Int) > 8)))||(decide ((a.Classes.length:Int) > 6)))||(decide ((a.Rules.length:Int) > 12)))))] ?_ fun hJ6=>Bk (((((((decide ((a.Volumes.length:Int) > 12))||(decide ((a.Sectors.length:Int) > 12)))||(decide ((a.Configs.length:Int) > 8)))||(decide ((a.Segments.length:Int) > 16)))||(decide ((a.Routes.length:Int) > 10)))||(decide ((a.Airports.length:Int) > 8)))||(decide ((a.Classes.length:Int) > 6))) (fun hb13=>?_) (fun hb13=>?_)
       ·refine Ab<|Ds J (fun hc=>?_) (fun hc=>?_)
        ·refine Aa<|Y<|Z (.bool false) J Af<|Ab<|C5 (a:=false) (vs:=[(.bool false)]) Try.func9 hI J (.same _)
        refine Aw<|Aa<|Aa<|Y<|Z (.I 0) J Af<|Ab<|Ao ?_
        refine D7 [(1,(.q ids 0 g)),(3,(.I 0))] (FI J)<|Gx (P:=Try.prog) a.Volumes (fun _ a1=>fun _=>I7 a1) ((D9 (fun _=>(each (fun _ a2=>fun _=>Hh a2) 0 a.Sectors ()).bind (D9 (fun _=>(each (fun _ a3=>fun _=>Ga a3) 0 a.Configs ()).bind (D9 (fun _=>(each (fun _ a4=>fun _=>Fc a4) 0 a.Segments ()).bind (D9 (fun _=>(each (fun _ a5=>fun _=>Et a5) 0 a.Routes ()).bind (D9 (fun _=>(each (fun _ a6=>fun _=>Ea a6) 0 a.Airports ()).bind (D9 (fun _=>.ok true) (fun r=>.ok r))) (fun r=>.ok r))) (fun r=>.ok r))) (fun r=>.ok r))) (fun r=>.ok r))) (fun r=>.ok r)):(Unit ⊕ Bool)→R Bool) (fun j=>fun _=>fun(fr:Nat→AV) (h:O)=>fr=Ae [(1,(.q ids 0 g)),(3,(.I (j:Int)))]∧h=hp h0 ids [(some (.rows g 8 [(Ac a)]))]) () ?_ ?_ ?_
        ·exact⟨J,J⟩
        ·rintro j a1 ha1 W hW _ fr h ⟨rfl,rfl⟩
         refine Ai (m':=I7 a1) J (Ai (I7.eq_1 _) ?_)
         refine Aa<|Aa<|Y<|Ad 3 [0] [(57,(.sl 2 (List.map Bg a.Volumes))),(55,(.I (j:Int)))] ?_
         refine Z (.I (a.Volumes.length:Int)) J (Al (Ak G7))<|Z (.bool (decide ((j:Int)<(a.Volumes.length:Int)))) J (Av J J J)<|Ab<|Fh (t:=57) (L:=a.Volumes) J fun hlim1=>Dj J (Int.ofNat_lt.2 (Aq ha1))<|Aw<|Aa ?_
         refine Ao<|Aa<|Y<|Ad 3 [0] [(64,(.I (j:Int))),(63,(.sl 2 (List.map Bg a.Volumes)))] ?_
         refine Z (.cp (Bg a1) 0) J (B3 (Ek G7 Oo J ha1))<|Ad 2 [] [(67,(.sl 2 (List.map Ah a1.Closed)))] ?_
         refine Z (.I (a1.Closed.length:Int)) J (Al (Ak Dw))<|Z (.bool (decide ((a1.Closed.length:Int) > 8))) J (Av J J J)<|Ab<|Lm J (fun hc1=>?_) (fun hc1=>?_)
         ·refine Aa<|Y<|Z (.bool false) J Af<|Ab<|H9<|I1<|C5 (a:=false) (vs:=[(.bool false)]) Try.func9 hI J (.same _)
         refine Aw<|A3<|Y<|Ad 3 [] [(3,(.I (IntKind.wrap .i64 ((j:Int)+1))))] ?_
         refine Ab<|Cw (H7 (hW () _ _ ⟨J,J⟩)) (.cons J (.cons (D1 (Aq ha1) hlim1) .nil))
        rintro _ fr h ⟨rfl,rfl⟩
        refine Ai (Hy _ _ _)<|Aa<|Aa<|Y<|Ad 3 [0] [(57,(.sl 2 (List.map Bg a.Volumes))),(55,(.I (a.Volumes.length:Int)))] ?_
        refine Z (.I (a.Volumes.length:Int)) J (Al (Ak G7))<|Z (.bool (decide ((a.Volumes.length:Int)<(a.Volumes.length:Int)))) J (Av J J J)<|Ab<|Di J (Int.lt_irrefl _)<|C9 J<|Aa<|Aa ?_
        refine Y<|Z (.I 0) J Af<|Ab<|Ao<|D7 [(1,(.q ids 0 g)),(4,(.I 0))] (FI J)<|Gx (P:=Try.prog) a.Sectors (fun _ a2=>fun _=>Hh a2) ((D9 (fun _=>(each (fun _ a3=>fun _=>Ga a3) 0 a.Configs ()).bind (D9 (fun _=>(each (fun _ a4=>fun _=>Fc a4) 0 a.Segments ()).bind (D9 (fun _=>(each (fun _ a5=>fun _=>Et a5) 0 a.Routes ()).bind (D9 (fun _=>(each (fun _ a6=>fun _=>Ea a6) 0 a.Airports ()).bind (D9 (fun _=>.ok true) (fun r=>.ok r))) (fun r=>.ok r))) (fun r=>.ok r))) (fun r=>.ok r))) (fun r=>.ok r)):(Unit ⊕ Bool)→R Bool) (fun j1=>fun _=>fun(fr:Nat→AV) (h:O)=>fr=Ae [(1,(.q ids 0 g)),(4,(.I (j1:Int)))]∧h=hp h0 ids [(some (.rows g 8 [(Ac a)]))]) () ?_ ?_ ?_
        ·exact⟨J,J⟩
        ·rintro j1 a2 ha2 W hW1 _ fr h ⟨rfl,rfl⟩
         refine Ai (m':=Hh a2) J (Ai (Hh.eq_1 _) ?_)
         refine Aa<|Aa<|Y<|Ad 3 [0] [(72,(.sl 5 (List.map Bu a.Sectors))),(70,(.I (j1:Int)))] ?_
         refine Z (.I (a.Sectors.length:Int)) J (Al (Ak Ts))<|Z (.bool (decide ((j1:Int)<(a.Sectors.length:Int)))) J (Av J J J)<|Ab<|Fh (t:=72) (L:=a.Sectors) J fun hlim3=>Dj J (Int.ofNat_lt.2 (Aq ha2))<|Aw<|Aa ?_
         refine Ao<|Aa<|Y<|Ad 3 [0] [(79,(.I (j1:Int))),(78,(.sl 5 (List.map Bu a.Sectors)))] ?_
         refine Z (.cp (Bu a2) 0) J (B3 (Ek Ts Acf J ha2))<|Ad 2 [] [(82,(.sl 1 (List.map (rI .i64) a2.Volumes)))] ?_
         refine Z (.I (a2.Volumes.length:Int)) J (Al (Ak Eg))<|Ad 2 [] [(85,(.bool (decide ((a2.Volumes.length:Int) > 16))))] ?_
         refine Bz 9 [(1,(.q ids 0 g)),(4,(.I (j1:Int))),(94,(.bool ((decide ((a2.Volumes.length:Int) > 16))||(decide ((a2.Names.length:Int) > 16)))))] ?_ fun hJ7=>Bk (decide ((a2.Volumes.length:Int) > 16)) (fun hb15=>?_) (fun hb15=>?_)
         ·refine Ab<|Ds J (fun hc2=>?_) (fun hc2=>?_)
          ·refine Aa<|Y<|Z (.bool false) J Af<|Ab<|H9<|I1<|C5 (a:=false) (vs:=[(.bool false)]) Try.func9 hI J (.same _)
          refine Aw<|A3<|Y<|Ad 3 [] [(4,(.I (IntKind.wrap .i64 ((j1:Int)+1))))] ?_
          refine Ab<|Cw (H7 (hW1 () _ _ ⟨J,J⟩)) (.cons J (.cons (D1 (Aq ha2) hlim3) .nil))
         ·refine A0 (t:=85) hb15 J<|Ad 9 [] [(94,(.bool true)),(93,.und),(92,.und),(91,.und),(90,.und),(89,.und),(88,.und),(87,.und),(86,.und)] ?_
          exact A4 hJ7 (.cons J (.cons J (.cons (Fe hb15) .nil)))
         refine A0 (t:=85) hb15 J<|Ad 3 [0] [(88,(.I (j1:Int))),(87,(.sl 5 (List.map Bu a.Sectors))),(86,(.ptr (ix ids 0) g 0 1))] ?_
         refine Ap (tj:=85) (.cp (Bu a2) 0) J J J (B3 (Ek Ts Acf J ha2))<|Ad 2 [] [(91,(.sl 1 (List.map rS a2.Names))),(90,(.cp (Bu a2) 1))] ?_
         refine Ap (tj:=85) (.I (a2.Names.length:Int)) J J J (Al (Ak Zi))<|Ad 2 [] [(94,(.bool (decide ((a2.Names.length:Int) > 16)))),(93,(.bool (decide ((a2.Names.length:Int) > 16))))] ?_
         exact A4 hJ7 (.cons J (.cons J (.cons (E9 hb15) .nil)))
        rintro _ fr h ⟨rfl,rfl⟩
        refine Ai (Hy _ _ _)<|Aa<|Aa<|Y<|Ad 3 [0] [(72,(.sl 5 (List.map Bu a.Sectors))),(70,(.I (a.Sectors.length:Int)))] ?_
        refine Z (.I (a.Sectors.length:Int)) J (Al (Ak Ts))<|Z (.bool (decide ((a.Sectors.length:Int)<(a.Sectors.length:Int)))) J (Av J J J)<|Ab<|Di J (Int.lt_irrefl _)<|C9 J<|Aa<|Aa ?_
        refine Y<|Z (.I 0) J Af<|Ab<|Ao<|D7 [(1,(.q ids 0 g)),(5,(.I 0))] (FI J)<|Gx (P:=Try.prog) a.Configs (fun _ a3=>fun _=>Ga a3) ((D9 (fun _=>(each (fun _ a4=>fun _=>Fc a4) 0 a.Segments ()).bind (D9 (fun _=>(each (fun _ a5=>fun _=>Et a5) 0 a.Routes ()).bind (D9 (fun _=>(each (fun _ a6=>fun _=>Ea a6) 0 a.Airports ()).bind (D9 (fun _=>.ok true) (fun r=>.ok r))) (fun r=>.ok r))) (fun r=>.ok r))) (fun r=>.ok r)):(Unit ⊕ Bool)→R Bool) (fun j2=>fun _=>fun(fr:Nat→AV) (h:O)=>fr=Ae [(1,(.q ids 0 g)),(5,(.I (j2:Int)))]∧h=hp h0 ids [(some (.rows g 8 [(Ac a)]))]) () ?_ ?_ ?_
        ·exact⟨J,J⟩
        ·rintro j2 a3 ha3 W hW2 _ fr h ⟨rfl,rfl⟩
         refine Ai (m':=Ga a3) J (Ai (Ga.eq_1 _) ?_)
         refine Aa<|Aa<|Y<|Ad 3 [0] [(97,(.sl 3 (List.map Bt a.Configs))),(95,(.I (j2:Int)))] ?_
         refine Z (.I (a.Configs.length:Int)) J (Al (Ak Uj))<|Z (.bool (decide ((j2:Int)<(a.Configs.length:Int)))) J (Av J J J)<|Ab<|Fh (t:=97) (L:=a.Configs) J fun hlim5=>Dj J (Int.ofNat_lt.2 (Aq ha3))<|Aw<|Aa ?_
         refine Ao<|Aa<|Y<|Ad 3 [0] [(104,(.I (j2:Int))),(103,(.sl 3 (List.map Bt a.Configs)))] ?_
         refine Z (.cp (Bt a3) 0) J (B3 (Ek Uj Abx J ha3))<|Ad 2 [] [(107,(.sl 1 (List.map (rI .i64) a3.Sectors)))] ?_
         refine Z (.I (a3.Sectors.length:Int)) J (Al (Ak Eg))<|Ad 2 [] [(110,(.bool (decide ((a3.Sectors.length:Int) > 16))))] ?_
         refine Bz 9 [(1,(.q ids 0 g)),(5,(.I (j2:Int))),(119,(.bool ((decide ((a3.Sectors.length:Int) > 16))||(decide ((a3.Names.length:Int) > 16)))))] ?_ fun hJ8=>Bk (decide ((a3.Sectors.length:Int) > 16)) (fun hb17=>?_) (fun hb17=>?_)
         ·refine Ab<|Ds J (fun hc3=>?_) (fun hc3=>?_)
          ·refine Aa<|Y<|Z (.bool false) J Af<|Ab<|H9<|I1<|C5 (a:=false) (vs:=[(.bool false)]) Try.func9 hI J (.same _)
          refine Aw<|A3<|Y<|Ad 3 [] [(5,(.I (IntKind.wrap .i64 ((j2:Int)+1))))] ?_
          refine Ab<|Cw (H7 (hW2 () _ _ ⟨J,J⟩)) (.cons J (.cons (D1 (Aq ha3) hlim5) .nil))
         ·refine A0 (t:=110) hb17 J<|Ad 9 [] [(119,(.bool true)),(118,.und),(117,.und),(116,.und),(115,.und),(114,.und),(113,.und),(112,.und),(111,.und)] ?_
          exact A4 hJ8 (.cons J (.cons J (.cons (Fe hb17) .nil)))
         refine A0 (t:=110) hb17 J<|Ad 3 [0] [(113,(.I (j2:Int))),(112,(.sl 3 (List.map Bt a.Configs))),(111,(.ptr (ix ids 0) g 0 2))] ?_
         refine Ap (tj:=110) (.cp (Bt a3) 0) J J J (B3 (Ek Uj Abx J ha3))<|Ad 2 [] [(116,(.sl 1 (List.map rS a3.Names))),(115,(.cp (Bt a3) 1))] ?_
         refine Ap (tj:=110) (.I (a3.Names.length:Int)) J J J (Al (Ak Zi))<|Ad 2 [] [(119,(.bool (decide ((a3.Names.length:Int) > 16)))),(118,(.bool (decide ((a3.Names.length:Int) > 16))))] ?_
         exact A4 hJ8 (.cons J (.cons J (.cons (E9 hb17) .nil)))
        rintro _ fr h ⟨rfl,rfl⟩
        refine Ai (Hy _ _ _)<|Aa<|Aa<|Y<|Ad 3 [0] [(97,(.sl 3 (List.map Bt a.Configs))),(95,(.I (a.Configs.length:Int)))] ?_
        refine Z (.I (a.Configs.length:Int)) J (Al (Ak Uj))<|Z (.bool (decide ((a.Configs.length:Int)<(a.Configs.length:Int)))) J (Av J J J)<|Ab<|Di J (Int.lt_irrefl _)<|C9 J<|Aa<|Aa ?_
        refine Y<|Z (.I 0) J Af<|Ab<|Ao<|D7 [(1,(.q ids 0 g)),(6,(.I 0))] (FI J)<|Gx (P:=Try.prog) a.Segments (fun _ a4=>fun _=>Fc a4) ((D9 (fun _=>(each (fun _ a5=>fun _=>Et a5) 0 a.Routes ()).bind (D9 (fun _=>(each (fun _ a6=>fun _=>Ea a6) 0 a.Airports ()).bind (D9 (fun _=>.ok true) (fun r=>.ok r))) (fun r=>.ok r))) (fun r=>.ok r)):(Unit ⊕ Bool)→R Bool) (fun j3=>fun _=>fun(fr:Nat→AV) (h:O)=>fr=Ae [(1,(.q ids 0 g)),(6,(.I (j3:Int)))]∧h=hp h0 ids [(some (.rows g 8 [(Ac a)]))]) () ?_ ?_ ?_
        ·exact⟨J,J⟩
        ·rintro j3 a4 ha4 W hW3 _ fr h ⟨rfl,rfl⟩
         refine Ai (m':=Fc a4) J (Ai (Fc.eq_1 _) ?_)
         refine Aa<|Aa<|Y<|Ad 3 [0] [(122,(.sl 5 (List.map Aj a.Segments))),(120,(.I (j3:Int)))] ?_
         refine Z (.I (a.Segments.length:Int)) J (Al (Ak Fa))<|Z (.bool (decide ((j3:Int)<(a.Segments.length:Int)))) J (Av J J J)<|Ab<|Fh (t:=122) (L:=a.Segments) J fun hlim7=>Dj J (Int.ofNat_lt.2 (Aq ha4))<|Aw<|Aa ?_
         refine Ao<|Aa<|Y<|Ad 3 [0] [(129,(.I (j3:Int))),(128,(.sl 5 (List.map Aj a.Segments)))] ?_
         refine Z (.cp (Aj a4) 0) J (B3 (Ek Fa G6 J ha4))<|Ad 2 [] [(132,(.sl 2 (List.map Ah a4.Open)))] ?_
         refine Z (.I (a4.Open.length:Int)) J (Al (Ak Dw))<|Z (.bool (decide ((a4.Open.length:Int) > 8))) J (Av J J J)<|Ab<|Lm J (fun hc4=>?_) (fun hc4=>?_)
         ·refine Aa<|Y<|Z (.bool false) J Af<|Ab<|H9<|I1<|C5 (a:=false) (vs:=[(.bool false)]) Try.func9 hI J (.same _)
         refine Aw<|A3<|Y<|Ad 3 [] [(6,(.I (IntKind.wrap .i64 ((j3:Int)+1))))] ?_
         refine Ab<|Cw (H7 (hW3 () _ _ ⟨J,J⟩)) (.cons J (.cons (D1 (Aq ha4) hlim7) .nil))
        rintro _ fr h ⟨rfl,rfl⟩
        refine Ai (Hy _ _ _)<|Aa<|Aa<|Y<|Ad 3 [0] [(122,(.sl 5 (List.map Aj a.Segments))),(120,(.I (a.Segments.length:Int)))] ?_
        refine Z (.I (a.Segments.length:Int)) J (Al (Ak Fa))<|Z (.bool (decide ((a.Segments.length:Int)<(a.Segments.length:Int)))) J (Av J J J)<|Ab<|Di J (Int.lt_irrefl _)<|C9 J<|Aa<|Aa ?_
        refine Y<|Z (.I 0) J Af<|Ab<|Ao<|D7 [(1,(.q ids 0 g)),(7,(.I 0))] (FI J)<|Gx (P:=Try.prog) a.Routes (fun _ a5=>fun _=>Et a5) ((D9 (fun _=>(each (fun _ a6=>fun _=>Ea a6) 0 a.Airports ()).bind (D9 (fun _=>.ok true) (fun r=>.ok r))) (fun r=>.ok r)):(Unit ⊕ Bool)→R Bool) (fun j4=>fun _=>fun(fr:Nat→AV) (h:O)=>fr=Ae [(1,(.q ids 0 g)),(7,(.I (j4:Int)))]∧h=hp h0 ids [(some (.rows g 8 [(Ac a)]))]) () ?_ ?_ ?_
        ·exact⟨J,J⟩
        ·rintro j4 a5 ha5 W hW4 _ fr h ⟨rfl,rfl⟩
         refine Ai (m':=Et a5) J (Ai (Et.eq_1 _) ?_)
         refine Aa<|Aa<|Y<|Ad 3 [0] [(137,(.sl 7 (List.map A9 a.Routes))),(135,(.I (j4:Int)))] ?_
         refine Z (.I (a.Routes.length:Int)) J (Al (Ak Ic))<|Z (.bool (decide ((j4:Int)<(a.Routes.length:Int)))) J (Av J J J)<|Ab<|Fh (t:=137) (L:=a.Routes) J fun hlim9=>Dj J (Int.ofNat_lt.2 (Aq ha5))<|Aw<|Aa ?_
         refine Ao<|Aa<|Y<|Ad 3 [0] [(144,(.I (j4:Int))),(143,(.sl 7 (List.map A9 a.Routes)))] ?_
         refine Z (.cp (A9 a5) 0) J (B3 (Ek Ic P4 J ha5))<|Ad 2 [] [(147,(.sl 1 (List.map (rI .i64) a5.Segments)))] ?_
         refine Z (.I (a5.Segments.length:Int)) J (Al (Ak Eg))<|Ad 2 [] [(150,(.bool (decide ((a5.Segments.length:Int) > 10))))] ?_
         refine Bz 9 [(1,(.q ids 0 g)),(7,(.I (j4:Int))),(159,(.bool ((decide ((a5.Segments.length:Int) > 10))||(decide ((a5.Names.length:Int) > 10)))))] ?_ fun hJ9=>Bk (decide ((a5.Segments.length:Int) > 10)) (fun hb19=>?_) (fun hb19=>?_)
         ·refine Ab<|Ds J (fun hc5=>?_) (fun hc5=>?_)
          ·refine Aa<|Y<|Z (.bool false) J Af<|Ab<|H9<|I1<|C5 (a:=false) (vs:=[(.bool false)]) Try.func9 hI J (.same _)
          refine Aw<|A3<|Y<|Ad 3 [] [(7,(.I (IntKind.wrap .i64 ((j4:Int)+1))))] ?_
          refine Ab<|Cw (H7 (hW4 () _ _ ⟨J,J⟩)) (.cons J (.cons (D1 (Aq ha5) hlim9) .nil))
         ·refine A0 (t:=150) hb19 J<|Ad 9 [] [(159,(.bool true)),(158,.und),(157,.und),(156,.und),(155,.und),(154,.und),(153,.und),(152,.und),(151,.und)] ?_
          exact A4 hJ9 (.cons J (.cons J (.cons (Fe hb19) .nil)))
         refine A0 (t:=150) hb19 J<|Ad 3 [0] [(153,(.I (j4:Int))),(152,(.sl 7 (List.map A9 a.Routes))),(151,(.ptr (ix ids 0) g 0 4))] ?_
         refine Ap (tj:=150) (.cp (A9 a5) 0) J J J (B3 (Ek Ic P4 J ha5))<|Ad 2 [] [(156,(.sl 1 (List.map rS a5.Names))),(155,(.cp (A9 a5) 5))] ?_
         refine Ap (tj:=150) (.I (a5.Names.length:Int)) J J J (Al (Ak Zi))<|Ad 2 [] [(159,(.bool (decide ((a5.Names.length:Int) > 10)))),(158,(.bool (decide ((a5.Names.length:Int) > 10))))] ?_
         exact A4 hJ9 (.cons J (.cons J (.cons (E9 hb19) .nil)))
        rintro _ fr h ⟨rfl,rfl⟩
        refine Ai (Hy _ _ _)<|Aa<|Aa<|Y<|Ad 3 [0] [(137,(.sl 7 (List.map A9 a.Routes))),(135,(.I (a.Routes.length:Int)))] ?_
        refine Z (.I (a.Routes.length:Int)) J (Al (Ak Ic))<|Z (.bool (decide ((a.Routes.length:Int)<(a.Routes.length:Int)))) J (Av J J J)<|Ab<|Di J (Int.lt_irrefl _)<|C9 J<|Aa<|Aa ?_
        refine Y<|Z (.I 0) J Af<|Ab<|Ao<|D7 [(1,(.q ids 0 g)),(8,(.I 0))] (FI J)<|Gx (P:=Try.prog) a.Airports (fun _ a6=>fun _=>Ea a6) ((D9 (fun _=>.ok true) (fun r=>.ok r)):(Unit ⊕ Bool)→R Bool) (fun j5=>fun _=>fun(fr:Nat→AV) (h:O)=>fr=Ae [(1,(.q ids 0 g)),(8,(.I (j5:Int)))]∧h=hp h0 ids [(some (.rows g 8 [(Ac a)]))]) () ?_ ?_ ?_
        ·exact⟨J,J⟩
        ·rintro j5 a6 ha6 W hW5 _ fr h ⟨rfl,rfl⟩
         refine Ai (m':=Ea a6) J (Ai (Ea.eq_1 _) ?_)
         refine Aa<|Aa<|Y<|Ad 3 [0] [(162,(.sl 2 (List.map Bo a.Airports))),(160,(.I (j5:Int)))] ?_
         refine Z (.I (a.Airports.length:Int)) J (Al (Ak Xa))<|Z (.bool (decide ((j5:Int)<(a.Airports.length:Int)))) J (Av J J J)<|Ab<|Fh (t:=162) (L:=a.Airports) J fun hlim11=>Dj J (Int.ofNat_lt.2 (Aq ha6))<|Aw<|Aa ?_
         refine Ao<|Aa<|Y<|Ad 3 [0] [(169,(.I (j5:Int))),(168,(.sl 2 (List.map Bo a.Airports)))] ?_
         refine Z (.cp (Bo a6) 0) J (B3 (Ek Xa Ac7 J ha6))<|Ad 2 [] [(172,(.sl 2 (List.map Ta a6.Modes)))] ?_
         refine Z (.I (a6.Modes.length:Int)) J (Al (Ak Adg))<|Z (.bool (decide ((a6.Modes.length:Int) > 6))) J (Av J J J)<|Ab<|Lm J (fun hc6=>?_) (fun hc6=>?_)
         ·refine Aa<|Y<|Z (.bool false) J Af<|Ab<|H9<|I1<|C5 (a:=false) (vs:=[(.bool false)]) Try.func9 hI J (.same _)
         refine Aw<|A3<|Y<|Ad 3 [] [(8,(.I (IntKind.wrap .i64 ((j5:Int)+1))))] ?_
         refine Ab<|Cw (H7 (hW5 () _ _ ⟨J,J⟩)) (.cons J (.cons (D1 (Aq ha6) hlim11) .nil))
        rintro _ fr h ⟨rfl,rfl⟩
        refine Ai (Hy _ _ _)<|Aa<|Aa<|Y<|Ad 3 [0] [(162,(.sl 2 (List.map Bo a.Airports))),(160,(.I (a.Airports.length:Int)))] ?_
        refine Z (.I (a.Airports.length:Int)) J (Al (Ak Xa))<|Z (.bool (decide ((a.Airports.length:Int)<(a.Airports.length:Int)))) J (Av J J J)<|Ab<|Di J (Int.lt_irrefl _)<|C9 J<|Aa<|Y ?_
        refine Z (.bool true) J Af<|Ab<|C5 (a:=true) (vs:=[(.bool true)]) Try.func9 hI J (.same _)
       ·refine A0 (t:=49) hb13 J<|Ad 5 [] [(54,(.bool true))] ?_
        exact A4 hJ6 (.cons J (.cons (Fe hb13) .nil))
       refine A0 (t:=49) hb13 J<|Ad 2 [0] [(51,(.sl 8 (List.map Dp a.Rules)))] ?_
       refine Ap (tj:=49) (.I (a.Rules.length:Int)) J J J (Al (Ak Adl))<|Ad 2 [] [(54,(.bool (decide ((a.Rules.length:Int) > 12))))] ?_
       exact A4 hJ6 (.cons J (.cons (E9 hb13) .nil))
      ·refine A0 (t:=43) hb11 J<|Ad 5 [] [(48,(.bool true))] ?_
       exact A4 hJ5 (.cons J (.cons (Fe hb11) .nil))
      refine A0 (t:=43) hb11 J<|Ad 2 [0] [(45,(.sl 4 (List.map Cu a.Classes)))] ?_
      refine Ap (tj:=43) (.I (a.Classes.length:Int)) J J J (Al (Ak Add))<|Ad 2 [] [(48,(.bool (decide ((a.Classes.length:Int) > 6))))] ?_
      exact A4 hJ5 (.cons J (.cons (E9 hb11) .nil))
     ·refine A0 (t:=37) hb9 J<|Ad 5 [] [(42,(.bool true))] ?_
      exact A4 hJ4 (.cons J (.cons (Fe hb9) .nil))
     refine A0 (t:=37) hb9 J<|Ad 2 [0] [(39,(.sl 2 (List.map Bo a.Airports)))] ?_
     refine Ap (tj:=37) (.I (a.Airports.length:Int)) J J J (Al (Ak Xa))<|Ad 2 [] [(42,(.bool (decide ((a.Airports.length:Int) > 8))))] ?_
     exact A4 hJ4 (.cons J (.cons (E9 hb9) .nil))
    ·refine A0 (t:=31) hb7 J<|Ad 5 [] [(36,(.bool true))] ?_
     exact A4 hJ3 (.cons J (.cons (Fe hb7) .nil))
    refine A0 (t:=31) hb7 J<|Ad 2 [0] [(33,(.sl 7 (List.map A9 a.Routes)))] ?_
    refine Ap (tj:=31) (.I (a.Routes.length:Int)) J J J (Al (Ak Ic))<|Ad 2 [] [(36,(.bool (decide ((a.Routes.length:Int) > 10))))] ?_
    exact A4 hJ3 (.cons J (.cons (E9 hb7) .nil))
   ·refine A0 (t:=25) hb5 J<|Ad 5 [] [(30,(.bool true))] ?_
    exact A4 hJ2 (.cons J (.cons (Fe hb5) .nil))
   refine A0 (t:=25) hb5 J<|Ad 2 [0] [(27,(.sl 5 (List.map Aj a.Segments)))] ?_
   refine Ap (tj:=25) (.I (a.Segments.length:Int)) J J J (Al (Ak Fa))<|Ad 2 [] [(30,(.bool (decide ((a.Segments.length:Int) > 16))))] ?_
   exact A4 hJ2 (.cons J (.cons (E9 hb5) .nil))
  ·refine A0 (t:=19) hb3 J<|Ad 5 [] [(24,(.bool true))] ?_
   exact A4 hJ1 (.cons J (.cons (Fe hb3) .nil))
  refine A0 (t:=19) hb3 J<|Ad 2 [0] [(21,(.sl 3 (List.map Bt a.Configs)))] ?_
  refine Ap (tj:=19) (.I (a.Configs.length:Int)) J J J (Al (Ak Uj))<|Ad 2 [] [(24,(.bool (decide ((a.Configs.length:Int) > 8))))] ?_
  exact A4 hJ1 (.cons J (.cons (E9 hb3) .nil))
 ·refine A0 (t:=13) hb1 J<|Ad 5 [] [(18,(.bool true))] ?_
  exact A4 hJ (.cons J (.cons (Fe hb1) .nil))
 refine A0 (t:=13) hb1 J<|Ad 2 [0] [(15,(.sl 5 (List.map Bu a.Sectors)))] ?_
 refine Ap (tj:=13) (.I (a.Sectors.length:Int)) J J J (Al (Ak Ts))<|Ad 2 [] [(18,(.bool (decide ((a.Sectors.length:Int) > 12))))] ?_
 exact A4 hJ (.cons J (.cons (E9 hb1) .nil))
end Go.Am
namespace Go.Am
open Go
set_option linter.unusedSimpArgs false
set_option linter.unusedVariables false
set_option linter.unusedSectionVars false
end Go.Am
namespace Go.Am
open Go
end Go.Am
namespace Go.Am
open Go
set_option linter.unusedSimpArgs false
set_option linter.unusedVariables false
set_option linter.unusedSectionVars false
def Zh {α β:Type}(st:Nat)(e:α→List AV)(eb:β→AV)(h:O)(o:Nat)(m:R (List α×β)):AR→O→Prop:=fun r h'=>match m with
 | .ok a => ∃ v g,r=.ret (.tup [v,eb a.2])∧Co v o g a.1.length∧h'=upd h o (Az v g st (a.1.map e))
 | .pan v=>r=.panic v.av∧h'=h
 | .bad=>False
def Tw {α β:Type}(P:Program)[GW P](g:FuncId)(args:List AV)(m:R (List α×β))(st:Nat)(e:α→List AV)(eb:β→AV):Prop := ∀ h o,h o=none→m≠.bad→Bh P g args h (Zh st e eb h o m)
theorem Tw.lend {α β:Type}{P:Program}[GW P]{g:FuncId}{args args':List AV}{m:R (List α×β)}{st:Nat}{e:α→List AV}{eb:β→AV}{h:O}(hc:Tw P g args' m st e eb)(hz:T7 h args args')(hr : ∀ x,Bf st (e x))(hfe : ∀ x,∀ c ∈ e x,Free c)(hfb : ∀ b,Free (eb b))(hb:m≠.bad) :
  Bh P g args h (L7 (fun p:List α×β=>AV.tup [.sl st (p.1.map e),eb p.2]) h m):=by
 obtain⟨hbody,hcall⟩:=hc hE 0 rfl hb
 refine⟨hbody,fun B mu w cargs s ha=>?_⟩
 obtain⟨hlen,hfz⟩:=hz.len
 have ha':Gc hE mu w args' cargs.toList:=⟨hlen ▸ ha.1,fun i hi=>Es s (Le h) (hfz i (hlen ▸ hi)) (ha.2 i (hlen ▸ hi))⟩
 refine(hcall B mu w cargs (s.sub (Le h)) ha').mono ?_
 rintro en w' ⟨r,h1,mu',hq,hs',hext,hE'⟩
 have hs0:Sim B mu' hE w':=hs'.sub (Le h1)
 have hext0:Bw hE mu w hE mu' w':=hext.trans (Bw.sub (Le h1))
 obtain⟨k1,k2⟩:=s.back hs0 hext0
 cases hm:m with
 | bad=>exact absurd hm hb
 | pan v=>
  rw [hm] at hq
  obtain⟨rfl,rfl⟩:=hq
  refine⟨_,h,mu',⟨rfl,rfl⟩,k1,k2,?_⟩
  obtain⟨x,rfl,x1,x2,x3⟩:=hE'.panic_inv
  refine⟨x1,x2,?_⟩
  obtain⟨xv,xr,xg⟩:=x
  simp only [PV.av] at x3
  cases x3 with
  | iface _ _ c hc=>exact .iface _ _ c (v.x.free.rv hc)
 | ok a=>
  rw [hm] at hq
  obtain⟨v,g',rfl,hv,rfl⟩:=hq
  refine⟨_,h,mu',⟨rfl,rfl⟩,k1,k2,?_⟩
  cases en with
  | panicked _=>exact hE'.elim
  | outgrown=>exact hE'.elim
  | returned c=>
   have hE2:RV (upd hE 0 (Az v g' st (a.1.map e))) mu' w' (.tup [v,eb a.2]) c:=hE'
   show RV h mu' w' (.tup [.sl st (a.1.map e),eb a.2]) c
   cases hE2 with
   | tup _ vs hl hp=>
    refine .tup _ vs hl fun i hi=>?_
    match i,hi with
    | 1,_=>exact(hfb a.2).rv (hp 1 (by simp))
    | 0,_=>
     have h0:RV (upd hE 0 (Az v g' st (a.1.map e))) mu' w' v (vs.getD 0 undef):=hp 0 (by simp)
     show RV h mu' w' (.sl st (a.1.map e)) (vs.getD 0 undef)
     have hfz2:Fz (upd hE 0 (Az v g' st (a.1.map e))) hE v (.sl st (a.1.map e)):=Ho hv (by simp [upd]) rfl hr
     have hc0:RV hE mu' w' (.sl st (a.1.map e)) (vs.getD 0 undef):=Es hs' (Le _) hfz2 h0
     generalize vs.getD 0 undef=c0 at h0 hc0
     rcases hv with⟨rfl,hn⟩ | rfl
     ·have:a.1=[]:=List.length_eq_zero_iff.1 hn
      rw [this] at hc0 ⊢
      cases h0
      exact .sl0 st _ _
     ·have hlive : ∀ {o x l},h o=some x→mu' o x.gen=some l→mu o x.gen=some l:=by
       intro o x l hx hl
       have : ∃ l,mu o x.gen=some l:=by
        cases x with
        | rows g st rs=>obtain⟨l,h1,_⟩:=s.rows _ _ _ _ hx; exact⟨l,h1⟩
        | mp g es=>obtain⟨l,h1,_⟩:=s.maps _ _ _ hx; exact⟨l,h1⟩
        | blk g x=>obtain⟨l,h1,_⟩:=s.blks _ _ _ hx; exact⟨l,h1⟩
       obtain⟨l',hl'⟩:=this
       have:=hext.mu _ _ _ hl'
       rw [hl] at this
       cases this
       exact hl'
      cases h0 with
      | ref _ _ _ _ cap l hmu hcells hcap hlim hsz=>
       have hnot:¬ A8 h mu' l.b:=by
        rintro⟨o',x,l',hx,hl',hbb⟩
        have hold:=(s.muOk _ _ _ (hlive hx hl')).2.1
        have:=(hext.same l'.b hold (by rintro⟨o2,x2,l2,hx2,_⟩; cases hx2)).2
        refine this ⟨0,.rows g' st (a.1.map e),l,by simp [upd,Az],hmu,hbb.symm⟩
       have hcell : ∀ i j,i<(a.1.map e).length→j<st→Free (cell (a.1.map e) i j):=by
        intro i j hi hj
        rw [List.length_map] at hi
        have hrow:=hr (a.1[i])
        have hj':j<(e a.1[i]).length:=by have:=hrow.1; omega
        have:cell (a.1.map e) i j=(e a.1[i])[j]:=by
         unfold cell
         simp [List.getD,hi,hj']
        rw [this]
        exact hfe _ _ (List.getElem_mem hj')
       have hlen2:a.1.length=(a.1.map e).length:=(List.length_map _).symm
       rw [hlen2] at hc0 ⊢
       generalize a.1.map e=rows at hc0 hcell ⊢
       cases hc0 with
       | sl0=>exact .sl0 _ _ _
       | sl _ _ b off cap' vs' k3 k4 h1 h2 h3 h4 h5=>exact .sl st rows _ _ _ vs' k3 k4 h1 (fun i j hi hj=>(hcell i j hi hj).rv (h2 i j hi hj)) h3 hnot h5
def Jh {α β:Type}(st:Nat)(e:α→List AV)(eb:β→AV)(h:O)(o:Nat)(hdl:PV→R (List α×β)):Spec (List α×β):=⟨fun m=>m.catch' hdl≠.bad,fun h=>h rfl,fun m r h' _=>Zh st e eb h o (m.catch' hdl) r h'⟩
section
variable {P:Program} [GW P] {f:FuncId} {n:Nat} {α β:Type} {st:Nat} {e:α→List AV} {eb:β→AV} {hdl:PV→R (List α×β)} {h0:O} {ids:List Nat} {N:Nat} {xs:List (Option AO)} {l:List (Nat×AV)} {k:List Item}
theorem Ym {fn : Func} {c : Code} {args : List AV} {m : R (List α × β)} (N : Nat) (hf : P.funcs[f]? = some fn) (hb : fn.body = some c) (hn : fn.name ≠ "runtime.NumGoroutine") (hnt : fn.ntmps = n) (hl : Nat.ble args.length n = true)
  (hr : ∀ (h0 : O) (ids : List Nat), Ids h0 ids (N + 1) → WR P f n false (Jh st e eb h0 (ix ids N) hdl) m [.code c] (Ae (Lb 0 args)) [] (hp h0 ids (List.replicate (N + 1) none)) .ret) : Tw P f args (m.catch' hdl) st e eb := by
 intro h o ho hb'
 refine G3 hf hb hn hnt (by simpa using hl) ?_
 refine Mc N [o] fun os h1 h2 h3 h4 => ?_
 have hI : Ids h (os ++ [o]) (N + 1) := ⟨List.nodup_append.2 ⟨h2, List.nodup_cons.2 ⟨(fun q => by cases q), List.nodup_nil⟩, fun a ha b hb q => h4 a ha (by rw [List.mem_singleton.1 hb] at q; exact List.mem_singleton.2 q)⟩, fun p hp => by
  rcases List.mem_append.1 hp with q | q
  ·exact h3 p q
  ·rw [List.mem_singleton.1 q]; exact ho, by simp [h1]⟩
 have hix : ix (os ++ [o]) N = o := by
  simp [ix, List.getD, ← h1]
 have := hr h (os ++ [o]) hI
 rw [hix] at this
 have := this hb'
 rw [Gr hI.fresh] at this
 refine Hd (fun t => ?_) this
 rcases Hj args 0 t with h | ⟨_, h⟩
 ·exact .inl h
 ·exact .inr h
theorem Abe (hI:Ids h0 ids N)(hl:xs.length=N){j:Nat}(hj:Nat.blt j N=true){x:Option AO}(hx:xs[j]? = some x):Dl (upd h0 (ix ids j) x) (hp h0 ids xs):=by
 have e1:upd h0 (ix ids j) x=hp h0 ids ((List.replicate N none).set j x):=by
  rw [← hI.set (by simp) hj,Gr hI.fresh]
 rw [e1]
 refine U1 (hI.len.trans hl.symm) (by simp [hI.len]) hI.nodup hI.fresh fun i=>?_
 by_cases q:i=j
 ·subst q
  left
  rw [hx,List.getElem?_set,if_pos rfl,if_pos (by simpa using hj)]
 ·rw [List.getElem?_set,if_neg (fun p=>q p.symm),List.getElem?_replicate]
  by_cases p:i<N
  ·rw [if_pos p]; exact .inr rfl
  ·rw [if_neg p,List.getElem?_eq_none (by omega)]; exact .inl rfl
theorem Y9 {fn:Func}{a:List α×β}{v:AV}{g':Nat}{A:List AV}{g j:Nat}(hf:P.funcs[f]? = some fn)(hI:Ids h0 ids N)(hl:xs.length=N)(hj:Nat.blt j N=true)(hc:Dz P g A .ret (hp h0 ids xs) (Jj (fun _:Unit=>hp h0 ids xs) .ret (.ok ())))
  (hr:C7 P (hp h0 ids xs) (Ae l) fn.results.toList=some [v,eb a.2]) (hv:Co v (ix ids j) g' a.1.length) (hx:xs[j]? = some (Az v g' st (a.1.map e))) (hnc:AD.isStar ⟨g,A⟩=false:=by rfl) :
  WR P f n false (Jh st e eb h0 (ix ids j) hdl) (.ok a) (.code .ret::k) (Ae l) [⟨g,A⟩] (hp h0 ids xs) .ret:=fun _=>
 K5 (Kb (hc.mono fun r h' u hq=>by
  obtain⟨_,_,rfl,rfl,rfl⟩:=hq
  exact Hq hf hr (Abe hI hl hj hx) (.same _) rfl ⟨v,g',rfl,hv,rfl⟩) hnc)
theorem Ys {γ:Type}{Hc:R γ}{fin:γ→List α×β}{fn:Func}{v:PV}{fr:Nat→AV}{A:List AV}{g o c:Nat}{ys:List (Option AO)}{cells:γ→List (Option AO)}(hf:P.funcs[f]? = some fn)(hI:Ids h0 ids N)(hl:xs.length=N)(ho:h0 o=none)(hc:Nat.ble c N=true)(hys:xs.take c=ys)
  (hh:hdl v=Hc.bind fun x=>.ok (fin x)) (hd:(∃ x,Hc=.ok x)→Dz P g A (.pan v.av false) (hp h0 (ids.take c) ys) (Jj (fun x=>hp h0 (ids.take c) (cells x)) (.pan v.av true) Hc)) (hno : ∀ w,Hc≠.pan w)
  (hr : ∀ x,C7 P (hp h0 (ids.take c) (cells x)) fr fn.results.toList=some [.emp,eb (fin x).2]) (hz : ∀ x,(fin x).1=[]) (hnc:AD.isStar ⟨g,A⟩=false:=by rfl) :
  WU P f n false (Jh st e eb h0 o hdl) (.pan v) (.pan v.av false) fr [⟨g,A⟩] (hp h0 ids xs) .ret:=by
 intro hV
 have hV':hdl v≠.bad:=hV
 cases hq:Hc with
 | bad=>rw [hh,hq] at hV'; exact absurd rfl hV'
 | pan w=>exact absurd hq (hno w)
 | ok x=>
  have hsub:Dl (hp h0 (ids.take c) ys) (hp h0 ids xs):=by rw [← hys]; exact Rp ids xs c (hI.len.trans hl.symm) hI.fresh hI.nodup
  have key:Gk P f n false (.pan v.av false) fr [⟨g,A⟩] (hp h0 (ids.take c) ys) .ret ((Jh st e eb h0 o hdl).Q (.pan v)):=by
   refine Kb ((hd ⟨x,hq⟩).mono fun r h' u2 hx=>?_) hnc
   obtain⟨y,hy,rfl,rfl,rfl⟩:=hx
   rw [hq] at hy
   cases hy
   refine Hq hf (hr x) ((hI.take hc).sub _) (.same _) rfl ?_
   show Zh st e eb h0 o (hdl v) _ _
   rw [hh,hq]
   refine⟨.emp,0,rfl,.inl ⟨rfl,by rw [hz x]; rfl⟩,?_⟩
   show h0=upd h0 o (Az .emp 0 st ((fin x).1.map e))
   funext i
   unfold upd
   split
   ·rename_i q; subst q; rw [ho]; rfl
   ·rfl
  intro B mu w a cs todo mode p hm
  exact(key B mu w a cs todo mode (p.ext (Bw.sub hsub) (p.sim.sub hsub)) (hm.ext (Bw.sub hsub))).ext (Bw.sub hsub)
end
section
variable {P:Program} [GW P] {f:FuncId} {n:Nat} {d:FK} {α β:Type} {st:Nat} {e:α→List AV} {eb:β→AV} {hdl:PV→R (List α×β)} {h0 h:O} {o:Nat} {fr:Nat→AV} {ds:List AD} {u:AU} {v:PV} {a a':AU}
theorem Ach {t:TypeId}{F:R (List α×β)}{els:PV→R (List α×β)}(hh:hdl=Cb t F els)(h1:v=⟨t,.unit⟩→WU P f n d (Jh st e eb h0 o hdl) (.pan v) a fr ds h u)(h2:v.t≠t→WU P f n d (Jh st e eb h0 o hdl) (.pan v) a fr ds h u) :
  WU P f n d (Jh st e eb h0 o hdl) (.pan v) a fr ds h u:=by
 intro hV
 by_cases hv:v.t=t
 ·obtain⟨vt,vx⟩:=v
  simp only at hv
  subst hv
  have hV':hdl ⟨vt,vx⟩≠.bad:=hV
  rw [hh] at hV'
  cases vx with
  | int k' n'=>simp [Cb] at hV'
  | str s=>simp [Cb] at hV'
  | bool b=>simp [Cb] at hV'
  | unit=>exact h1 rfl hV
  | two k1 k2 a b=>simp [Cb] at hV'
  | one k a=>simp [Cb] at hV'
 ·exact h2 hv hV
theorem Aca (hh:hdl v=.bad):WU P f n d (Jh st e eb h0 o hdl) (.pan v) a fr ds h u:=fun hV=>absurd hh hV
end
theorem Z5 {H:O}{o g st:Nat}{v:AV}{n:Nat}{z z':List AV}(hr:Bf st z')(hz : ∀ h h2,LF h h2 z z'):R3 (upd H o (Az v g st (List.replicate n z))) (upd H o (Az v g st (List.replicate n z'))):=by
 intro o' y e
 by_cases q:o'=o
 ·subst q
  have e1:upd H o' (Az v g st (List.replicate n z')) o'=Az v g st (List.replicate n z'):=by simp [upd]
  have e2:upd H o' (Az v g st (List.replicate n z)) o'=Az v g st (List.replicate n z):=by simp [upd]
  rw [e1] at e
  have key : ∀ {h h2:O} {y},some (AO.rows g st (List.replicate n z'))=some y → ∃ x,some (AO.rows g st (List.replicate n z))=some x∧AFz h h2 x y:=by
   intro h h2 y e
   cases e
   refine⟨_,rfl,.rows g st _ _ (by simp) (fun r hr'=>by rw [List.eq_of_mem_replicate hr']; exact hr) fun i j hi hj=>?_⟩
   rw [List.length_replicate] at hi
   have c1 : ∀ w:List AV,cell (List.replicate n w) i j=w.getD j .und:=by
    intro w
    unfold cell
    simp [List.getD,hi]
   rw [c1,c1]
   exact(hz _ _).all.2 j (by rw [(hz hE hE).all.1]; have:=hr.1; omega)
  rw [e2]
  unfold Az at e ⊢
  split at e
  ·cases e
  ·exact key e
 ·have e1:upd H o (Az v g st (List.replicate n z')) o'=H o':=by simp [upd,q]
  rw [e1] at e
  exact⟨y,by simp [upd,q,e],.same _⟩
section
variable {P:Program} [GW P] {f:FuncId} {n:Nat} {d:FK} {β:Type} {Q:Spec β} {m:R β} {ds:List AD} {u:AU} {k:List Item} {l:List (Nat×AV)}
variable {all r:List Oper} {ty:TypeId} {pos:String} {after:Array Edge} {h0:O} {ids:List Nat} {xs:List (Option AO)} {N j st:Nat} {α:Type} {e:α→List AV}
theorem Tq {t:Nat}{sT et:TypeId}{a1 b1:Nat}{z1:List AV}{E:TI}{ln cp:Operand}{i c:Int}{ki kc:IntKind}{y:α}(hI:Ids h0 ids N)(hl:xs.length=N)(hjn:Nat.blt j N=true)(hj:xs[j]? = some none)(ht:Nat.blt t n=true)(hS:ti P sT=some ⟨.sl et,a1,b1,z1⟩)(hE:ti P et=some E)
  (h1:ev (Ae l) ln=.int ki i) (h2:ev (Ae l) cp=.int kc c) (hi:0≤i) (hic:i≤c) (hlim:c.toNat * E.bytes≤Do) (hsz:Nat.blt 0 E.size=true) (hby:Nat.blt 0 E.bytes=true) (hz:E.z.all AV.flat=true) (hy : ∀ h h2,LF h h2 E.z (e y)) (hro:Bf st (e y)) (hst:st=E.size)
  (hk : ∀ v' g',Co v' (ix ids j) g' (List.replicate i.toNat y).length→WO P f n d Q k all m r (Ae ((t,v')::l)) ds (hp h0 ids (xs.set j (Az v' g' st ((List.replicate i.toNat y).map e)))) u) :
  WO P f n d Q k all m (⟨some t,.makeSlice sT ln cp,ty,pos,after,none⟩::r) (Ae l) ds (hp h0 ids xs) u:=by
 refine Aa1 (y:=()) (e:=fun _:Unit=>E.z) hI hl hjn hj ht hS hE h1 h2 hi hic hlim hsz hby hz rfl hst fun v' g' hv=>?_
 have hw:=hk v' g' (by simpa using hv)
 rw [← hI.set hl hjn,List.map_replicate] at hw ⊢
 exact fun hb i hi=>Xx (Z5 hro hy) (fun t=>.same _) (hw hb i hi)
end
end Go.Am
namespace Go.Am
open Go Go.Proofs
set_option maxRecDepth 100000
set_option maxHeartbeats 4000000
set_option linter.unusedSimpArgs false
set_option linter.unusedVariables false
theorem Sk (x:Span) : ∀ c ∈ Ah x,Free c:=by
 intro c hc
 have h:c ∈ [(.int .i64 x.From),(.int .i64 x.To)]:=hc
 simp only [List.mem_cons,List.not_mem_nil,or_false] at h
 rcases h with rfl | rfl
 ·exact .int _ _
 ·exact .int _ _
theorem Jn (a:Airspace)(segment:Int):Tw Try.prog 10 [(.agg (Ac a)),(.int .i64 segment)] (Cq a segment) 2 Ah (fun(b:Int)=>.int .i64 b):=by
 show Tw _ _ _ ((Ed a segment).catch' (Cb 86 ((A5).bind fun _=>.ok ([],1)) (fun _=>.bad))) _ _ _
 refine Ym (n:=10) 2 Try.func10 rfl (by decide) rfl rfl fun h0 ids hI=>?_
 have hU : ∀ (v:PV) (fr:Nat→AV) (xs:List (Option AO)) (g0_:Nat) (r0_:List AV) (hl_:xs.length=3) (hr0_:r0_.length=1) (hy_:xs.take 1=[some (.rows g0_ 1 [r0_])]) (hq4_:fr 4=.emp) (hq5_:fr 5=.q ids 0 g0_),WU Try.prog 10 10 false (Jh 2 Ah (fun(b:Int)=>.int .i64 b) h0 (ix ids 2) (Cb 86 ((A5).bind fun _=>.ok ([],1)) (fun _=>.bad))) (.pan v) (.pan v.av false) fr [⟨25,[.q ids 0 g0_]⟩] (hp h0 ids xs) .ret:=by
  intro v fr xs g0_ r0_ hl_ hr0_ hy_ hq4_ hq5_
  refine Ach (t:=86) rfl (fun hv=>?_) (fun hne86=>?_)
  ·subst hv
   exact Ys (Hc:=A5) (fin:=fun _=>([],1)) (c:=1) (cells:=fun p=>[some (.rows g0_ 1 [[(.I 1)]])]) Try.func10 hI hl_ (hI.out rfl) rfl hy_ (by first | (rw [Er]; done) | (rw [Er]; rfl)) (fun hx=>by have:=Gy h0 (ids.take 1) (hI.take rfl) g0_ r0_ hr0_ hx; simp only [G5 (c:=1) (j:=0) rfl] at this; exact this) (by intro w; simp [A5,Bb]) (fun p=>(Kg hq4_ (I2 hq5_ (Mr (hI.take rfl) (G5 rfl) rfl rfl rfl F2 rfl) Fb))) (fun p=>rfl)
  exact Aca (by rw [Kd hne86])
 refine Cf (Ai (Ed.eq_1 _ _) ?_)
 refine Aa ?_
 refine Y ?_
 refine G0 (v:=(.agg (Ac a))) (j:=1) hI rfl rfl rfl rfl rfl rfl rfl fun g=>?_
 refine Z .emp rfl Af ?_
 refine De (j:=0) hI rfl rfl rfl rfl F2 rfl fun g1=>?_
 refine Ab ?_
 refine Bn ?_
 refine Aa ?_
 refine Y ?_
 refine Z (.func (.func 25) [] [(.q ids 0 g1)]) rfl Mp ?_
 refine Li rfl rfl rfl ?_
 refine Ab ?_
 refine Aa ?_
 refine Y ?_
 refine Ad 2 [1] [(8,(.I segment)),(7,(.agg (Ac a)))] ?_
 refine Pn (j:=2) [(.agg (Ac a)),(.I segment)] hI rfl rfl rfl rfl rfl rfl (Jm a segment _ _ (hI.at rfl rfl)) (fun v _=>hU v _ _ _ _ rfl rfl rfl rfl rfl) fun l _ v g2 H=>?_
 refine Z v rfl Af ?_
 refine B4 (C4 (v:=(.I 0)) hI rfl rfl rfl rfl F2 rfl rfl rfl rfl rfl) ?_
 refine Ab ?_
 exact Y9 (a:=(l,0)) (v:=v) (g':=g2) (j:=2) Try.func10 hI rfl rfl (Ig _ _) (Ju (Hp (C6 hI rfl rfl rfl F2 rfl) Fb)) H rfl
end Go.Am
namespace Go.Am
open Go Go.Proofs
set_option maxRecDepth 100000
set_option maxHeartbeats 4000000
set_option linter.unusedSimpArgs false
set_option linter.unusedVariables false
theorem L8 (a:Airspace):CP Try.prog 6 [(.agg (Ac a))] (Fk a) (fun(x:Bool)=>(AV.bool x)):=by
 refine He (n:=162) 6 Try.func6 J (by decide) J J fun h0 ids hI=>Cf (Ai (Fk.eq_1 _) ?_)
 refine Aa<|Y<|G0 (v:=(.agg (Ac a))) (j:=0) hI J J J J J J J fun g=>Z (.bool false) J Af<|Ab<|Bn ?_
 refine Aa<|Aa<|Y<|B9 [] J J J J ((S0) _) (fun v _=>Dr Try.func6 hI) fun r _=>Z (.bool (!r)) J (Ra J)<|Ab<|Nx J (fun hc=>?_) (fun hc=>?_)
 ·refine Aw<|Aa<|Aa<|Y<|Ad 1 [0] [(21,(.agg (Ac a)))] ?_
  refine B9 [(.agg (Ac a))] J J J J ((T6 a) _) (fun v _=>Dr Try.func6 hI) fun r1 _=>Z (.bool (!r1)) J (Ra J)<|Ab<|Nx J (fun hc1=>?_) (fun hc1=>?_)
  ·refine Aw<|Aa<|Mt (π:=Unit) (fun _=>En a r) (fun _=>fun(fr:Nat→AV) (h:O) => ∃ (g5:Nat),∃ (g6:Nat),fr=Ae [(1,(.q ids 0 g)),(3,(.q ids 1 g5)),(4,(.q ids 2 g6))]∧h=hp h0 ids [(some (.rows g 8 [(Ac a)])),(some (.rows g5 8 [(Ac a)])),(some (.rows g6 8 [(Ac a)])),none,none,none]) ?_ fun hJ7=>?_
   ·rintro _ fr h ⟨g5,g6,rfl,rfl⟩
    refine Ai (En.eq_1 _ _)<|Aa<|Y<|Ad 2 [0] [(27,(.sl 2 (List.map Bg a.Volumes)))] ?_
    refine Z (.I (a.Volumes.length:Int)) J (Al (Ak G7))<|H3 fun hl=>Tq (y:=(An:Volume)) (e:=Bg) (st:=2) (j:=3) hI J J J J G7 Oo J J hl.1 hl.2.1 hl.2.2 J J J (fun _ _=>(.cons (.same _) (.cons (.emp _) .nil))) (Fw _) J fun v g7 vH=>Z (.q ids 1 g5) J (Il (Tc 0 0 0 Ct J G7 J))<|B4 (Mf vH hI J J J J G7 J J J)<|Ab<|Bn ?_
    refine Aa<|Y<|Ad 2 [0] [(32,(.sl 2 (List.map Bg a.Volumes)))] ?_
    refine Z (.I (a.Volumes.length:Int)) J (Al (Ak G7))<|H3 fun hl1=>Tq (y:=(An:Volume)) (e:=Bg) (st:=2) (j:=4) hI J J J J G7 Oo J J hl1.1 hl1.2.1 hl1.2.2 J J J (fun _ _=>(.cons (.same _) (.cons (.emp _) .nil))) (Fw _) J fun v1 g8 vH1=>Z (.q ids 2 g6) J (Il (Tc 0 0 0 Ct J G7 J))<|B4 (Mf vH1 hI J J J J G7 J J J)<|Ab<|Bn ?_
    refine Aa<|Aa<|Y<|Z (.I 0) J Af<|Ab<|Ao<|Fh (t:=27) (L:=a.Volumes) J fun hlim=>?_
    refine D7 [(1,(.q ids 0 g)),(3,(.q ids 1 g5)),(4,(.q ids 2 g6)),(5,(.I 0))] (FI J)<|Hi (P:=Try.prog) a.Volumes (fun j _=>fun l=>B6 j l) (((fun l=>if a.Segments.length * 72≤Do then(each (fun j1 _=>fun l1=>B7 a l j1 l1) 0 a.Segments a.Segments).bind (D9 (fun l1=>(B0 ({ Volumes:=(List.replicate (Int.toNat (a.Volumes.length:Int)) An),Sectors:=a.Sectors,Configs:=a.Configs,Segments:=l1,Routes:=a.Routes,Airports:=a.Airports,Classes:=a.Classes,Rules:=a.Rules }:Airspace)).bind fun r5=>(B0 ({ Volumes:=l,Sectors:=a.Sectors,Configs:=a.Configs,Segments:=a.Segments,Routes:=a.Routes,Airports:=a.Airports,Classes:=a.Classes,Rules:=a.Rules }:Airspace)).bind fun r6=>(Cs ({ Volumes:=l,Sectors:=a.Sectors,Configs:=a.Configs,Segments:=a.Segments,Routes:=a.Routes,Airports:=a.Airports,Classes:=a.Classes,Rules:=a.Rules }:Airspace)).bind fun r7=>if(r5.2 != r6.2) then(.ok false) else(if(r5.2 != 0) then(.ok (((r5.1.length:Int)==0)&&((r6.1.length:Int)==0))) else((Dc (fun _ a5=>fun x2=>Bc a5 x2) 0 a.Routes 0).bind ((fun x2=>.ok ((((r5.1.length:Int)==0)&&((r6.1.length:Int)==x2))&&((r7.2 != 0)||((r7.1.length:Int)==0)))))))) (fun r=>.ok r)) else .bad)):(List Volume)→R Bool) (fun j=>fun l=>fun(fr:Nat→AV) (h:O) => ∃ (v2:AV),∃ (g9:Nat),Co v2 (ix ids 4) g9 l.length∧fr=Ae [(1,(.q ids 0 g)),(3,(.q ids 1 g5)),(4,(.q ids 2 g6)),(5,(.I (j:Int)))]∧h=hp h0 ids [(some (.rows g 8 [(Ac a)])),(some (.rows g5 8 [[v,(.sl 5 (List.map Bu a.Sectors)),(.sl 3 (List.map Bt a.Configs)),(.sl 5 (List.map Aj a.Segments)),(.sl 7 (List.map A9 a.Routes)),(.sl 2 (List.map Bo a.Airports)),(.sl 4 (List.map Cu a.Classes)),(.sl 8 (List.map Dp a.Rules))]])),(some (.rows g6 8 [[v2,(.sl 5 (List.map Bu a.Sectors)),(.sl 3 (List.map Bt a.Configs)),(.sl 5 (List.map Aj a.Segments)),(.sl 7 (List.map A9 a.Routes)),(.sl 2 (List.map Bo a.Airports)),(.sl 4 (List.map Cu a.Classes)),(.sl 8 (List.map Dp a.Rules))]])),(Az v g7 2 (List.map Bg (List.replicate (Int.toNat (a.Volumes.length:Int)) An))),(Az v2 g9 2 (List.map Bg l)),none]) (List.replicate (Int.toNat (a.Volumes.length:Int)) An) ?_ ?_ ?_
    ·exact⟨v1,g8,vH1,J,J⟩
    ·rintro j a1 ha1 W hW l fr h ⟨v2,g9,vH2,rfl,rfl⟩
     refine Ai (m':=B6 j l) J (Ai (B6.eq_1 _ _) ?_)
     refine Aa<|Aa<|Y<|Ad 3 [0] [(38,(.sl 2 (List.map Bg a.Volumes))),(36,(.I (j:Int)))] ?_
     refine Z (.I (a.Volumes.length:Int)) J (Al (Ak G7))<|Z (.bool (decide ((j:Int)<(a.Volumes.length:Int)))) J (Av J J J)<|Ab<|Dj J (Int.ofNat_lt.2 (Aq ha1))<|Aw<|Aa<|Ao ?_
     refine Y<|Ad 5 [2] [(47,(.agg [(.I 0),(.I 700)])),(46,(.agg [(.I 700),(.I 1440)])),(45,(.I (j:Int))),(44,v2)] ?_
     refine Fr (e:=Ah) (L:=[({ From:=700,To:=1440 }:Span),({ From:=0,To:=700 }:Span)]) (st:=2) (rows:=[[(.I 700),(.I 1440)],[(.I 0),(.I 700)]]) J Dw E4 J J J J J (.cons (.cons (.same _) (.cons (.same _) .nil)) (.cons (.cons (.same _) (.cons (.same _) .nil)) .nil)) (fun x=>Fp x) J J<|J1 fun a2 hz hx1=>Z (.ptr (ix ids 4) g9 (j:Int).toNat 0) J (B3 (Wi hI J vH2 J G7 Oo J hz hx1))<|Z (.ptr (ix ids 4) g9 (j:Int).toNat 1) J (Il (Tc 0 1 1 Oo J Dw J))<|B4 (Xv (y:={ a2 with Closed:=[({ From:=700,To:=1440 }:Span),({ From:=0,To:=700 }:Span)] }) hI J J vH2 J hx1 Dw J J J J J J) ?_
     have vH3:=Co.set (i:=(j:Int).toNat) (y:={ a2 with Closed:=[({ From:=700,To:=1440 }:Span),({ From:=0,To:=700 }:Span)] }) vH2
     have hx2:=List.getElem?_set_self (a:={ a2 with Closed:=[({ From:=700,To:=1440 }:Span),({ From:=0,To:=700 }:Span)] }) (Aq hx1)
     refine Ab<|Bn ?_
     refine A3<|Y<|Ad 3 [] [(5,(.I (IntKind.wrap .i64 ((j:Int)+1))))] ?_
     refine Ab<|Cw (L1 (hW (l.set (j:Int).toNat { a2 with Closed:=[({ From:=700,To:=1440 }:Span),({ From:=0,To:=700 }:Span)] }) _ _ ⟨v2,g9,vH3,J,J⟩)) (.cons J (.cons J (.cons J (.cons (D1 (Aq ha1) hlim) .nil))))
    rintro l fr h ⟨v2,g9,vH2,rfl,rfl⟩
    refine Aa<|Aa<|Y<|Ad 3 [0] [(38,(.sl 2 (List.map Bg a.Volumes))),(36,(.I (a.Volumes.length:Int)))] ?_
    refine Z (.I (a.Volumes.length:Int)) J (Al (Ak G7))<|Z (.bool (decide ((a.Volumes.length:Int)<(a.Volumes.length:Int)))) J (Av J J J)<|Ab<|Di J (Int.lt_irrefl _)<|C9 J<|Aa<|Y ?_
    refine Abr J Fa G6<|Ad 2 [0] [(53,(.sl 5 (List.map Aj a.Segments)))] ?_
    refine H3 fun hl2=>Lt (e:=Aj) (L:=([]:List Segment)) (L2:=a.Segments) (v:=.emp) (g:=0) (st:=5) (j:=5) hI J J J J .nil J (Qy J) Fa Fa J G6 J J J (by simpa using hl2) fun v3 g10 vH4=>Z (.ptr (ix ids 1) g5 0 3) J (Il (Tc 0 3 3 Ct J Fa J))<|B4 (Mf vH4 hI J J J J Fa J J J)<|Ab<|Bn ?_
    refine Aa<|Aa<|Y<|Z (.I 0) J Af<|Ab<|Ao<|Fh (t:=53) (L:=a.Segments) J fun hlim1=>?_
    refine D7 [(1,(.q ids 0 g)),(3,(.q ids 1 g5)),(4,(.q ids 2 g6)),(6,(.I 0))] (FI J)<|Gx (P:=Try.prog) a.Segments (fun j1 _=>fun l1=>B7 a l j1 l1) ((D9 (fun l1=>(B0 ({ Volumes:=(List.replicate (Int.toNat (a.Volumes.length:Int)) An),Sectors:=a.Sectors,Configs:=a.Configs,Segments:=l1,Routes:=a.Routes,Airports:=a.Airports,Classes:=a.Classes,Rules:=a.Rules }:Airspace)).bind fun r5=>(B0 ({ Volumes:=l,Sectors:=a.Sectors,Configs:=a.Configs,Segments:=a.Segments,Routes:=a.Routes,Airports:=a.Airports,Classes:=a.Classes,Rules:=a.Rules }:Airspace)).bind fun r6=>(Cs ({ Volumes:=l,Sectors:=a.Sectors,Configs:=a.Configs,Segments:=a.Segments,Routes:=a.Routes,Airports:=a.Airports,Classes:=a.Classes,Rules:=a.Rules }:Airspace)).bind fun r7=>if(r5.2 != r6.2) then(.ok false) else(if(r5.2 != 0) then(.ok (((r5.1.length:Int)==0)&&((r6.1.length:Int)==0))) else((Dc (fun _ a5=>fun x2=>Bc a5 x2) 0 a.Routes 0).bind ((fun x2=>.ok ((((r5.1.length:Int)==0)&&((r6.1.length:Int)==x2))&&((r7.2 != 0)||((r7.1.length:Int)==0)))))))) (fun r=>.ok r)):((List Segment) ⊕ Bool)→R Bool) (fun j1=>fun l1=>fun(fr:Nat→AV) (h:O) => ∃ (v4:AV),∃ (g11:Nat),Co v4 (ix ids 5) g11 l1.length∧fr=Ae [(1,(.q ids 0 g)),(3,(.q ids 1 g5)),(4,(.q ids 2 g6)),(6,(.I (j1:Int)))]∧h=hp h0 ids [(some (.rows g 8 [(Ac a)])),(some (.rows g5 8 [[v,(.sl 5 (List.map Bu a.Sectors)),(.sl 3 (List.map Bt a.Configs)),v4,(.sl 7 (List.map A9 a.Routes)),(.sl 2 (List.map Bo a.Airports)),(.sl 4 (List.map Cu a.Classes)),(.sl 8 (List.map Dp a.Rules))]])),(some (.rows g6 8 [[v2,(.sl 5 (List.map Bu a.Sectors)),(.sl 3 (List.map Bt a.Configs)),(.sl 5 (List.map Aj a.Segments)),(.sl 7 (List.map A9 a.Routes)),(.sl 2 (List.map Bo a.Airports)),(.sl 4 (List.map Cu a.Classes)),(.sl 8 (List.map Dp a.Rules))]])),(Az v g7 2 (List.map Bg (List.replicate (Int.toNat (a.Volumes.length:Int)) An))),(Az v2 g9 2 (List.map Bg l)),(Az v4 g11 5 (List.map Aj l1))]) a.Segments ?_ ?_ ?_
    ·exact⟨v3,g10,vH4,J,J⟩
    ·rintro j1 a3 ha3 W hW1 l1 fr h ⟨v4,g11,vH5,rfl,rfl⟩
     refine Ai (m':=B7 a l j1 l1) J (Ai (B7.eq_1 _ _ _ _) ?_)
     refine Aa<|Aa<|Y<|Ad 3 [0] [(58,(.sl 5 (List.map Aj a.Segments))),(56,(.I (j1:Int)))] ?_
     refine Z (.I (a.Segments.length:Int)) J (Al (Ak Fa))<|Z (.bool (decide ((j1:Int)<(a.Segments.length:Int)))) J (Av J J J)<|Ab<|Dj J (Int.ofNat_lt.2 (Aq ha3))<|Aw<|Aa<|Ao ?_
     refine Aa<|Y<|Ad 3 [1] [(65,(.I (j1:Int))),(64,v4)] ?_
     refine J1 fun a4 hz1 hx3=>Z (.ptr (ix ids 5) g11 (j1:Int).toNat 0) J (B3 (Wi hI J vH5 J Fa G6 J hz1 hx3))<|Z (.ptr (ix ids 5) g11 (j1:Int).toNat 4) J (Il (Tc 0 4 4 G6 J Dw J))<|Xj (v:=(.sl 2 (List.map Ah []))) (.cell (.emp _)) (Xv (y:={ a4 with Open:=[] }) hI J J vH5 J hx3 Dw J J J J J J) ?_
     have vH6:=Co.set (i:=(j1:Int).toNat) (y:={ a4 with Open:=[] }) vH5
     have hx4:=List.getElem?_set_self (a:={ a4 with Open:=[] }) (Aq hx3)
     refine Ab<|Bn ?_
     refine Aa<|Y<|Ad 2 [1] [(70,(.I (j1:Int))),(69,(.agg [v,(.sl 5 (List.map Bu a.Sectors)),(.sl 3 (List.map Bt a.Configs)),v4,(.sl 7 (List.map A9 a.Routes)),(.sl 2 (List.map Bo a.Airports)),(.sl 4 (List.map Cu a.Classes)),(.sl 8 (List.map Dp a.Rules))]))] ?_
     refine B9 [(.agg [v,(.sl 5 (List.map Bu a.Sectors)),(.sl 3 (List.map Bt a.Configs)),v4,(.sl 7 (List.map A9 a.Routes)),(.sl 2 (List.map Bo a.Airports)),(.sl 4 (List.map Cu a.Classes)),(.sl 8 (List.map Dp a.Rules))]),(.I (j1:Int))] J J J J (fun hb=>Tw.lend (Jn ({ Volumes:=(List.replicate (Int.toNat (a.Volumes.length:Int)) An),Sectors:=a.Sectors,Configs:=a.Configs,Segments:=(l1.set (j1:Int).toNat { a4 with Open:=[] }),Routes:=a.Routes,Airports:=a.Airports,Classes:=a.Classes,Rules:=a.Rules }:Airspace) (j1:Int)) (LF.lfz (.cons (.aggL (.cons (Ho vH (hI.at J J) J (fun x=>Fw x)) (.cons (.same _) (.cons (.same _) (.cons (Ho vH6 (hI.at J J) J (fun x=>K0 x)) (.cons (.same _) (.cons (.same _) (.cons (.same _) (.cons (.same _) .nil))))))))) (.cons (.same _) .nil))) Fp (fun x c hc=>Sk x c hc) (fun b=>.int _ b) hb) (fun v _=>Dr Try.func6 hI) fun r2 _=>Ad 5 [] [(8,(.I r2.2)),(7,(.sl 2 (List.map Ah r2.1)))] ?_
     refine Ab<|Aa<|Y<|Ad 2 [2] [(76,(.I (j1:Int))),(75,(.agg [v2,(.sl 5 (List.map Bu a.Sectors)),(.sl 3 (List.map Bt a.Configs)),(.sl 5 (List.map Aj a.Segments)),(.sl 7 (List.map A9 a.Routes)),(.sl 2 (List.map Bo a.Airports)),(.sl 4 (List.map Cu a.Classes)),(.sl 8 (List.map Dp a.Rules))]))] ?_
     refine B9 [(.agg [v2,(.sl 5 (List.map Bu a.Sectors)),(.sl 3 (List.map Bt a.Configs)),(.sl 5 (List.map Aj a.Segments)),(.sl 7 (List.map A9 a.Routes)),(.sl 2 (List.map Bo a.Airports)),(.sl 4 (List.map Cu a.Classes)),(.sl 8 (List.map Dp a.Rules))]),(.I (j1:Int))] J J J J (fun hb=>Tw.lend (Jn ({ Volumes:=l,Sectors:=a.Sectors,Configs:=a.Configs,Segments:=a.Segments,Routes:=a.Routes,Airports:=a.Airports,Classes:=a.Classes,Rules:=a.Rules }:Airspace) (j1:Int)) (LF.lfz (.cons (.aggL (.cons (Ho vH2 (hI.at J J) J (fun x=>Fw x)) (.cons (.same _) (.cons (.same _) (.cons (.same _) (.cons (.same _) (.cons (.same _) (.cons (.same _) (.cons (.same _) .nil))))))))) (.cons (.same _) .nil))) Fp (fun x c hc=>Sk x c hc) (fun b=>.int _ b) hb) (fun v _=>Dr Try.func6 hI) fun r3 _=>Ad 5 [] [(10,(.I r3.2)),(9,(.sl 2 (List.map Ah r3.1)))] ?_
     refine Ab<|Aa<|Y<|Ad 4 [] [(83,(.bool (r2.2 != r3.2)))] ?_
     refine H8 15 ((fun(b:Bool)=>if b then(.ok (.inr (false))) else(.ok (.inl (l1.set (j1:Int).toNat { a4 with Open:=[] })))):Bool→R ((List Segment) ⊕ Bool)) (fun(b:Bool) (fr:Nat→AV) (h:O)=>fr=Ae [(1,(.q ids 0 g)),(3,(.q ids 1 g5)),(4,(.q ids 2 g6)),(6,(.I (j1:Int))),(98,(.bool b))]∧h=hp h0 ids [(some (.rows g 8 [(Ac a)])),(some (.rows g5 8 [[v,(.sl 5 (List.map Bu a.Sectors)),(.sl 3 (List.map Bt a.Configs)),v4,(.sl 7 (List.map A9 a.Routes)),(.sl 2 (List.map Bo a.Airports)),(.sl 4 (List.map Cu a.Classes)),(.sl 8 (List.map Dp a.Rules))]])),(some (.rows g6 8 [[v2,(.sl 5 (List.map Bu a.Sectors)),(.sl 3 (List.map Bt a.Configs)),(.sl 5 (List.map Aj a.Segments)),(.sl 7 (List.map A9 a.Routes)),(.sl 2 (List.map Bo a.Airports)),(.sl 4 (List.map Cu a.Classes)),(.sl 8 (List.map Dp a.Rules))]])),(Az v g7 2 (List.map Bg (List.replicate (Int.toNat (a.Volumes.length:Int)) An))),(Az v2 g9 2 (List.map Bg l)),(Az v4 g11 5 (List.map Aj (l1.set (j1:Int).toNat { a4 with Open:=[] })))]) ?_ fun hJ=>I8 (fun hb1=>?_) (fun hb1=>?_)
     ·rintro b fr h ⟨rfl,rfl⟩
      refine Ab<|Ds J (fun hc2=>?_) (fun hc2=>?_)
      ·refine Aa<|Y<|Z (.bool false) J Af<|Ab<|H9<|I1<|C5 (a:=false) (vs:=[(.bool false)]) Try.func6 hI J (.same _)
      refine Aw<|A3<|Y<|Ad 3 [] [(6,(.I (IntKind.wrap .i64 ((j1:Int)+1))))] ?_
      refine Ab<|Cw (H7 (hW1 (l1.set (j1:Int).toNat { a4 with Open:=[] }) _ _ ⟨v4,g11,vH6,J,J⟩)) (.cons J (.cons J (.cons J (.cons (D1 (Aq ha3) hlim1) .nil))))
     ·refine A0 (t:=83) hb1 J<|Ad 15 [] [(98,(.bool true)),(97,.und),(96,.und),(95,.und),(94,.und),(93,.und),(92,.und),(91,.und),(90,.und),(89,.und),(88,.und),(87,.und),(86,.und),(85,.und),(84,.und)] ?_
      refine C1<|E3 [(1,(.q ids 0 g)),(3,(.q ids 1 g5)),(4,(.q ids 2 g6)),(6,(.I (j1:Int))),(98,(.bool true))] (FI J)<|hJ true _ _ ⟨J,J⟩
     refine A0 (t:=83) hb1 J<|Ad 3 [] [(86,(.bool (r2.2==0))),(85,(.bool (r2.2==0))),(84,(.I r2.2))] ?_
     refine H8 11 ((fun(b1:Bool)=>R.ok b1):Bool→R Bool) (fun(b1:Bool) (fr:Nat→AV) (h:O)=>fr=Ae [(1,(.q ids 0 g)),(3,(.q ids 1 g5)),(4,(.q ids 2 g6)),(6,(.I (j1:Int))),(83,(.bool false)),(84,(.I r2.2)),(85,(.bool (r2.2==0))),(86,(.bool (r2.2==0))),(97,(.bool b1))]∧h=hp h0 ids [(some (.rows g 8 [(Ac a)])),(some (.rows g5 8 [[v,(.sl 5 (List.map Bu a.Sectors)),(.sl 3 (List.map Bt a.Configs)),v4,(.sl 7 (List.map A9 a.Routes)),(.sl 2 (List.map Bo a.Airports)),(.sl 4 (List.map Cu a.Classes)),(.sl 8 (List.map Dp a.Rules))]])),(some (.rows g6 8 [[v2,(.sl 5 (List.map Bu a.Sectors)),(.sl 3 (List.map Bt a.Configs)),(.sl 5 (List.map Aj a.Segments)),(.sl 7 (List.map A9 a.Routes)),(.sl 2 (List.map Bo a.Airports)),(.sl 4 (List.map Cu a.Classes)),(.sl 8 (List.map Dp a.Rules))]])),(Az v g7 2 (List.map Bg (List.replicate (Int.toNat (a.Volumes.length:Int)) An))),(Az v2 g9 2 (List.map Bg l)),(Az v4 g11 5 (List.map Aj (l1.set (j1:Int).toNat { a4 with Open:=[] })))]) ?_ fun hJ1=>I8 (fun hb3=>?_) (fun hb3=>?_)
     ·rintro b1 fr h ⟨rfl,rfl⟩
      refine Z (.bool b1) J (Hx (t:=false) J J)<|C1<|E3 [(1,(.q ids 0 g)),(3,(.q ids 1 g5)),(4,(.q ids 2 g6)),(6,(.I (j1:Int))),(98,(.bool b1))] (FI J)<|hJ b1 _ _ ⟨J,J⟩
     ·refine A0 (t:=86) hb3 J<|Ap (tj:=86) (.sl 2 (List.map Ah r3.1)) J J J Ag<|Ap (tj:=86) (.I (r3.1.length:Int)) J J J (Al (Ak Dw))<|Ad 2 [] [(90,(.bool ((r3.1.length:Int) != 0))),(89,(.bool ((r3.1.length:Int) != 0)))] ?_
      refine H8 6 ((fun(b2:Bool)=>R.ok b2):Bool→R Bool) (fun(b2:Bool) (fr:Nat→AV) (h:O)=>fr=Ae [(1,(.q ids 0 g)),(3,(.q ids 1 g5)),(4,(.q ids 2 g6)),(6,(.I (j1:Int))),(83,(.bool false)),(84,(.I r2.2)),(85,(.bool (r2.2==0))),(86,(.bool true)),(87,(.sl 2 (List.map Ah r3.1))),(88,(.I (r3.1.length:Int))),(89,(.bool ((r3.1.length:Int) != 0))),(90,(.bool ((r3.1.length:Int) != 0))),(96,(.bool b2))]∧h=hp h0 ids [(some (.rows g 8 [(Ac a)])),(some (.rows g5 8 [[v,(.sl 5 (List.map Bu a.Sectors)),(.sl 3 (List.map Bt a.Configs)),v4,(.sl 7 (List.map A9 a.Routes)),(.sl 2 (List.map Bo a.Airports)),(.sl 4 (List.map Cu a.Classes)),(.sl 8 (List.map Dp a.Rules))]])),(some (.rows g6 8 [[v2,(.sl 5 (List.map Bu a.Sectors)),(.sl 3 (List.map Bt a.Configs)),(.sl 5 (List.map Aj a.Segments)),(.sl 7 (List.map A9 a.Routes)),(.sl 2 (List.map Bo a.Airports)),(.sl 4 (List.map Cu a.Classes)),(.sl 8 (List.map Dp a.Rules))]])),(Az v g7 2 (List.map Bg (List.replicate (Int.toNat (a.Volumes.length:Int)) An))),(Az v2 g9 2 (List.map Bg l)),(Az v4 g11 5 (List.map Aj (l1.set (j1:Int).toNat { a4 with Open:=[] })))]) ?_ fun hJ2=>I8 (fun hb5=>?_) (fun hb5=>?_)
      ·rintro b2 fr h ⟨rfl,rfl⟩
       refine Ap (tj:=83) (.bool b2) J J J (Hx (t:=true) J J)<|C1<|E3 [(1,(.q ids 0 g)),(3,(.q ids 1 g5)),(4,(.q ids 2 g6)),(6,(.I (j1:Int))),(83,(.bool false)),(84,(.I r2.2)),(85,(.bool (r2.2==0))),(86,(.bool (r2.2==0))),(97,(.bool b2))] (.cons J (.cons J (.cons J (.cons J (.cons J (.cons J (.cons J (.cons (congrArg AV.bool hb3.symm) (FI J)))))))))<|hJ1 b2 _ _ ⟨J,J⟩
      ·refine A0 (t:=90) hb5 J<|Ad 6 [] [(96,(.bool true)),(95,.und),(94,.und),(93,.und),(92,.und),(91,.und)] ?_
       refine C1<|E3 [(1,(.q ids 0 g)),(3,(.q ids 1 g5)),(4,(.q ids 2 g6)),(6,(.I (j1:Int))),(83,(.bool false)),(84,(.I r2.2)),(85,(.bool (r2.2==0))),(86,(.bool true)),(87,(.sl 2 (List.map Ah r3.1))),(88,(.I (r3.1.length:Int))),(89,(.bool ((r3.1.length:Int) != 0))),(90,(.bool ((r3.1.length:Int) != 0))),(96,(.bool true))] (.cons J (.cons J (.cons J (.cons J (.cons J (.cons J (.cons J (.cons J (.cons J (.cons J (.cons J (.cons (congrArg AV.bool hb5.symm) (FI J)))))))))))))<|hJ2 true _ _ ⟨J,J⟩
      refine A0 (t:=90) hb5 J<|Ad 2 [] [(92,(.agg [(.I 0),(.I 1440)])),(91,(.sl 2 (List.map Ah r2.1)))] ?_
      refine Uz (tj:=90) J J J (fun _ _=>J) (fun K hK=>O9 (e:=Ah) (L:=[({ From:=0,To:=1440 }:Span)]) (st:=2) (rows:=[[(.I 0),(.I 1440)]]) Dw E4 J J J J J (.cons (.cons (.same _) (.cons (.same _) .nil)) .nil) (fun x=>Fp x) J J (hK _ _ ?_))
      clear hK K
      refine B9 [(.sl 2 (List.map Ah r2.1)),(.sl 2 (List.map Ah [({ From:=0,To:=1440 }:Span)]))] J (K3 (tj:=90) J J) J J ((Jy r2.1 [({ From:=0,To:=1440 }:Span)]) _) (fun v _=>Dr Try.func6 hI) fun r4 _=>Ad 2 [] [(96,(.bool (!r4))),(95,(.bool (!r4)))] ?_
      refine C1<|E3 [(1,(.q ids 0 g)),(3,(.q ids 1 g5)),(4,(.q ids 2 g6)),(6,(.I (j1:Int))),(83,(.bool false)),(84,(.I r2.2)),(85,(.bool (r2.2==0))),(86,(.bool true)),(87,(.sl 2 (List.map Ah r3.1))),(88,(.I (r3.1.length:Int))),(89,(.bool ((r3.1.length:Int) != 0))),(90,(.bool ((r3.1.length:Int) != 0))),(96,(.bool (!r4)))] (.cons J (.cons J (.cons J (.cons J (.cons J (.cons J (.cons J (.cons J (.cons J (.cons J (.cons J (.cons (congrArg AV.bool hb5.symm) (FI J)))))))))))))<|hJ2 (!r4) _ _ ⟨J,J⟩
     refine A0 (t:=86) hb3 J<|Ad 11 [] [(97,(.bool false)),(96,.und),(95,.und),(94,.und),(93,.und),(92,.und),(91,.und),(90,.und),(89,.und),(88,.und),(87,.und)] ?_
     refine C1<|E3 [(1,(.q ids 0 g)),(3,(.q ids 1 g5)),(4,(.q ids 2 g6)),(6,(.I (j1:Int))),(83,(.bool false)),(84,(.I r2.2)),(85,(.bool (r2.2==0))),(86,(.bool (r2.2==0))),(97,(.bool false))] (.cons J (.cons J (.cons J (.cons J (.cons J (.cons J (.cons J (.cons (congrArg AV.bool hb3.symm) (FI J)))))))))<|hJ1 false _ _ ⟨J,J⟩
    rintro l1 fr h ⟨v4,g11,vH5,rfl,rfl⟩
    refine Ai (Hy _ _ _)<|Aa<|Aa<|Y<|Ad 3 [0] [(58,(.sl 5 (List.map Aj a.Segments))),(56,(.I (a.Segments.length:Int)))] ?_
    refine Z (.I (a.Segments.length:Int)) J (Al (Ak Fa))<|Z (.bool (decide ((a.Segments.length:Int)<(a.Segments.length:Int)))) J (Av J J J)<|Ab<|Di J (Int.lt_irrefl _)<|C9 J<|Aa<|Y ?_
    refine Ad 1 [1] [(100,(.agg [v,(.sl 5 (List.map Bu a.Sectors)),(.sl 3 (List.map Bt a.Configs)),v4,(.sl 7 (List.map A9 a.Routes)),(.sl 2 (List.map Bo a.Airports)),(.sl 4 (List.map Cu a.Classes)),(.sl 8 (List.map Dp a.Rules))]))] ?_
    refine Abj (h2:=hp h0 ids [(some (.rows g 8 [(Ac a)])),none,(some (.rows g6 8 [[v2,(.sl 5 (List.map Bu a.Sectors)),(.sl 3 (List.map Bt a.Configs)),(.sl 5 (List.map Aj a.Segments)),(.sl 7 (List.map A9 a.Routes)),(.sl 2 (List.map Bo a.Airports)),(.sl 4 (List.map Cu a.Classes)),(.sl 8 (List.map Dp a.Rules))]])),none,(Az v2 g9 2 (List.map Bg l)),none]) [(1,(.q ids 0 g)),(4,(.q ids 2 g6)),(100,(.agg (Ac ({ Volumes:=(List.replicate (Int.toNat (a.Volumes.length:Int)) An),Sectors:=a.Sectors,Configs:=a.Configs,Segments:=l1,Routes:=a.Routes,Airports:=a.Airports,Classes:=a.Classes,Rules:=a.Rules }:Airspace))))] (Drops.sub (.keep (.drop (.keep (.drop (.keep (.drop .nil)))))) hI.len) (.cons (.same _) (.cons (.same _) (.cons (.aggL (.cons (Ho vH (hI.at J J) (hI.at J J) (fun x=>Fw x)) (.cons (.same _) (.cons (.same _) (.cons (Ho vH5 (hI.at J J) (hI.at J J) (fun x=>K0 x)) (.cons (.same _) (.cons (.same _) (.cons (.same _) (.cons (.same _) .nil))))))))) .nil))) J J<|B9 [(.agg (Ac ({ Volumes:=(List.replicate (Int.toNat (a.Volumes.length:Int)) An),Sectors:=a.Sectors,Configs:=a.Configs,Segments:=l1,Routes:=a.Routes,Airports:=a.Airports,Classes:=a.Classes,Rules:=a.Rules }:Airspace)))] J J J J ((Ft ({ Volumes:=(List.replicate (Int.toNat (a.Volumes.length:Int)) An),Sectors:=a.Sectors,Configs:=a.Configs,Segments:=l1,Routes:=a.Routes,Airports:=a.Airports,Classes:=a.Classes,Rules:=a.Rules }:Airspace)) _) (fun v _=>Dr Try.func6 hI) fun r5 _=>Ad 5 [] [(12,(.I r5.2)),(11,(.sl 1 (List.map (rI .i64) r5.1)))] ?_
    refine Ab<|Bn ?_
    refine Aa<|Y<|Ad 1 [2] [(105,(.agg [v2,(.sl 5 (List.map Bu a.Sectors)),(.sl 3 (List.map Bt a.Configs)),(.sl 5 (List.map Aj a.Segments)),(.sl 7 (List.map A9 a.Routes)),(.sl 2 (List.map Bo a.Airports)),(.sl 4 (List.map Cu a.Classes)),(.sl 8 (List.map Dp a.Rules))]))] ?_
    refine Acm [(some (.rows g 8 [(Ac a)])),none,(some (.rows g6 8 [[(.sl 2 (List.map Bg l)),(.sl 5 (List.map Bu a.Sectors)),(.sl 3 (List.map Bt a.Configs)),(.sl 5 (List.map Aj a.Segments)),(.sl 7 (List.map A9 a.Routes)),(.sl 2 (List.map Bo a.Airports)),(.sl 4 (List.map Cu a.Classes)),(.sl 8 (List.map Dp a.Rules))]])),none,none,none] [(1,(.q ids 0 g)),(4,(.q ids 2 g6)),(11,(.sl 1 (List.map (rI .i64) r5.1))),(12,(.I r5.2)),(105,(.agg [(.sl 2 (List.map Bg l)),(.sl 5 (List.map Bu a.Sectors)),(.sl 3 (List.map Bt a.Configs)),(.sl 5 (List.map Aj a.Segments)),(.sl 7 (List.map A9 a.Routes)),(.sl 2 (List.map Bo a.Airports)),(.sl 4 (List.map Cu a.Classes)),(.sl 8 (List.map Dp a.Rules))]))] hI J (.keep (.keep (.fz (.cons (Ho vH2 (hI.at J J) (hI.at J J) (fun x=>Fw x)) (.cons (.same _) (.cons (.same _) (.cons (.same _) (.cons (.same _) (.cons (.same _) (.cons (.same _) (.cons (.same _) .nil)))))))) J J (.keep (.drop (.keep .nil)))))) (.cons (.same _) (.cons (.same _) (.cons (.same _) (.cons (.same _) (.cons (.aggL (.cons (Ho vH2 (hI.at J J) (hI.at J J) (fun x=>Fw x)) (.cons (.same _) (.cons (.same _) (.cons (.same _) (.cons (.same _) (.cons (.same _) (.cons (.same _) (.cons (.same _) .nil))))))))) .nil)))))<|B9 [(.agg (Ac ({ Volumes:=l,Sectors:=a.Sectors,Configs:=a.Configs,Segments:=a.Segments,Routes:=a.Routes,Airports:=a.Airports,Classes:=a.Classes,Rules:=a.Rules }:Airspace)))] J J J J ((Ft ({ Volumes:=l,Sectors:=a.Sectors,Configs:=a.Configs,Segments:=a.Segments,Routes:=a.Routes,Airports:=a.Airports,Classes:=a.Classes,Rules:=a.Rules }:Airspace)) _) (fun v _=>Dr Try.func6 hI) fun r6 _=>Ad 5 [] [(14,(.I r6.2)),(13,(.sl 1 (List.map (rI .i64) r6.1)))] ?_
    refine Ab<|Bn ?_
    refine Aa<|Y<|Ad 1 [2] [(110,(.agg [(.sl 2 (List.map Bg l)),(.sl 5 (List.map Bu a.Sectors)),(.sl 3 (List.map Bt a.Configs)),(.sl 5 (List.map Aj a.Segments)),(.sl 7 (List.map A9 a.Routes)),(.sl 2 (List.map Bo a.Airports)),(.sl 4 (List.map Cu a.Classes)),(.sl 8 (List.map Dp a.Rules))]))] ?_
    refine B9 [(.agg [(.sl 2 (List.map Bg l)),(.sl 5 (List.map Bu a.Sectors)),(.sl 3 (List.map Bt a.Configs)),(.sl 5 (List.map Aj a.Segments)),(.sl 7 (List.map A9 a.Routes)),(.sl 2 (List.map Bo a.Airports)),(.sl 4 (List.map Cu a.Classes)),(.sl 8 (List.map Dp a.Rules))])] J J J J (fun hb=>Bh.weak (.cons (.aggL (.cons (.same _) (.cons (.same _) (.cons (.same _) (.cons (.same _) (.cons (.same _) (.cons (.same _) (.cons (.same _) (.cons (.same _) .nil))))))))) .nil) ((G8 ({ Volumes:=l,Sectors:=a.Sectors,Configs:=a.Configs,Segments:=a.Segments,Routes:=a.Routes,Airports:=a.Airports,Classes:=a.Classes,Rules:=a.Rules }:Airspace)) _ hb)) (fun v _=>Dr Try.func6 hI) fun r7 _=>Ad 5 [] [(16,(.I r7.2)),(15,(.sl 1 (List.map (rI .i64) r7.1)))] ?_
    refine Ab<|Aa<|Aa<|Y<|Ad 3 [] [(116,(.bool (r5.2 != r6.2)))] ?_
    refine Ab<|Ds J (fun hc3=>?_) (fun hc3=>?_)
    ·refine Aa<|Y<|Z (.bool false) J Af<|Ab<|C5 (a:=false) (vs:=[(.bool false)]) Try.func6 hI J (.same _)
    refine Aw<|Aa<|Aa<|Y<|Ad 2 [] [(118,(.bool (r5.2 != 0)))] ?_
    refine Ab<|Ds J (fun hc4=>?_) (fun hc4=>?_)
    ·refine Aa<|Y<|Z (.sl 1 (List.map (rI .i64) r5.1)) J Ag<|Z (.I (r5.1.length:Int)) J (Al (Ak Eg))<|Ad 2 [] [(122,(.bool ((r5.1.length:Int)==0)))] ?_
     refine Bz 4 [(126,(.bool (((r5.1.length:Int)==0)&&((r6.1.length:Int)==0))))] ?_ fun hJ3=>Bk ((r5.1.length:Int)==0) (fun hb7=>?_) (fun hb7=>?_)
     ·refine Z (.bool (((r5.1.length:Int)==0)&&((r6.1.length:Int)==0))) J Af<|Ab<|C5 (a:=(((r5.1.length:Int)==0)&&((r6.1.length:Int)==0))) (vs:=[(.bool (((r5.1.length:Int)==0)&&((r6.1.length:Int)==0)))]) Try.func6 hI J (.same _)
     ·refine A0 (t:=122) hb7 J<|Ap (tj:=122) (.sl 1 (List.map (rI .i64) r6.1)) J J J Ag<|Ap (tj:=122) (.I (r6.1.length:Int)) J J J (Al (Ak Eg))<|Ad 2 [] [(126,(.bool ((r6.1.length:Int)==0)))] ?_
      exact A4 hJ3 (.cons (Nf hb7) .nil)
     refine A0 (t:=122) hb7 J<|Ad 4 [] [(126,(.bool false))] ?_
     exact A4 hJ3 (.cons (M8 hb7) .nil)
    refine Aw<|Aa<|Y<|Z (.I 0) J Af<|Ab<|Aa<|Aa ?_
    refine Y<|Z (.I 0) J Af<|Ab<|Ao<|G4 [(some (.rows g 8 [(Ac a)])),none,none,none,none,none] hI J (.keep (.keep (.drop (.keep (.keep (.keep .nil))))))<|D7 [(1,(.q ids 0 g)),(11,(.sl 1 (List.map (rI .i64) r5.1))),(13,(.sl 1 (List.map (rI .i64) r6.1))),(15,(.sl 1 (List.map (rI .i64) r7.1))),(16,(.I r7.2)),(17,(.I 0)),(18,(.I 0))] (FI J)<|Hi (P:=Try.prog) a.Routes (fun _ a5=>fun x2=>Bc a5 x2) (((fun x2=>.ok ((((r5.1.length:Int)==0)&&((r6.1.length:Int)==x2))&&((r7.2 != 0)||((r7.1.length:Int)==0))))):Int→R Bool) (fun j2=>fun x2=>fun(fr:Nat→AV) (h:O)=>fr=Ae [(1,(.q ids 0 g)),(11,(.sl 1 (List.map (rI .i64) r5.1))),(13,(.sl 1 (List.map (rI .i64) r6.1))),(15,(.sl 1 (List.map (rI .i64) r7.1))),(16,(.I r7.2)),(17,(.I x2)),(18,(.I (j2:Int)))]∧h=hp h0 ids [(some (.rows g 8 [(Ac a)])),none,none,none,none,none]) 0 ?_ ?_ ?_
    ·exact⟨J,J⟩
    ·rintro j2 a5 ha5 W hW2 x2 fr h ⟨rfl,rfl⟩
     refine Ai (m':=Bc a5 x2) J (Ai (Bc.eq_1 _ _) ?_)
     refine Aa<|Aa<|Y<|Ad 3 [0] [(129,(.sl 7 (List.map A9 a.Routes))),(127,(.I (j2:Int)))] ?_
     refine Z (.I (a.Routes.length:Int)) J (Al (Ak Ic))<|Z (.bool (decide ((j2:Int)<(a.Routes.length:Int)))) J (Av J J J)<|Ab<|Fh (t:=129) (L:=a.Routes) J fun hlim3=>Dj J (Int.ofNat_lt.2 (Aq ha5))<|Aw<|Aa ?_
     refine Ao<|Aa<|Y<|Ad 3 [0] [(136,(.I (j2:Int))),(135,(.sl 7 (List.map A9 a.Routes)))] ?_
     refine Z (.cp (A9 a5) 0) J (B3 (Ek Ic P4 J ha5))<|Ad 2 [] [(139,(.sl 1 (List.map (rI .i64) a5.Segments)))] ?_
     refine Z (.I (a5.Segments.length:Int)) J (Al (Ak Eg))<|Z (.bool (decide ((a5.Segments.length:Int) > 0))) J (Av J J J)<|Ab<|Lm J (fun hc5=>?_) (fun hc5=>?_)
     ·refine Y<|Ad 3 [] [(17,(.I (IntKind.wrap .i64 (x2+1))))] ?_
      refine Ab<|A3<|Y<|Ad 3 [] [(18,(.I (IntKind.wrap .i64 ((j2:Int)+1))))] ?_
      refine Ab<|Cw (L1 (hW2 (IntKind.wrap .i64 (x2+1)) _ _ ⟨J,J⟩)) (.cons J (.cons J (.cons J (.cons J (.cons J (.cons J (.cons (D1 (Aq ha5) hlim3) .nil)))))))
     refine Aw<|A3<|Y<|Ad 3 [] [(18,(.I (IntKind.wrap .i64 ((j2:Int)+1))))] ?_
     refine Ab<|Cw (L1 (hW2 x2 _ _ ⟨J,J⟩)) (.cons J (.cons J (.cons J (.cons J (.cons J (.cons J (.cons (D1 (Aq ha5) hlim3) .nil)))))))
    rintro x2 fr h ⟨rfl,rfl⟩
    refine Aa<|Aa<|Y<|Ad 3 [0] [(129,(.sl 7 (List.map A9 a.Routes))),(127,(.I (a.Routes.length:Int)))] ?_
    refine Z (.I (a.Routes.length:Int)) J (Al (Ak Ic))<|Z (.bool (decide ((a.Routes.length:Int)<(a.Routes.length:Int)))) J (Av J J J)<|Ab<|Di J (Int.lt_irrefl _)<|C9 J<|Aa<|Y ?_
    refine Z (.sl 1 (List.map (rI .i64) r5.1)) J Ag<|Z (.I (r5.1.length:Int)) J (Al (Ak Eg))<|Ad 2 [] [(147,(.bool ((r5.1.length:Int)==0)))] ?_
    refine Bz 5 [(15,(.sl 1 (List.map (rI .i64) r7.1))),(16,(.I r7.2)),(152,(.bool (((r5.1.length:Int)==0)&&((r6.1.length:Int)==x2))))] ?_ fun hJ4=>Bk ((r5.1.length:Int)==0) (fun hb9=>?_) (fun hb9=>?_)
    ·refine Z (.bool (((r5.1.length:Int)==0)&&((r6.1.length:Int)==x2))) J Ag<|Bz 8 [(161,(.bool ((((r5.1.length:Int)==0)&&((r6.1.length:Int)==x2))&&((r7.2 != 0)||((r7.1.length:Int)==0)))))] ?_ fun hJ5=>Bk (((r5.1.length:Int)==0)&&((r6.1.length:Int)==x2)) (fun hb11=>?_) (fun hb11=>?_)
     ·refine Z (.bool ((((r5.1.length:Int)==0)&&((r6.1.length:Int)==x2))&&((r7.2 != 0)||((r7.1.length:Int)==0)))) J Af<|Ab<|C5 (a:=((((r5.1.length:Int)==0)&&((r6.1.length:Int)==x2))&&((r7.2 != 0)||((r7.1.length:Int)==0)))) (vs:=[(.bool ((((r5.1.length:Int)==0)&&((r6.1.length:Int)==x2))&&((r7.2 != 0)||((r7.1.length:Int)==0))))]) Try.func6 hI J (.same _)
     ·refine A0 (t:=153) hb11 J<|Ad 3 [] [(156,(.bool (r7.2 != 0)))] ?_
      refine Bz 4 [(153,(.bool true)),(160,(.bool ((r7.2 != 0)||((r7.1.length:Int)==0))))] ?_ fun hJ6=>Bk (r7.2 != 0) (fun hb13=>?_) (fun hb13=>?_)
      ·refine Z (.bool ((r7.2 != 0)||((r7.1.length:Int)==0))) J (Hx (t:=true) J J)<|A4 hJ5 (.cons (Nf hb11) .nil)
      ·refine A0 (t:=156) hb13 J<|Ad 4 [] [(160,(.bool true))] ?_
       exact A4 hJ6 (.cons J (.cons (Fe hb13) .nil))
      refine A0 (t:=156) hb13 J<|Ap (tj:=156) (.sl 1 (List.map (rI .i64) r7.1)) J J J Ag<|Ap (tj:=156) (.I (r7.1.length:Int)) J J J (Al (Ak Eg))<|Ad 2 [] [(160,(.bool ((r7.1.length:Int)==0)))] ?_
      exact A4 hJ6 (.cons J (.cons (E9 hb13) .nil))
     refine A0 (t:=153) hb11 J<|Ad 8 [] [(161,(.bool false))] ?_
     exact A4 hJ5 (.cons (M8 hb11) .nil)
    ·refine A0 (t:=147) hb9 J<|Ap (tj:=147) (.sl 1 (List.map (rI .i64) r6.1)) J J J Ag<|Ap (tj:=147) (.I (r6.1.length:Int)) J J J (Al (Ak Eg))<|Ad 3 [] [(152,(.bool ((r6.1.length:Int)==x2)))] ?_
     exact A4 hJ4 (.cons J (.cons J (.cons (Nf hb9) .nil)))
    refine A0 (t:=147) hb9 J<|Ad 5 [] [(152,(.bool false))] ?_
    exact A4 hJ4 (.cons J (.cons J (.cons (M8 hb9) .nil)))
   refine Zg U6 (.node 3 2 (.leaf [[],[],[],[2],[0,0,2,2,3],[0,1,1,2,3,3,4,4]] [(false,0),(false,1),(true,2),(true,3),(true,4),(true,5)]) (.leaf [[],[],[3],[],[0,0,2,2,3],[0,1,1,2,3,3,4,4]] [(false,0),(false,1),(true,3),(true,2),(true,4),(true,5)])) (by kernel_rfl)<|Aat ?_ ?_
   ·refine Wb<|Au (.agg (Ac a)) J J (A7 (C6 hI J J J Ct J))<|Au (.agg (Ac a)) J J (A7 (C6 hI J J J Ct J))<|S8 J J (fun _ _=>J) (fun K hK=>Lx (j:=1) hI J J J Ct J fun g1=>hK _ _ (E6 J (A7 (C6 hI J J J Ct J)) (E6 J (A7 (C6 hI J J J Ct J)) Fd)) ?_)
    clear hK K
    refine S8 J J (fun _ _=>J) (fun K hK=>Lx (j:=2) hI J J J Ct J fun g2=>hK _ _ (E6 J (A7 (C6 hI J J J Ct J)) (E6 J (A7 (C6 hI J J J Ct J)) Fd)) ?_)
    clear hK K
    refine O0 J (fun _ _=>J) (fun K hK=>Ix (C4 (v:=(.agg (Ac a))) hI J J J J Ct J J J J J) (hK _ _ (E6 J (A7 (C6 hI J J J Ct J)) (Jv J Fd)) ?_))
    clear hK K
    refine O0 J (fun _ _=>J) (fun K hK=>Ix (C4 (v:=(.agg (Ac a))) hI J J J J Ct J J J J J) (hK _ _ (K4 J Fd) ?_))
    clear hK K
    refine Mn<|Bn ?_
    exact Cw (hJ7 () _ _ ⟨g1,g2,J,J⟩)
   refine Wb<|Au (.agg (Ac a)) J J (A7 (C6 hI J J J Ct J))<|Au (.agg (Ac a)) J J (A7 (C6 hI J J J Ct J))<|S8 J J (fun _ _=>J) (fun K hK=>Lx (j:=2) hI J J J Ct J fun g3=>hK _ _ (E6 J (A7 (C6 hI J J J Ct J)) (E6 J (A7 (C6 hI J J J Ct J)) Fd)) ?_)
   clear hK K
   refine S8 J J (fun _ _=>J) (fun K hK=>Lx (j:=1) hI J J J Ct J fun g4=>hK _ _ (E6 J (A7 (C6 hI J J J Ct J)) (E6 J (A7 (C6 hI J J J Ct J)) Fd)) ?_)
   clear hK K
   refine O0 J (fun _ _=>J) (fun K hK=>Ix (C4 (v:=(.agg (Ac a))) hI J J J J Ct J J J J J) (hK _ _ (E6 J (A7 (C6 hI J J J Ct J)) (Jv J Fd)) ?_))
   clear hK K
   refine O0 J (fun _ _=>J) (fun K hK=>Ix (C4 (v:=(.agg (Ac a))) hI J J J J Ct J J J J J) (hK _ _ (K4 J Fd) ?_))
   clear hK K
   refine Mn<|Bn ?_
   exact Cw (hJ7 () _ _ ⟨g4,g3,J,J⟩)
  refine Aa<|Y<|Z (.bool true) J Af<|Ab<|C5 (a:=true) (vs:=[(.bool true)]) Try.func6 hI J (.same _)
 refine Aa<|Y<|Z (.bool false) J Af<|Ab<|C5 (a:=false) (vs:=[(.bool false)]) Try.func6 hI J (.same _)
end Go.Am
namespace Go.Proofs.Ytjmofjoifnhloaa.laws
open Go Go.Am Go.ChangeShapes Go.WideShapes Go.ChangeAt Go.RowKit
set_option maxRecDepth 100000
set_option linter.unusedVariables false
set_option linter.unusedSimpArgs false
theorem own:ownKnob Try.prog.godebug=none:=by kernel_rfl
theorem Abf:laidOutB Try.prog=true:=by kernel_rfl
theorem Adq:Try.prog.readableRec 31=true∧31<Try.prog.types.size:=by decide +kernel
theorem Z0 {H:Type}:Bulk (H:=H) Rows.uptoBulk Rows.uptoBulkAll:=⟨fun d=>by cases d with | lit l=>cases l <;> simp [Rows.uptoBulk] | _=>simp [Rows.uptoBulk],fun l=>by simp [Rows.uptoBulk],fun e s=>by simp only [Rows.uptoBulk]; omega,fun l=>by simp [Rows.uptoBulk],by simp [Rows.uptoBulkAll],fun d l=>by simp [Rows.uptoBulkAll]⟩
theorem Lw:Cr Try.prog 9 Bx:=Yq Try.underlying9
theorem J8:Cr Try.prog 3 (Bd .i64):=Yt Try.underlying3
theorem Aby:Cr Try.prog 55 Jd:=Ff (T:=(Bj (Bd .i64) (Bj (Bd .i64) Ij))) (tot:=2) Try.underlying55 (by kernel_rfl) (At (c:=1) rfl rfl (by kernel_rfl) rfl J8 (At (c:=1) rfl rfl (by kernel_rfl) rfl J8 (Hg rfl))) (fun p=>⟨p.1,p.2.1⟩) (fun _=>rfl) (fun _ h=>h) (fun _=>Nat.le_refl _)
theorem Ab0:Cr Try.prog 35 (Bs 2 Jd):=E0 Try.underlying35 (by kernel_rfl) (by decide) (fun a=>Fp a) Aby
theorem Adn:Cr Try.prog 57 Jt:=Ff (T:=(Bj Bx (Bj (Bs 2 Jd) Ij))) (tot:=2) Try.underlying57 (by kernel_rfl) (At (c:=1) rfl rfl (by kernel_rfl) rfl Lw (At (c:=1) rfl rfl (by kernel_rfl) rfl Ab0 (Hg rfl))) (fun p=>⟨p.1,p.2.1⟩) (fun _=>rfl) (fun _ h=>h) (fun _=>Nat.le_refl _)
theorem Ac6:Cr Try.prog 22 (Bs 2 Jt):=E0 Try.underlying22 (by kernel_rfl) (by decide) (fun a=>Fw a) Adn
theorem Zv:Cr Try.prog 48 (Bs 1 Bx):=E0 Try.underlying48 (by kernel_rfl) (by decide) (fun a=>Ada a) Lw
theorem Y4:Cr Try.prog 34 (Bs 1 (Bd .i64)):=E0 Try.underlying34 (by kernel_rfl) (by decide) (fun a=>Og a) J8
theorem Adv:Cr Try.prog 64 K9:=Ff (T:=(Bj Bx (Bj (Bs 1 Bx) (Bj (Bs 1 (Bd .i64)) (Bj (Bd .i64) (Bj (Bd .i64) Ij)))))) (tot:=5) Try.underlying64 (by kernel_rfl) (At (c:=1) rfl rfl (by kernel_rfl) rfl Lw (At (c:=1) rfl rfl (by kernel_rfl) rfl Zv (At (c:=1) rfl rfl (by kernel_rfl) rfl Y4 (At (c:=1) rfl rfl (by kernel_rfl) rfl J8 (At (c:=1) rfl rfl (by kernel_rfl) rfl J8 (Hg rfl)))))) (fun p=>⟨p.1,p.2.1,p.2.2.1,p.2.2.2.1,p.2.2.2.2.1⟩) (fun _=>rfl) (fun _ h=>h) (fun _=>Nat.le_refl _)
theorem Ad0:Cr Try.prog 23 (Bs 5 K9):=E0 Try.underlying23 (by kernel_rfl) (by decide) (fun a=>Xn a) Adv
theorem Adm:Cr Try.prog 66 K8:=Ff (T:=(Bj Bx (Bj (Bs 1 Bx) (Bj (Bs 1 (Bd .i64)) Ij)))) (tot:=3) Try.underlying66 (by kernel_rfl) (At (c:=1) rfl rfl (by kernel_rfl) rfl Lw (At (c:=1) rfl rfl (by kernel_rfl) rfl Zv (At (c:=1) rfl rfl (by kernel_rfl) rfl Y4 (Hg rfl)))) (fun p=>⟨p.1,p.2.1,p.2.2.1⟩) (fun _=>rfl) (fun _ h=>h) (fun _=>Nat.le_refl _)
theorem Adz:Cr Try.prog 24 (Bs 3 K8):=E0 Try.underlying24 (by kernel_rfl) (by decide) (fun a=>Yo a) Adm
theorem Ade:Cr Try.prog 59 Ip:=Ff (T:=(Bj Bx (Bj Bx (Bj (Bd .i64) (Bj (Bd .i64) (Bj (Bs 2 Jd) Ij)))))) (tot:=5) Try.underlying59 (by kernel_rfl) (At (c:=1) rfl rfl (by kernel_rfl) rfl Lw (At (c:=1) rfl rfl (by kernel_rfl) rfl Lw (At (c:=1) rfl rfl (by kernel_rfl) rfl J8 (At (c:=1) rfl rfl (by kernel_rfl) rfl J8 (At (c:=1) rfl rfl (by kernel_rfl) rfl Ab0 (Hg rfl)))))) (fun p=>⟨p.1,p.2.1,p.2.2.1,p.2.2.2.1,p.2.2.2.2.1⟩) (fun _=>rfl) (fun _ h=>h) (fun _=>Nat.le_refl _)
theorem Ac3:Cr Try.prog 25 (Bs 5 Ip):=E0 Try.underlying25 (by kernel_rfl) (by decide) (fun a=>K0 a) Ade
theorem Adp:Cr Try.prog 50 I6:=Ff (T:=(Bj Bx (Bj Bx (Bj Bx (Bj (Bd .i64) (Bj (Bd .i64) (Bj (Bs 1 Bx) (Bj (Bs 1 (Bd .i64)) Ij)))))))) (tot:=7) Try.underlying50 (by kernel_rfl) (At (c:=1) rfl rfl (by kernel_rfl) rfl Lw (At (c:=1) rfl rfl (by kernel_rfl) rfl Lw (At (c:=1) rfl rfl (by kernel_rfl) rfl Lw (At (c:=1) rfl rfl (by kernel_rfl) rfl J8 (At (c:=1) rfl rfl (by kernel_rfl) rfl J8 (At (c:=1) rfl rfl (by kernel_rfl) rfl Zv (At (c:=1) rfl rfl (by kernel_rfl) rfl Y4 (Hg rfl)))))))) (fun p=>⟨p.1,p.2.1,p.2.2.1,p.2.2.2.1,p.2.2.2.2.1,p.2.2.2.2.2.1,p.2.2.2.2.2.2.1⟩) (fun _=>rfl) (fun _ h=>h) (fun _=>Nat.le_refl _)
theorem Ado:Cr Try.prog 26 (Bs 7 I6):=E0 Try.underlying26 (by kernel_rfl) (by decide) (fun a=>Tx a) Adp
theorem Acq:Cr Try.prog 150 Ql:=Ff (T:=(Bj Bx (Bj (Bd .i64) Ij))) (tot:=2) Try.underlying150 (by kernel_rfl) (At (c:=1) rfl rfl (by kernel_rfl) rfl Lw (At (c:=1) rfl rfl (by kernel_rfl) rfl J8 (Hg rfl))) (fun p=>⟨p.1,p.2.1⟩) (fun _=>rfl) (fun _ h=>h) (fun _=>Nat.le_refl _)
theorem Ac5:Cr Try.prog 67 (Bs 2 Ql):=E0 Try.underlying67 (by kernel_rfl) (by decide) (fun a=>Aae a) Acq
theorem Adk:Cr Try.prog 69 Jp:=Ff (T:=(Bj Bx (Bj (Bs 2 Ql) Ij))) (tot:=2) Try.underlying69 (by kernel_rfl) (At (c:=1) rfl rfl (by kernel_rfl) rfl Lw (At (c:=1) rfl rfl (by kernel_rfl) rfl Ac5 (Hg rfl))) (fun p=>⟨p.1,p.2.1⟩) (fun _=>rfl) (fun _ h=>h) (fun _=>Nat.le_refl _)
theorem Adt:Cr Try.prog 27 (Bs 2 Jp):=E0 Try.underlying27 (by kernel_rfl) (by decide) (fun a=>W6 a) Adk
theorem Acv:Cr Try.prog 146 Mb:=Ff (T:=(Bj Bx (Bj (Bd .i64) (Bj (Bd .i64) (Bj (Bd .i64) Ij))))) (tot:=4) Try.underlying146 (by kernel_rfl) (At (c:=1) rfl rfl (by kernel_rfl) rfl Lw (At (c:=1) rfl rfl (by kernel_rfl) rfl J8 (At (c:=1) rfl rfl (by kernel_rfl) rfl J8 (At (c:=1) rfl rfl (by kernel_rfl) rfl J8 (Hg rfl))))) (fun p=>⟨p.1,p.2.1,p.2.2.1,p.2.2.2.1⟩) (fun _=>rfl) (fun _ h=>h) (fun _=>Nat.le_refl _)
theorem Adx:Cr Try.prog 28 (Bs 4 Mb):=E0 Try.underlying28 (by kernel_rfl) (by decide) (fun a=>Ze a) Acv
theorem Acu:Cr Try.prog 148 O3:=Ff (T:=(Bj (Bd .i64) (Bj Bx (Bj Bx (Bj (Bd .i64) (Bj (Bd .i64) (Bj (Bd .i64) (Bj Jd Ij)))))))) (tot:=8) Try.underlying148 (by kernel_rfl) (At (c:=1) rfl rfl (by kernel_rfl) rfl J8 (At (c:=1) rfl rfl (by kernel_rfl) rfl Lw (At (c:=1) rfl rfl (by kernel_rfl) rfl Lw (At (c:=1) rfl rfl (by kernel_rfl) rfl J8 (At (c:=1) rfl rfl (by kernel_rfl) rfl J8 (At (c:=1) rfl rfl (by kernel_rfl) rfl J8 (At (c:=2) rfl rfl (by kernel_rfl) rfl Aby (Hg rfl)))))))) (fun p=>⟨p.1,p.2.1,p.2.2.1,p.2.2.2.1,p.2.2.2.2.1,p.2.2.2.2.2.1,p.2.2.2.2.2.2.1⟩) (fun _=>rfl) (fun _ h=>h) (fun _=>Nat.le_refl _)
theorem Adb:Cr Try.prog 29 (Bs 8 O3):=E0 Try.underlying29 (by kernel_rfl) (by decide) (fun a=>Aa7 a) Acu
theorem Adw:Cr Try.prog 31 J3:=Ff (T:=(Bj (Bs 2 Jt) (Bj (Bs 5 K9) (Bj (Bs 3 K8) (Bj (Bs 5 Ip) (Bj (Bs 7 I6) (Bj (Bs 2 Jp) (Bj (Bs 4 Mb) (Bj (Bs 8 O3) Ij))))))))) (tot:=8) Try.underlying31 (by kernel_rfl) (At (c:=1) rfl rfl (by kernel_rfl) rfl Ac6 (At (c:=1) rfl rfl (by kernel_rfl) rfl Ad0 (At (c:=1) rfl rfl (by kernel_rfl) rfl Adz (At (c:=1) rfl rfl (by kernel_rfl) rfl Ac3 (At (c:=1) rfl rfl (by kernel_rfl) rfl Ado (At (c:=1) rfl rfl (by kernel_rfl) rfl Adt (At (c:=1) rfl rfl (by kernel_rfl) rfl Adx (At (c:=1) rfl rfl (by kernel_rfl) rfl Adb (Hg rfl))))))))) (fun p=>⟨p.1,p.2.1,p.2.2.1,p.2.2.2.1,p.2.2.2.2.1,p.2.2.2.2.2.1,p.2.2.2.2.2.2.1,p.2.2.2.2.2.2.2.1⟩) (fun _=>rfl) (fun _ h=>h) (fun _=>Nat.le_refl _)
end Go.Proofs.Ytjmofjoifnhloaa.laws
