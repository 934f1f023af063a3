/- Written by shrink.py from texts of ours: comments struck, what is not reached left out, names short. -/
import Derived.Test.YtgigefcfankeeaaGreatU7
import Derived.Test.YtgigefcfankeeaaGreatU4
import Derived.Test.YtgigefcfankeeaaGreatRows
import Derived.KernelRfl
namespace Go.Am
open Go Go.Proofs
set_option maxRecDepth 100000
set_option maxHeartbeats 4000000
set_option linter.unusedSimpArgs false
set_option linter.unusedVariables false
theorem Te (r:Replica):CP Tryz.prog 29 [(.agg (Ap r))] (J6 r) (fun(x:Replica)=>(AV.agg (Ap x))):=by
 refine C7 (n:=17) 4 Tryz.func29 O (by decide) O O fun h0 ids hI=>B0 (Ax (J6.eq_1 _) ?_)
 refine Ac<|Aa<|Cy (v:=(.agg (Ap r))) (j:=0) hI O O O O O O O fun g=>B9 (j:=1) hI O O O O As O fun g1=>Af<|Az ?_
 refine Ac<|Aa<|Ae (.I 0) O Au<|Af<|Ac<|Ac<|Aa ?_
 refine Al 2 [0] [(5,(.I r.Many))] ?_
 refine Be [(.I r.Many),(.I 0),(.I 5)] O O O O ((Fc r.Many 0 5) _) (fun v _=>Bh Tryz.func29 hI) fun r1 _=>Af<|Cp O (fun hc=>?_) (fun hc=>?_)
 ·refine Aa<|Al 3 [0] [(3,(.I r.Many))] ?_
  refine Af<|Ac<|Aa<|Ae (.ptr (ix ids 0) g 0 5) O (Aj (Ag (c:=0) (off:=5) (i:=5) As O Av O))<|A4 (A6 (v:=(.I 0)) hI O O O O Av O O O O O)<|Af<|Az ?_
  refine Ac<|Aa<|Ae (.I r.Many) O Ab<|G6 fun hl=>P5 (y:=(false:Bool)) (e:=rB) (st:=1) (j:=2) hI O O O O Cn Gm O O hl.1 hl.2.1 hl.2.2 O O O O O fun v g2 vH=>Ae (.ptr (ix ids 0) g 0 7) O (Aj (Ag (c:=0) (off:=7) (i:=7) As O Cn O))<|A4 (B8 vH hI O O O O Cn O O O) ?_
  refine Af<|Az ?_
  refine Ac<|Aa<|Ae (.I r.Many) O Ab<|G6 fun hl1=>P5 (y:=(0:Int)) (e:=(rI .i64)) (st:=1) (j:=3) hI O O O O Bt Av O O hl1.1 hl1.2.1 hl1.2.2 O O O O O fun v1 g3 vH1=>Ae (.ptr (ix ids 0) g 0 8) O (Aj (Ag (c:=0) (off:=8) (i:=8) As O Bt O))<|A4 (B8 vH1 hI O O O O Bt O O O) ?_
  refine Af<|Az ?_
  refine Ac<|Aa<|Al 1 [0] [(16,(.agg [(.I r.ID),(.I r.Many),(.I r.Term),(.I r.Vote),(.sl 2 (List.map Ah r.Log)),(.I 0),(.I r.Commit),v,v1]))] ?_
  refine A4 (A6 (v:=(.agg [(.I r.ID),(.I r.Many),(.I r.Term),(.I r.Vote),(.sl 2 (List.map Ah r.Log)),(.I 0),(.I r.Commit),v,v1])) hI O O O O As O O O O (Ao O (Ao O (Ao O (Ao O (Ao O (Ao O (Ao O (Ao (A9.flat vH) (Ao (A9.flat vH1) Do))))))))))<|Af<|Az ?_
  exact B3 (a:=({ ID:=r.ID,Many:=r.Many,Term:=r.Term,Vote:=r.Vote,Log:=r.Log,Role:=0,Commit:=r.Commit,Votes:=(List.replicate (Int.toNat r.Many) false),Match:=(List.replicate (Int.toNat r.Many) (0:Int)) }:Replica)) (vs:=[(.agg [(.I r.ID),(.I r.Many),(.I r.Term),(.I r.Vote),(.sl 2 (List.map Ah r.Log)),(.I 0),(.I r.Commit),v,v1])]) Tryz.func29 hI (By (Aq hI O O O As O) Cd) (.aggL (.cons (.same _) (.cons (.same _) (.cons (.same _) (.cons (.same _) (.cons (.same _) (.cons (.same _) (.cons (.same _) (.cons (Dd vH (hI.at O O) (hI.out O) (fun x=>Qf x)) (.cons (Dd vH1 (hI.at O O) (hI.out O) (fun x=>Ih x)) .nil))))))))))
 refine Bd<|Ac<|Aa<|Ae (.ptr (ix ids 0) g 0 5) O (Aj (Ag (c:=0) (off:=5) (i:=5) As O Av O))<|A4 (A6 (v:=(.I 0)) hI O O O O Av O O O O O)<|Af<|Az ?_
 refine Ac<|Aa<|Ae (.I 0) O Ab<|G6 fun hl2=>P5 (y:=(false:Bool)) (e:=rB) (st:=1) (j:=2) hI O O O O Cn Gm O O hl2.1 hl2.2.1 hl2.2.2 O O O O O fun v2 g4 vH2=>Ae (.ptr (ix ids 0) g 0 7) O (Aj (Ag (c:=0) (off:=7) (i:=7) As O Cn O))<|A4 (B8 vH2 hI O O O O Cn O O O) ?_
 refine Af<|Az ?_
 refine Ac<|Aa<|Ae (.I 0) O Ab<|G6 fun hl3=>P5 (y:=(0:Int)) (e:=(rI .i64)) (st:=1) (j:=3) hI O O O O Bt Av O O hl3.1 hl3.2.1 hl3.2.2 O O O O O fun v3 g5 vH3=>Ae (.ptr (ix ids 0) g 0 8) O (Aj (Ag (c:=0) (off:=8) (i:=8) As O Bt O))<|A4 (B8 vH3 hI O O O O Bt O O O) ?_
 refine Af<|Az ?_
 refine Ac<|Aa<|Al 1 [0] [(16,(.agg [(.I r.ID),(.I r.Many),(.I r.Term),(.I r.Vote),(.sl 2 (List.map Ah r.Log)),(.I 0),(.I r.Commit),v2,v3]))] ?_
 refine A4 (A6 (v:=(.agg [(.I r.ID),(.I r.Many),(.I r.Term),(.I r.Vote),(.sl 2 (List.map Ah r.Log)),(.I 0),(.I r.Commit),v2,v3])) hI O O O O As O O O O (Ao O (Ao O (Ao O (Ao O (Ao O (Ao O (Ao O (Ao (A9.flat vH2) (Ao (A9.flat vH3) Do))))))))))<|Af<|Az ?_
 exact B3 (a:=({ ID:=r.ID,Many:=r.Many,Term:=r.Term,Vote:=r.Vote,Log:=r.Log,Role:=0,Commit:=r.Commit,Votes:=(List.replicate (Int.toNat 0) false),Match:=(List.replicate (Int.toNat 0) (0:Int)) }:Replica)) (vs:=[(.agg [(.I r.ID),(.I r.Many),(.I r.Term),(.I r.Vote),(.sl 2 (List.map Ah r.Log)),(.I 0),(.I r.Commit),v2,v3])]) Tryz.func29 hI (By (Aq hI O O O As O) Cd) (.aggL (.cons (.same _) (.cons (.same _) (.cons (.same _) (.cons (.same _) (.cons (.same _) (.cons (.same _) (.cons (.same _) (.cons (Dd vH2 (hI.at O O) (hI.out O) (fun x=>Qf x)) (.cons (Dd vH3 (hI.at O O) (hI.out O) (fun x=>Ih x)) .nil))))))))))
theorem Aee (id:Int)(many:Int):CP Tryz.prog 7 [(.int .i64 id),(.int .i64 many)] (Sl id many) (fun(p:(Replica×Int))=>AV.tup [(.agg (Ap p.1)),(.int .i64 p.2)]):=by
 refine C7 (n:=21) 1 Tryz.func7 O (by decide) O O fun h0 ids hI=>B0 (Ax (Sl.eq_1 _ _) ?_)
 refine Ac<|Aa<|B9 (j:=0) hI O O O O As O fun g=>Ae (.I 0) O Au<|Af<|Az ?_
 refine Ac<|Ac<|Aa<|Ae (.I many) O Ab<|Be [(.I many),(.I 1),(.I 5)] O O O O ((Fc many 1 5) _) (fun v _=>Bh Tryz.func7 hI) fun r _=>Al 2 [] [(9,(.bool (!r)))] ?_
 refine Dj 6 ((fun(b:Bool)=>if b then(.ok (({ ID:=0,Many:=0,Term:=0,Vote:=0,Log:=[],Role:=0,Commit:=0,Votes:=[],Match:=[] }:Replica),470)) else((J6 ({ ID:=id,Many:=many,Term:=0,Vote:=(-1),Log:=[],Role:=0,Commit:=0,Votes:=[],Match:=[] }:Replica)).bind fun r2=>.ok (r2,0))):Bool→R (Replica×Int)) (fun(b:Bool) (fr:Nat→AV) (h:Ai)=>fr=A0 [(0,(.I id)),(1,(.I many)),(4,(.q ids 0 g)),(15,(.bool b))]∧h=hp h0 ids [(some (.rows g 9 [[(.I 0),(.I 0),(.I 0),(.I 0),.emp,(.I 0),(.I 0),.emp,.emp]]))]) ?_ fun hJ=>Dw (fun hb1=>?_) (fun hb1=>?_)
 ·rintro b fr h ⟨rfl,rfl⟩
  refine Af<|Cp O (fun hc=>?_) (fun hc=>?_)
  ·refine Ac<|Aa<|Ae (.agg [(.I 0),(.I 0),(.I 0),(.I 0),.emp,(.I 0),(.I 0),.emp,.emp]) O (Du (Hn As Aes O))<|A4 (A6 (v:=(.agg [(.I 0),(.I 0),(.I 0),(.I 0),.emp,(.I 0),(.I 0),.emp,.emp])) hI O O O O As O O O O O)<|Ae (.I 470) O Au<|Af<|B3 (a:=(({ ID:=0,Many:=0,Term:=0,Vote:=0,Log:=[],Role:=0,Commit:=0,Votes:=[],Match:=[] }:Replica),470)) (vs:=[(.agg [(.I 0),(.I 0),(.I 0),(.I 0),.emp,(.I 0),(.I 0),.emp,.emp]),(.I 470)]) Tryz.func7 hI (By (Aq hI O O O As O) (Cz Cd)) (.tupL (.cons (.aggL (.cons (.same _) (.cons (.same _) (.cons (.same _) (.cons (.same _) (.cons (.emp _) (.cons (.same _) (.cons (.same _) (.cons (.emp _) (.cons (.emp _) .nil)))))))))) (.cons (.same _) .nil)))
  refine Bd<|Ac<|Aa<|Al 3 [] [(19,(.agg [(.I id),(.I many),(.I 0),(.I (-1)),.emp,(.I 0),(.I 0),.emp,.emp]))] ?_
  refine Be [(.agg [(.I id),(.I many),(.I 0),(.I (-1)),.emp,(.I 0),(.I 0),.emp,.emp])] O O O O (fun hb=>Bv.weak (.cons (.aggL (.cons (.same _) (.cons (.same _) (.cons (.same _) (.cons (.same _) (.cons (.emp _) (.cons (.same _) (.cons (.same _) (.cons (.emp _) (.cons (.emp _) .nil)))))))))) .nil) ((Te ({ ID:=id,Many:=many,Term:=0,Vote:=(-1),Log:=[],Role:=0,Commit:=0,Votes:=[],Match:=[] }:Replica)) _ hb)) (fun v _=>Bh Tryz.func7 hI) fun r2 _=>A4 (A6 (v:=(.agg (Ap r2))) hI O O O O As O O O O O)<|Ae (.I 0) O Au<|Af<|Az ?_
  exact B3 (a:=(r2,0)) (vs:=[(.agg (Ap r2)),(.I 0)]) Tryz.func7 hI (By (Aq hI O O O As O) (Cz Cd)) (.tupL (.cons (.same _) (.cons (.same _) .nil)))
 ·refine A8 (t:=9) hb1 O<|Al 6 [] [(15,(.bool true))] ?_
  refine Bj<|Cc [(0,(.I id)),(1,(.I many)),(4,(.q ids 0 g)),(15,(.bool true))] (FI O)<|hJ true _ _ ⟨O,O⟩
 refine A8 (t:=9) hb1 O<|Al 3 [] [(12,(.I (IntKind.wrap .i64 (many - 1)))),(10,(.I id))] ?_
 refine Be [(.I id),(.I 0),(.I (IntKind.wrap .i64 (many - 1)))] O (Cu (tj:=9) O O) O O ((Fc id 0 (IntKind.wrap .i64 (many - 1))) _) (fun v _=>Bh Tryz.func7 hI) fun r1 _=>Al 2 [] [(15,(.bool (!r1)))] ?_
 refine Bj<|Cc [(0,(.I id)),(1,(.I many)),(4,(.q ids 0 g)),(15,(.bool (!r1)))] (FI O)<|hJ (!r1) _ _ ⟨O,O⟩
theorem Abm (l:List Record)(term:Int):CP Tryz.prog 48 [(.sl 2 (List.map Ah l)),(.int .i64 term)] (Mr l term) (fun(x:Bool)=>(AV.bool x)):=by
 refine C7 (n:=38) 0 Tryz.func48 O (by decide) O O fun h0 ids hI=>B0 (Ax (Mr.eq_1 _ _) ?_)
 refine Ac<|Aa<|Ae (.bool false) O Au<|Af<|Ac<|Ac<|Aa ?_
 refine Ae (.I 0) O Au<|Af<|Bn<|Ft [(0,(.sl 2 (List.map Ah l))),(1,(.I term)),(5,(.I 0))] (FI O)<|Mn (P:=Tryz.prog) l (fun j a=>fun _=>P2 l term j a) ((F4 (fun _=>.ok true) (fun r=>.ok r)):(Unit ⊕ Bool)→R Bool) (fun j=>fun _=>fun(fr:Nat→AV) (h:Ai)=>fr=A0 [(0,(.sl 2 (List.map Ah l))),(1,(.I term)),(5,(.I (j:Int)))]∧h=hp h0 ids []) () ?_ ?_ ?_
 ·exact⟨O,O⟩
 ·rintro j a ha W hW _ fr h ⟨rfl,rfl⟩
  refine Ax (m':=P2 l term j a) O (Ax (P2.eq_1 _ _ _ _) ?_)
  refine Ac<|Ac<|Aa<|Al 2 [] [(7,(.sl 2 (List.map Ah l))),(6,(.I (j:Int)))] ?_
  refine Ae (.I (l.length:Int)) O (Bm (Bo Ba))<|Ae (.bool (decide ((j:Int)<(l.length:Int)))) O (Bf O O O)<|Af<|K4 (t:=0) (L:=l) O fun hlim=>Hv O (Int.ofNat_lt.2 (B5 ha))<|Bd<|Ac ?_
  refine Bn<|Ac<|Dn (fun x=>Nt x) (fun x=>fun(fr:Nat→AV) (h:Ai)=>fr=A0 [(0,(.sl 2 (List.map Ah l))),(1,(.I term)),(5,(.I (j:Int))),(37,(.bool x))]∧h=hp h0 ids []) ?_ fun hJ=>?_
  ·rintro x fr h ⟨rfl,rfl⟩
   refine Ax (Nt.eq_1 _)<|Cp O (fun hc=>?_) (fun hc=>?_)
   ·refine Ac<|Aa<|Ae (.bool false) O Au<|Af<|Oy<|Mb<|B3 (a:=false) (vs:=[(.bool false)]) Tryz.func48 hI O (.same _)
   refine Bd<|Bp<|Aa<|Al 3 [] [(5,(.I (IntKind.wrap .i64 ((j:Int)+1))))] ?_
   refine Af<|Bk (Ou (hW () _ _ ⟨O,O⟩)) (.cons O (.cons O (.cons (H8 (B5 ha) hlim) .nil)))
  refine B4 Da [[],[],[0,1],[0,1,2],[0,1,2,3],[],[0,1,2,3,4,5],[0,1,2,3,4,5,6],[0,1,2,3,4,5,6,7],[0,1,2,3,4,5,6,7,8],[0,1,2,3,4,5,6,7,8,9],[0,1,2,3,4,5,6,7,8,9,10],[0,1,2,3,4,5,6,7,8,9,10,11],[0,1,2,3,4,5,6,7,8,9,10,11],[0,1,2,3,4,5,6,7,8,9,10,11,13],[0,1,2,3,4,5,6,7,8,9,10,11,12,13,14],[0,1,2,3,4,5,6,7,8,9,10,11,12,13,14,15],[0,1,2,3,4,5,6,7,8,9,10,11,12,13,14,15,16],[0,1,2,3,4,5,6,7,8,9,10,11],[0,1,2,3,4,5,6,7,8,9,10,11],[0,1,2,3,4,5,6,7,8,9,10,11,18,19],[0,1,2,3,4,5,6,7,8,9,10,11,18,19,20],[0,1,2,3,4,5,6,7,8,9,10,11,18,19,20,21],[0,1,2,3,4,5,6,7,8,9,10,11,12,13,14,15,16,17,18,19,20,21,22],[0,1,2,3,4,5,6,7,8,9,10,11,12,13,14,15,16,17,18,19,20,21,22,23],[0,1,2,3,4,5,6,7,8,9,10,11,12,13,14,15,16,17,18,19,20,21,22,23,24]] [(false,0),(false,1),(false,2),(false,3),(false,4),(false,5),(true,6),(false,7),(false,8),(false,9),(false,10),(false,11),(false,12),(false,13),(false,14),(false,15),(false,16),(false,17),(false,18),(false,19),(false,20),(false,21),(false,22),(false,23),(false,24),(false,25)] (by kernel_rfl)<|Z (.sl 2 (List.map Ah l)) O O Ab<|Z (.I (j:Int)) O O Ab<|Z (.cp (Ah a) 0) O O (Bu (Kv Ba C2 O ha))<|Z (.cp (Ah a) 0) O O (Aj (N7 (c:=0) (off:=0) (i:=0) C2 O Av O))<|Z (.I a.Term) O O (An (Eh Av O))<|Z (.I term) O O Ab ?_
  refine Dy [(.I a.Term),(.I 1),(.I term)] O O O O O ((Fc a.Term 1 term) _) (fun v _ _ _=>Bh Tryz.func48 hI) (Y O (Y O (Y O (Y O (Y O (Y O At)))))) fun r _=>Z (.bool (!r)) O O (P3 O)<|Z (.bool (!r)) O O Ab<|Ge (fun hb=>?_) (fun hb=>?_)
  ·refine A2 (tj:=20) (b:=true) O O (congrArg AV.bool hb) O O<|A2 (tj:=20) (b:=true) O O (congrArg AV.bool hb) O O<|A2 (tj:=20) (b:=true) O O (congrArg AV.bool hb) O O<|Cf (tj:=23) O O O O<|Cf (tj:=23) O O O O<|Cf (tj:=23) O O O O<|Cf (tj:=23) O O O O ?_
   refine Cf (tj:=23) O O O O<|Cf (tj:=23) O O O O<|Cf (tj:=23) O O O O<|Cf (tj:=23) O O O O<|Cf (tj:=23) O O O O<|Cf (tj:=23) O O O O<|Cf (tj:=23) O O O O ?_
   refine Cf (tj:=23) O O O O<|A2 (tj:=20) (b:=true) O O (congrArg AV.bool hb) O O<|Z (.bool true) O O (Bw (t:=true) (congrArg AV.bool hb) O)<|Bb<|Bk (hJ true _ _ ⟨O,O⟩)
  refine Ay (tj:=20) (.I (j:Int)) O O (congrArg AV.bool hb) O Ab<|Ay (tj:=20) (.bool (decide ((j:Int) > 0))) O O (congrArg AV.bool hb) O (Bf O O O)<|Ay (tj:=20) (.bool (decide ((j:Int) > 0))) O O (congrArg AV.bool hb) O Ab<|Ge (fun hb1=>?_) (fun hb1=>?_)
  ·refine Ay (tj:=23) (.sl 2 (List.map Ah l)) O O (congrArg AV.bool hb1) O Ab<|Ay (tj:=23) (.I (j:Int)) O O (congrArg AV.bool hb1) O Ab<|Ay (tj:=23) (.I (IntKind.wrap .i64 ((j:Int) - 1))) O O (congrArg AV.bool hb1) O (Bf O O O)<|G0 fun a1 hz hx1=>Ay (tj:=23) (.cp (Ah a1) 0) O O (congrArg AV.bool hb1) O (Bu (E6 Ba C2 O hz hx1))<|Ay (tj:=23) (.cp (Ah a1) 0) O O (congrArg AV.bool hb1) O (Aj (N7 (c:=0) (off:=0) (i:=0) C2 O Av O))<|Ay (tj:=23) (.I a1.Term) O O (congrArg AV.bool hb1) O (An (Eh Av O)) ?_
   refine Ay (tj:=23) (.sl 2 (List.map Ah l)) O O (congrArg AV.bool hb1) O Ab<|Ay (tj:=23) (.I (j:Int)) O O (congrArg AV.bool hb1) O Ab<|Ay (tj:=23) (.cp (Ah a) 0) O O (congrArg AV.bool hb1) O (Bu (Kv Ba C2 O ha))<|Ay (tj:=23) (.cp (Ah a) 0) O O (congrArg AV.bool hb1) O (Aj (N7 (c:=0) (off:=0) (i:=0) C2 O Av O))<|Ay (tj:=23) (.I a.Term) O O (congrArg AV.bool hb1) O (An (Eh Av O))<|Ay (tj:=23) (.bool (decide (a1.Term > a.Term))) O O (congrArg AV.bool hb1) O (Bf O O O)<|Ay (tj:=20) (.bool (decide (a1.Term > a.Term))) O O (congrArg AV.bool hb) O (Bw (t:=true) (congrArg AV.bool hb1) O) ?_
   refine Z (.bool (decide (a1.Term > a.Term))) O O (Bw (t:=false) (congrArg AV.bool hb) O)<|Bb<|Bk (hJ (decide (a1.Term > a.Term)) _ _ ⟨O,O⟩)
  refine A2 (tj:=23) (b:=false) O O (congrArg AV.bool hb1) O O<|A2 (tj:=23) (b:=false) O O (congrArg AV.bool hb1) O O<|A2 (tj:=23) (b:=false) O O (congrArg AV.bool hb1) O O<|A2 (tj:=23) (b:=false) O O (congrArg AV.bool hb1) O O<|A2 (tj:=23) (b:=false) O O (congrArg AV.bool hb1) O O<|A2 (tj:=23) (b:=false) O O (congrArg AV.bool hb1) O O<|A2 (tj:=23) (b:=false) O O (congrArg AV.bool hb1) O O ?_
  refine A2 (tj:=23) (b:=false) O O (congrArg AV.bool hb1) O O<|A2 (tj:=23) (b:=false) O O (congrArg AV.bool hb1) O O<|A2 (tj:=23) (b:=false) O O (congrArg AV.bool hb1) O O<|A2 (tj:=23) (b:=false) O O (congrArg AV.bool hb1) O O<|A2 (tj:=23) (b:=false) O O (congrArg AV.bool hb1) O O<|Ay (tj:=20) (.bool false) O O (congrArg AV.bool hb) O (Bw (t:=false) (congrArg AV.bool hb1) O)<|Z (.bool false) O O (Bw (t:=false) (congrArg AV.bool hb) O) ?_
  refine Bb<|Bk (hJ false _ _ ⟨O,O⟩)
 rintro _ fr h ⟨rfl,rfl⟩
 refine Ax (Ov _ _ _)<|Ac<|Ac<|Aa<|Al 2 [] [(7,(.sl 2 (List.map Ah l))),(6,(.I (l.length:Int)))] ?_
 refine Ae (.I (l.length:Int)) O (Bm (Bo Ba))<|Ae (.bool (decide ((l.length:Int)<(l.length:Int)))) O (Bf O O O)<|Af<|Hu O (Int.lt_irrefl _)<|Ea O<|Ac<|Aa ?_
 refine Ae (.bool true) O Au<|Af<|B3 (a:=true) (vs:=[(.bool true)]) Tryz.func48 hI O (.same _)
theorem R8 (a:Replica):CP Tryz.prog 15 [(.agg (Ap a))] (Ha a) (fun(x:Int)=>(AV.int .i64 x)):=by
 refine C7 (n:=131) 1 Tryz.func15 O (by decide) O O fun h0 ids hI=>B0 (Ax (Ha.eq_1 _) ?_)
 refine Ac<|Aa<|Cy (v:=(.agg (Ap a))) (j:=0) hI O O O O O O O fun g=>Ae (.I 0) O Au<|Af<|Az ?_
 refine Ac<|Ac<|Aa<|Al 2 [0] [(5,(.I a.Many))] ?_
 refine Be [(.I a.Many),(.I 1),(.I 5)] O O O O ((Fc a.Many 1 5) _) (fun v _=>Bh Tryz.func15 hI) fun r _=>Al 2 [] [(8,(.bool (!r)))] ?_
 refine Dj 8 ((fun(b:Bool)=>(if b then R.ok true else(C6 a.Term 0 1048576).bind fun r2=>R.ok (!r2)).bind (fun(b1:Bool)=>(if b1 then R.ok true else(C6 a.Vote (-1) (IntKind.wrap .i64 (a.Many - 1))).bind fun r3=>R.ok (!r3)).bind (fun(b2:Bool)=>(if b2 then R.ok true else(Mr a.Log a.Term).bind fun r4=>R.ok (!r4)).bind (fun(b3:Bool)=>(if b3 then R.ok true else(C6 a.Role 0 2).bind fun r5=>R.ok (!r5)).bind (fun(b4:Bool)=>(if b4 then R.ok true else(C6 a.Commit 0 (a.Log.length:Int)).bind fun r6=>R.ok (!r6)).bind (fun(b5:Bool)=>if((b5||((a.Votes.length:Int) != a.Many))||((a.Match.length:Int) != a.Many)) then(.ok 470) else((loop (fun x=>Dv a x) 0).bind (F4 (fun _=>Fb a) (fun r=>.ok r))))))))):Bool→R Int) (fun(b:Bool) (fr:Nat→AV) (h:Ai)=>fr=A0 [(1,(.q ids 0 g)),(16,(.bool b))]∧h=hp h0 ids [(some (.rows g 9 [(Ap a)]))]) ?_ fun hJ=>Dw (fun hb1=>?_) (fun hb1=>?_)
 ·rintro b fr h ⟨rfl,rfl⟩
  refine Ae (.bool b) O Ab<|Dj 5 ((fun(b1:Bool)=>(if b1 then R.ok true else(C6 a.Vote (-1) (IntKind.wrap .i64 (a.Many - 1))).bind fun r3=>R.ok (!r3)).bind (fun(b2:Bool)=>(if b2 then R.ok true else(Mr a.Log a.Term).bind fun r4=>R.ok (!r4)).bind (fun(b3:Bool)=>(if b3 then R.ok true else(C6 a.Role 0 2).bind fun r5=>R.ok (!r5)).bind (fun(b4:Bool)=>(if b4 then R.ok true else(C6 a.Commit 0 (a.Log.length:Int)).bind fun r6=>R.ok (!r6)).bind (fun(b5:Bool)=>if((b5||((a.Votes.length:Int) != a.Many))||((a.Match.length:Int) != a.Many)) then(.ok 470) else((loop (fun x=>Dv a x) 0).bind (F4 (fun _=>Fb a) (fun r=>.ok r)))))))):Bool→R Int) (fun(b1:Bool) (fr:Nat→AV) (h:Ai)=>fr=A0 [(1,(.q ids 0 g)),(22,(.bool b1))]∧h=hp h0 ids [(some (.rows g 9 [(Ap a)]))]) ?_ fun hJ1=>Dw (fun hb3=>?_) (fun hb3=>?_)
  ·rintro b1 fr h ⟨rfl,rfl⟩
   refine Ae (.bool b1) O Ab<|Dj 8 ((fun(b2:Bool)=>(if b2 then R.ok true else(Mr a.Log a.Term).bind fun r4=>R.ok (!r4)).bind (fun(b3:Bool)=>(if b3 then R.ok true else(C6 a.Role 0 2).bind fun r5=>R.ok (!r5)).bind (fun(b4:Bool)=>(if b4 then R.ok true else(C6 a.Commit 0 (a.Log.length:Int)).bind fun r6=>R.ok (!r6)).bind (fun(b5:Bool)=>if((b5||((a.Votes.length:Int) != a.Many))||((a.Match.length:Int) != a.Many)) then(.ok 470) else((loop (fun x=>Dv a x) 0).bind (F4 (fun _=>Fb a) (fun r=>.ok r))))))):Bool→R Int) (fun(b2:Bool) (fr:Nat→AV) (h:Ai)=>fr=A0 [(1,(.q ids 0 g)),(31,(.bool b2))]∧h=hp h0 ids [(some (.rows g 9 [(Ap a)]))]) ?_ fun hJ2=>Dw (fun hb5=>?_) (fun hb5=>?_)
   ·rintro b2 fr h ⟨rfl,rfl⟩
    refine Ae (.bool b2) O Ab<|Dj 7 ((fun(b3:Bool)=>(if b3 then R.ok true else(C6 a.Role 0 2).bind fun r5=>R.ok (!r5)).bind (fun(b4:Bool)=>(if b4 then R.ok true else(C6 a.Commit 0 (a.Log.length:Int)).bind fun r6=>R.ok (!r6)).bind (fun(b5:Bool)=>if((b5||((a.Votes.length:Int) != a.Many))||((a.Match.length:Int) != a.Many)) then(.ok 470) else((loop (fun x=>Dv a x) 0).bind (F4 (fun _=>Fb a) (fun r=>.ok r)))))):Bool→R Int) (fun(b3:Bool) (fr:Nat→AV) (h:Ai)=>fr=A0 [(1,(.q ids 0 g)),(39,(.bool b3))]∧h=hp h0 ids [(some (.rows g 9 [(Ap a)]))]) ?_ fun hJ3=>Dw (fun hb7=>?_) (fun hb7=>?_)
    ·rintro b3 fr h ⟨rfl,rfl⟩
     refine Ae (.bool b3) O Ab<|Dj 5 ((fun(b4:Bool)=>(if b4 then R.ok true else(C6 a.Commit 0 (a.Log.length:Int)).bind fun r6=>R.ok (!r6)).bind (fun(b5:Bool)=>if((b5||((a.Votes.length:Int) != a.Many))||((a.Match.length:Int) != a.Many)) then(.ok 470) else((loop (fun x=>Dv a x) 0).bind (F4 (fun _=>Fb a) (fun r=>.ok r))))):Bool→R Int) (fun(b4:Bool) (fr:Nat→AV) (h:Ai)=>fr=A0 [(1,(.q ids 0 g)),(45,(.bool b4))]∧h=hp h0 ids [(some (.rows g 9 [(Ap a)]))]) ?_ fun hJ4=>Dw (fun hb9=>?_) (fun hb9=>?_)
     ·rintro b4 fr h ⟨rfl,rfl⟩
      refine Ae (.bool b4) O Ab<|Dj 8 ((fun(b5:Bool)=>if((b5||((a.Votes.length:Int) != a.Many))||((a.Match.length:Int) != a.Many)) then(.ok 470) else((loop (fun x=>Dv a x) 0).bind (F4 (fun _=>Fb a) (fun r=>.ok r)))):Bool→R Int) (fun(b5:Bool) (fr:Nat→AV) (h:Ai)=>fr=A0 [(1,(.q ids 0 g)),(54,(.bool b5))]∧h=hp h0 ids [(some (.rows g 9 [(Ap a)]))]) ?_ fun hJ5=>Dw (fun hb11=>?_) (fun hb11=>?_)
      ·rintro b5 fr h ⟨rfl,rfl⟩
       refine Ae (.bool b5) O Ab<|B7 7 [(1,(.q ids 0 g)),(62,(.bool (b5||((a.Votes.length:Int) != a.Many))))] ?_ fun hJ6=>Bz b5 (fun hb13=>?_) (fun hb13=>?_)
       ·refine Ae (.bool (b5||((a.Votes.length:Int) != a.Many))) O Ab<|B7 7 [(1,(.q ids 0 g)),(70,(.bool ((b5||((a.Votes.length:Int) != a.Many))||((a.Match.length:Int) != a.Many))))] ?_ fun hJ7=>Bz (b5||((a.Votes.length:Int) != a.Many)) (fun hb15=>?_) (fun hb15=>?_)
        ·refine Af<|Cp O (fun hc=>?_) (fun hc=>?_)
         ·refine Ac<|Aa<|Ae (.I 470) O Au<|Af<|B3 (a:=470) (vs:=[(.I 470)]) Tryz.func15 hI O (.same _)
         refine Bd<|Ac<|Ac<|Aa<|Ae (.I 0) O Au<|Af<|Dn (π:=Unit) (fun _=>Fb a) (fun _=>fun(fr:Nat→AV) (h:Ai)=>fr=A0 [(1,(.q ids 0 g))]∧h=hp h0 ids [(some (.rows g 9 [(Ap a)]))]) ?_ fun hJ12=>?_
         ·rintro _ fr h ⟨rfl,rfl⟩
          refine Ax (Fb.eq_1 _)<|Ac<|Ac<|Aa<|Al 4 [0] [(110,(.bool (a.Role != 0)))] ?_
          refine Dj 20 ((fun(b6:Bool)=>if b6 then(.ok 470) else(.ok 0)):Bool→R Int) (fun(b6:Bool) (fr:Nat→AV) (h:Ai)=>fr=A0 [(130,(.bool b6))]∧h=hp h0 ids [(some (.rows g 9 [(Ap a)]))]) ?_ fun hJ9=>Dw (fun hb20=>?_) (fun hb20=>?_)
          ·rintro b6 fr h ⟨rfl,rfl⟩
           refine Af<|Cp O (fun hc3=>?_) (fun hc3=>?_)
           ·refine Ac<|Aa<|Ae (.I 470) O Au<|Af<|B3 (a:=470) (vs:=[(.I 470)]) Tryz.func15 hI O (.same _)
           refine Bd<|Ac<|Aa<|Ae (.I 0) O Au<|Af<|B3 (a:=0) (vs:=[(.I 0)]) Tryz.func15 hI O (.same _)
          ·refine A8 (t:=110) hb20 O<|Al 6 [0,0] [(116,(.bool (a.Vote != a.ID)))] ?_
           refine B7 4 [(1,(.q ids 0 g)),(110,(.bool true)),(120,(.bool ((a.Vote != a.ID)||(decide (a.Term<1)))))] ?_ fun hJ10=>Bz (a.Vote != a.ID) (fun hb22=>?_) (fun hb22=>?_)
           ·refine Cg (tj:=110) (.bool ((a.Vote != a.ID)||(decide (a.Term<1)))) O O O Ab<|Dj 8 ((fun(b7:Bool)=>R.ok b7):Bool→R Bool) (fun(b7:Bool) (fr:Nat→AV) (h:Ai)=>fr=A0 [(110,(.bool true)),(129,(.bool b7))]∧h=hp h0 ids [(some (.rows g 9 [(Ap a)]))]) ?_ fun hJ11=>Dw (fun hb24=>?_) (fun hb24=>?_)
            ·rintro b7 fr h ⟨rfl,rfl⟩
             refine Ae (.bool b7) O (Bw (t:=true) O O)<|Bj<|Cc [(130,(.bool b7))] (FI O)<|hJ9 b7 _ _ ⟨O,O⟩
            ·refine A8 (t:=121) hb24 O<|Al 8 [] [(129,(.bool true))] ?_
             refine Bj<|Cc [(110,(.bool true)),(129,(.bool true))] (FI O)<|hJ11 true _ _ ⟨O,O⟩
            refine A8 (t:=121) hb24 O<|Al 4 [0,0] [(125,(.I a.ID)),(123,(.sl 1 (List.map rB a.Votes)))] ?_
            refine Gy fun a3 hz2 hx3=>Cg (tj:=121) (.cp [(.bool a3)] 0) O O O (Bu (E6 Cn Gm O hz2 hx3))<|Al 3 [] [(129,(.bool (!a3)))] ?_
            refine Bj<|Cc [(110,(.bool true)),(129,(.bool (!a3)))] (FI O)<|hJ11 (!a3) _ _ ⟨O,O⟩
           ·refine A8 (t:=116) hb22 O<|Al 4 [] [(120,(.bool true))] ?_
            exact Bl hJ10 (.cons O (.cons O (.cons (Ig hb22) .nil)))
           refine A8 (t:=116) hb22 O<|Al 4 [0] [(120,(.bool (decide (a.Term<1))))] ?_
           exact Bl hJ10 (.cons O (.cons O (.cons (Ii hb22) .nil)))
          refine A8 (t:=110) hb20 O<|Al 20 [] [(130,(.bool false))] ?_
          refine Bj<|Cc [(130,(.bool false))] (FI O)<|hJ9 false _ _ ⟨O,O⟩
         refine Bn<|Ft [(1,(.q ids 0 g)),(3,(.I 0))] (FI O)<|I0 (P:=Tryz.prog) (fun x=>Dv a x) ((F4 (fun _=>Fb a) (fun r=>.ok r)):(Unit ⊕ Int)→R Int) (fun x=>fun(fr:Nat→AV) (h:Ai)=>fr=A0 [(1,(.q ids 0 g)),(3,(.I x))]∧h=hp h0 ids [(some (.rows g 9 [(Ap a)]))]) 0 ?_ ?_
         ·exact⟨O,O⟩
         rintro vW hW x fr h ⟨rfl,rfl⟩
         refine Ax (m':=Dv a x) O (Ax (Dv.eq_1 _ _) ?_)
         refine Ac<|Ac<|Aa<|Al 4 [0] [(74,(.bool (decide (x<a.Many))))] ?_
         refine Af<|Gf O (fun hc1=>?_) (fun hc1=>?_)
         ·refine Bd<|Ac<|Bn<|Ac<|Dn (fun x1=>Gj x x1) (fun x1=>fun(fr:Nat→AV) (h:Ai)=>fr=A0 [(1,(.q ids 0 g)),(3,(.I x)),(106,(.bool x1))]∧h=hp h0 ids [(some (.rows g 9 [(Ap a)]))]) ?_ fun hJ8=>?_
          ·rintro x1 fr h ⟨rfl,rfl⟩
           refine Ax (Gj.eq_1 _ _)<|Cp O (fun hc2=>?_) (fun hc2=>?_)
           ·refine Ac<|Aa<|Ae (.I 470) O Au<|Af<|H6<|Mb<|B3 (a:=470) (vs:=[(.I 470)]) Tryz.func15 hI O (.same _)
           refine Bd<|Bp<|Aa<|Al 3 [] [(3,(.I (IntKind.wrap .i64 (x+1))))] ?_
           refine Af<|Bk (Gp (hW (IntKind.wrap .i64 (x+1)) _ _ ⟨O,O⟩))
          refine B4 Da [[],[0],[],[0,1,2],[0,1,2,3],[],[5],[5,6],[0,1,2,3,4,5,6,7],[0,1,2,3,4,5,6,7,8],[0,1,2,3,4,5,6,7,8,9],[0,1,2,3,4,5,6,7,8,9,10],[0,1,2,3,4,5,6,7,8,9,10,11],[0,1,2,3,4,5,6,7,8,9,10,11,12],[0,1,2,3,4,5,6,7,8,9,10,11,12,13],[0,1,2,3,4,5,6,7,8,9,10,11,12,13,14],[0,1,2,3,4,5,6,7,8,9,10,11,12,13,14,15],[0,1,2,3,4,5,6,7,8,9,10,11,12,13,14],[0,1,2,3,4,5,6,7,8,9,10,11,12,13,14,15,16,17],[0,1,2,3,4,5,6,7,8,9,10,11,12,13,14,15,16,17,18],[0,1,2,3,4,5,6,7,8,9,10,11,12,13,14,15,16,17,18,19],[0,1,2,3,4,5,6,7,8,9,10,11,12,13,14,15,16,17,18,19,20],[0,1,2,3,4,5,6,7,8,9,10,11,12,13,14,15,16,17,18,19,20,21],[0,1,2,3,4,5,6,7,8,9,10,11,12,13,14,15,16,17,18,19,20],[0,1,2,3,4,5,6,7,8,9,10,11,12,13,14,15,16,17,18,19,20,21,22,23],[0,1,2,3,4,5,6,7,8,9,10,11,12,13,14,15,16,17,18,19,20,21,22,23,24],[0,1,2,3,4,5,6,7,8,9,10,11,12,13,14,15,16,17,18,19,20,21,22,23,24,25],[0,1,2,3,4,5,6,7,8,9,10,11,12,13,14,15,16,17,18,19,20,21,22,23,24,25,26],[0,1,2,3,4,5,6,7,8,9,10,11,12,13,14,15,16,17,18,19,20,21,22,23,24,25,26,27],[0,1,2,3,4,5,6,7,8,9,10,11,12,13,14,15,16,17,18,19,20,21,22,23,24,25,26,27,28]] [(false,0),(false,1),(false,2),(false,3),(false,4),(false,5),(false,6),(false,7),(true,8),(false,9),(false,10),(false,11),(false,12),(false,13),(false,14),(false,15),(false,16),(false,17),(false,18),(false,19),(false,20),(false,21),(false,22),(false,23),(false,24),(false,25),(false,26),(false,27),(false,28),(false,29)] (by kernel_rfl)<|Z (.ptr (ix ids 0) g 0 8) O O (Aj (Ag (c:=0) (off:=8) (i:=8) As O Bt O))<|Z (.sl 1 (List.map (rI .i64) a.Match)) O O (An (Aq hI O O O Bt O))<|Z (.I x) O O Ab<|G0 fun a1 hz hx1=>Z (.cp [(.I a1)] 0) O O (Bu (E6 Bt Av O hz hx1))<|Z (.I a1) O O (An (Eh Av O)) ?_
          refine Z (.ptr (ix ids 0) g 0 4) O O (Aj (Ag (c:=0) (off:=4) (i:=4) As O Ba O))<|Z (.sl 2 (List.map Ah a.Log)) O O (An (Aq hI O O O Ba O))<|Z (.I (a.Log.length:Int)) O O (Bm (Bo Ba))<|Dy [(.I a1),(.I 0),(.I (a.Log.length:Int))] O O O O O ((Fc a1 0 (a.Log.length:Int)) _) (fun v _ _ _=>Bh Tryz.func15 hI) (Y O (Y O (Y O (Y O (Y O (Y O (Y O (Y O At)))))))) fun r7 _=>Z (.bool (!r7)) O O (P3 O)<|Z (.bool (!r7)) O O Ab<|Ge (fun hb16=>?_) (fun hb16=>?_)
          ·refine A2 (tj:=87) (b:=true) O O (congrArg AV.bool hb16) O O<|A2 (tj:=87) (b:=true) O O (congrArg AV.bool hb16) O O<|A2 (tj:=87) (b:=true) O O (congrArg AV.bool hb16) O O<|A2 (tj:=87) (b:=true) O O (congrArg AV.bool hb16) O O<|Cf (tj:=91) O O O O<|Cf (tj:=91) O O O O<|Cf (tj:=91) O O O O ?_
           refine Cf (tj:=91) O O O O<|Cf (tj:=91) O O O O<|Cf (tj:=91) O O O O<|Cf (tj:=97) O O O O<|Cf (tj:=97) O O O O<|Cf (tj:=97) O O O O<|Cf (tj:=97) O O O O ?_
           refine Cf (tj:=97) O O O O<|Cf (tj:=97) O O O O<|Cf (tj:=91) O O O O<|A2 (tj:=87) (b:=true) O O (congrArg AV.bool hb16) O O<|Z (.bool true) O O (Bw (t:=true) (congrArg AV.bool hb16) O)<|Bb<|Bk (hJ8 true _ _ ⟨O,O⟩)
          refine Ay (tj:=87) (.ptr (ix ids 0) g 0 5) O O (congrArg AV.bool hb16) O (Aj (Ag (c:=0) (off:=5) (i:=5) As O Av O))<|Ay (tj:=87) (.I a.Role) O O (congrArg AV.bool hb16) O (An (Aq hI O O O Av O))<|Ay (tj:=87) (.bool (a.Role==0)) O O (congrArg AV.bool hb16) O (Bf O O O)<|Ay (tj:=87) (.bool (a.Role==0)) O O (congrArg AV.bool hb16) O Ab<|Ge (fun hb17=>?_) (fun hb17=>?_)
          ·refine Ay (tj:=91) (.ptr (ix ids 0) g 0 7) O O (congrArg AV.bool hb17) O (Aj (Ag (c:=0) (off:=7) (i:=7) As O Cn O))<|Ay (tj:=91) (.sl 1 (List.map rB a.Votes)) O O (congrArg AV.bool hb17) O (An (Aq hI O O O Cn O))<|Ay (tj:=91) (.I x) O O (congrArg AV.bool hb17) O Ab<|G0 fun a2 hz1 hx2=>Ay (tj:=91) (.cp [(.bool a2)] 0) O O (congrArg AV.bool hb17) O (Bu (E6 Cn Gm O hz1 hx2))<|Ay (tj:=91) (.bool a2) O O (congrArg AV.bool hb17) O (An (Eh Gm O))<|Ay (tj:=91) (.bool a2) O O (congrArg AV.bool hb17) O Ab ?_
           refine Ge (fun hb18=>?_) (fun hb18=>?_)
           ·refine A2 (tj:=97) (b:=true) O O (congrArg AV.bool hb18) O O<|A2 (tj:=97) (b:=true) O O (congrArg AV.bool hb18) O O<|A2 (tj:=97) (b:=true) O O (congrArg AV.bool hb18) O O<|A2 (tj:=97) (b:=true) O O (congrArg AV.bool hb18) O O<|A2 (tj:=97) (b:=true) O O (congrArg AV.bool hb18) O O<|A2 (tj:=97) (b:=true) O O (congrArg AV.bool hb18) O O<|Ay (tj:=91) (.bool true) O O (congrArg AV.bool hb17) O (Bw (t:=true) (congrArg AV.bool hb18) O) ?_
            refine Ay (tj:=87) (.bool true) O O (congrArg AV.bool hb16) O (Bw (t:=true) (congrArg AV.bool hb17) O)<|Z (.bool true) O O (Bw (t:=false) (congrArg AV.bool hb16) O)<|Bb<|Bk (hJ8 true _ _ ⟨O,O⟩)
           refine Ay (tj:=97) (.ptr (ix ids 0) g 0 8) O O (congrArg AV.bool hb18) O (Aj (Ag (c:=0) (off:=8) (i:=8) As O Bt O))<|Ay (tj:=97) (.sl 1 (List.map (rI .i64) a.Match)) O O (congrArg AV.bool hb18) O (An (Aq hI O O O Bt O))<|Ay (tj:=97) (.I x) O O (congrArg AV.bool hb18) O Ab<|Ay (tj:=97) (.cp [(.I a1)] 0) O O (congrArg AV.bool hb18) O (Bu (E6 Bt Av O hz hx1))<|Ay (tj:=97) (.I a1) O O (congrArg AV.bool hb18) O (An (Eh Av O))<|Ay (tj:=97) (.bool (a1 != 0)) O O (congrArg AV.bool hb18) O (Bf O O O)<|Ay (tj:=91) (.bool (a1 != 0)) O O (congrArg AV.bool hb17) O (Bw (t:=false) (congrArg AV.bool hb18) O) ?_
           refine Ay (tj:=87) (.bool (a1 != 0)) O O (congrArg AV.bool hb16) O (Bw (t:=true) (congrArg AV.bool hb17) O)<|Z (.bool (a1 != 0)) O O (Bw (t:=false) (congrArg AV.bool hb16) O)<|Bb<|Bk (hJ8 (a1 != 0) _ _ ⟨O,O⟩)
          refine A2 (tj:=91) (b:=false) O O (congrArg AV.bool hb17) O O<|A2 (tj:=91) (b:=false) O O (congrArg AV.bool hb17) O O<|A2 (tj:=91) (b:=false) O O (congrArg AV.bool hb17) O O<|A2 (tj:=91) (b:=false) O O (congrArg AV.bool hb17) O O<|A2 (tj:=91) (b:=false) O O (congrArg AV.bool hb17) O O<|A2 (tj:=91) (b:=false) O O (congrArg AV.bool hb17) O O<|Cf (tj:=97) O O O O ?_
          refine Cf (tj:=97) O O O O<|Cf (tj:=97) O O O O<|Cf (tj:=97) O O O O<|Cf (tj:=97) O O O O<|Cf (tj:=97) O O O O<|A2 (tj:=91) (b:=false) O O (congrArg AV.bool hb17) O O<|Ay (tj:=87) (.bool false) O O (congrArg AV.bool hb16) O (Bw (t:=false) (congrArg AV.bool hb17) O) ?_
          refine Z (.bool false) O O (Bw (t:=false) (congrArg AV.bool hb16) O)<|Bb<|Bk (hJ8 false _ _ ⟨O,O⟩)
         refine Ea O<|H6<|Aav<|Bk (hJ12 () _ _ ⟨O,O⟩)
        ·refine A8 (t:=63) hb15 O<|Al 7 [] [(70,(.bool true))] ?_
         exact Bl hJ7 (.cons O (.cons (Ig hb15) .nil))
        refine A8 (t:=63) hb15 O<|Al 2 [0] [(65,(.sl 1 (List.map (rI .i64) a.Match)))] ?_
        refine Cg (tj:=63) (.I (a.Match.length:Int)) O O O (Bm (Bo Bt))<|Al 4 [0] [(70,(.bool ((a.Match.length:Int) != a.Many)))] ?_
        exact Bl hJ7 (.cons O (.cons (Ii hb15) .nil))
       ·refine A8 (t:=55) hb13 O<|Al 7 [] [(62,(.bool true))] ?_
        exact Bl hJ6 (.cons O (.cons (Ig hb13) .nil))
       refine A8 (t:=55) hb13 O<|Al 2 [0] [(57,(.sl 1 (List.map rB a.Votes)))] ?_
       refine Cg (tj:=55) (.I (a.Votes.length:Int)) O O O (Bm (Bo Cn))<|Al 4 [0] [(62,(.bool ((a.Votes.length:Int) != a.Many)))] ?_
       exact Bl hJ6 (.cons O (.cons (Ii hb13) .nil))
      ·refine A8 (t:=46) hb11 O<|Al 8 [] [(54,(.bool true))] ?_
       refine Bj<|Cc [(1,(.q ids 0 g)),(54,(.bool true))] (FI O)<|hJ5 true _ _ ⟨O,O⟩
      refine A8 (t:=46) hb11 O<|Al 4 [0,0] [(50,(.sl 2 (List.map Ah a.Log))),(48,(.I a.Commit))] ?_
      refine Cg (tj:=46) (.I (a.Log.length:Int)) O O O (Bm (Bo Ba))<|Be [(.I a.Commit),(.I 0),(.I (a.Log.length:Int))] O (Cu (tj:=46) O O) O O ((Fc a.Commit 0 (a.Log.length:Int)) _) (fun v _=>Bh Tryz.func15 hI) fun r6 _=>Al 2 [] [(54,(.bool (!r6)))] ?_
      refine Bj<|Cc [(1,(.q ids 0 g)),(54,(.bool (!r6)))] (FI O)<|hJ5 (!r6) _ _ ⟨O,O⟩
     ·refine A8 (t:=40) hb9 O<|Al 5 [] [(45,(.bool true))] ?_
      refine Bj<|Cc [(1,(.q ids 0 g)),(45,(.bool true))] (FI O)<|hJ4 true _ _ ⟨O,O⟩
     refine A8 (t:=40) hb9 O<|Al 2 [0] [(42,(.I a.Role))] ?_
     refine Be [(.I a.Role),(.I 0),(.I 2)] O (Cu (tj:=40) O O) O O ((Fc a.Role 0 2) _) (fun v _=>Bh Tryz.func15 hI) fun r5 _=>Al 2 [] [(45,(.bool (!r5)))] ?_
     refine Bj<|Cc [(1,(.q ids 0 g)),(45,(.bool (!r5)))] (FI O)<|hJ4 (!r5) _ _ ⟨O,O⟩
    ·refine A8 (t:=32) hb7 O<|Al 7 [] [(39,(.bool true))] ?_
     refine Bj<|Cc [(1,(.q ids 0 g)),(39,(.bool true))] (FI O)<|hJ3 true _ _ ⟨O,O⟩
    refine A8 (t:=32) hb7 O<|Al 4 [0,0] [(36,(.I a.Term)),(34,(.sl 2 (List.map Ah a.Log)))] ?_
    refine Be [(.sl 2 (List.map Ah a.Log)),(.I a.Term)] O (Cu (tj:=32) O O) O O ((Abm a.Log a.Term) _) (fun v _=>Bh Tryz.func15 hI) fun r4 _=>Al 2 [] [(39,(.bool (!r4)))] ?_
    refine Bj<|Cc [(1,(.q ids 0 g)),(39,(.bool (!r4)))] (FI O)<|hJ3 (!r4) _ _ ⟨O,O⟩
   ·refine A8 (t:=23) hb5 O<|Al 8 [] [(31,(.bool true))] ?_
    refine Bj<|Cc [(1,(.q ids 0 g)),(31,(.bool true))] (FI O)<|hJ2 true _ _ ⟨O,O⟩
   refine A8 (t:=23) hb5 O<|Al 5 [0,0] [(28,(.I (IntKind.wrap .i64 (a.Many - 1)))),(25,(.I a.Vote))] ?_
   refine Be [(.I a.Vote),(.I (-1)),(.I (IntKind.wrap .i64 (a.Many - 1)))] O (Cu (tj:=23) O O) O O ((Fc a.Vote (-1) (IntKind.wrap .i64 (a.Many - 1))) _) (fun v _=>Bh Tryz.func15 hI) fun r3 _=>Al 2 [] [(31,(.bool (!r3)))] ?_
   refine Bj<|Cc [(1,(.q ids 0 g)),(31,(.bool (!r3)))] (FI O)<|hJ2 (!r3) _ _ ⟨O,O⟩
  ·refine A8 (t:=17) hb3 O<|Al 5 [] [(22,(.bool true))] ?_
   refine Bj<|Cc [(1,(.q ids 0 g)),(22,(.bool true))] (FI O)<|hJ1 true _ _ ⟨O,O⟩
  refine A8 (t:=17) hb3 O<|Al 2 [0] [(19,(.I a.Term))] ?_
  refine Be [(.I a.Term),(.I 0),(.I 1048576)] O (Cu (tj:=17) O O) O O ((Fc a.Term 0 1048576) _) (fun v _=>Bh Tryz.func15 hI) fun r2 _=>Al 2 [] [(22,(.bool (!r2)))] ?_
  refine Bj<|Cc [(1,(.q ids 0 g)),(22,(.bool (!r2)))] (FI O)<|hJ1 (!r2) _ _ ⟨O,O⟩
 ·refine A8 (t:=8) hb1 O<|Al 8 [] [(16,(.bool true))] ?_
  refine Bj<|Cc [(1,(.q ids 0 g)),(16,(.bool true))] (FI O)<|hJ true _ _ ⟨O,O⟩
 refine A8 (t:=8) hb1 O<|Al 5 [0,0] [(13,(.I (IntKind.wrap .i64 (a.Many - 1)))),(10,(.I a.ID))] ?_
 refine Be [(.I a.ID),(.I 0),(.I (IntKind.wrap .i64 (a.Many - 1)))] O (Cu (tj:=8) O O) O O ((Fc a.ID 0 (IntKind.wrap .i64 (a.Many - 1))) _) (fun v _=>Bh Tryz.func15 hI) fun r1 _=>Al 2 [] [(16,(.bool (!r1)))] ?_
 refine Bj<|Cc [(1,(.q ids 0 g)),(16,(.bool (!r1)))] (FI O)<|hJ (!r1) _ _ ⟨O,O⟩
theorem Xh (r:Replica)(h0:Ai)(o0:Nat)(o1:Nat)(hI0:Ids h0 [o0,o1] 2):J7 r≠.bad→Bv Tryz.prog 29 [(.agg (Ap r))] (hp h0 [o0,o1] [none,none]) (Ei (fun a_ v h' => ∃ (v5:AV),∃ (g6:Nat),∃ (v6:AV),∃ (g7:Nat),A9 v5 o0 g6 a_.1.length∧A9 v6 o1 g7 a_.2.length∧v=(.agg [(.int .i64 r.ID),(.int .i64 r.Many),(.int .i64 r.Term),(.int .i64 r.Vote),(.sl 2 (List.map Ah r.Log)),(.int .i64 0),(.int .i64 r.Commit),v5,v6])∧h'=hp h0 [o0,o1] [A5 v5 g6 1 (List.map rB a_.1),A5 v6 g7 1 (List.map (rI .i64) a_.2)]) h0 (J7 r)):=by
 refine Cm (n:=17) 2 Tryz.func29 O (by decide) O O hI0 O fun ids he hI=>?_
 clear hI0
 obtain rfl:ix ids 0=o0:=he 0 rfl
 obtain rfl:ix ids 1=o1:=he 1 rfl
 clear he
 refine B0 (Ax (J7.eq_1 _) ?_)
 refine Az ?_
 refine Ac<|Aa<|Cy (v:=(.agg (Ap r))) (j:=2) hI O O O O O O O fun g=>B9 (j:=3) hI O O O O As O fun g1=>Af<|Az ?_
 refine Ac<|Aa<|Ae (.I 0) O Au<|Af<|Ac<|Ac<|Aa ?_
 refine Al 2 [2] [(5,(.I r.Many))] ?_
 refine Be [(.I r.Many),(.I 0),(.I 5)] O O O O ((Fc r.Many 0 5) _) (fun v _=>Ca (K:=2) (N:=2) Tryz.func29 hI) fun r1 _=>Af<|Cp O (fun hc=>?_) (fun hc=>?_)
 ·refine Aa<|Al 3 [2] [(3,(.I r.Many))] ?_
  refine Af<|Ac<|Aa<|Ae (.ptr (ix ids 2) g 0 5) O (Aj (Ag (c:=0) (off:=5) (i:=5) As O Av O))<|A4 (A6 (v:=(.I 0)) hI O O O O Av O O O O O)<|Af<|Az ?_
  refine Ac<|Aa<|Ae (.I r.Many) O Ab<|G6 fun hl=>P5 (y:=(false:Bool)) (e:=rB) (st:=1) (j:=0) hI O O O O Cn Gm O O hl.1 hl.2.1 hl.2.2 O O O O O fun v1 g2 vH=>Ae (.ptr (ix ids 2) g 0 7) O (Aj (Ag (c:=0) (off:=7) (i:=7) As O Cn O))<|A4 (B8 vH hI O O O O Cn O O O) ?_
  refine Af<|Az ?_
  refine Ac<|Aa<|Ae (.I r.Many) O Ab<|G6 fun hl1=>P5 (y:=(0:Int)) (e:=(rI .i64)) (st:=1) (j:=1) hI O O O O Bt Av O O hl1.1 hl1.2.1 hl1.2.2 O O O O O fun v2 g3 vH1=>Ae (.ptr (ix ids 2) g 0 8) O (Aj (Ag (c:=0) (off:=8) (i:=8) As O Bt O))<|A4 (B8 vH1 hI O O O O Bt O O O) ?_
  refine Af<|Az ?_
  refine Ac<|Aa<|Al 1 [2] [(16,(.agg [(.I r.ID),(.I r.Many),(.I r.Term),(.I r.Vote),(.sl 2 (List.map Ah r.Log)),(.I 0),(.I r.Commit),v1,v2]))] ?_
  refine A4 (A6 (v:=(.agg [(.I r.ID),(.I r.Many),(.I r.Term),(.I r.Vote),(.sl 2 (List.map Ah r.Log)),(.I 0),(.I r.Commit),v1,v2])) hI O O O O As O O O O (Ao O (Ao O (Ao O (Ao O (Ao O (Ao O (Ao O (Ao (A9.flat vH) (Ao (A9.flat vH1) Do))))))))))<|Af<|Az ?_
  exact En (K:=2) (N:=2) (a:=((List.replicate (Int.toNat r.Many) false),(List.replicate (Int.toNat r.Many) (0:Int)))) (vs:=[(.agg [(.I r.ID),(.I r.Many),(.I r.Term),(.I r.Vote),(.sl 2 (List.map Ah r.Log)),(.I 0),(.I r.Commit),v1,v2])]) [A5 v1 g2 1 (List.map rB (List.replicate (Int.toNat r.Many) false)),A5 v2 g3 1 (List.map (rI .i64) (List.replicate (Int.toNat r.Many) (0:Int)))] Tryz.func29 hI O (By (Aq hI O O O As O) Cd) O (.keep (.keep (.drop (.drop .nil)))) (.same _) ⟨v1,g2,v2,g3,vH,vH1,O,O⟩
 refine Bd<|Ac<|Aa<|Ae (.ptr (ix ids 2) g 0 5) O (Aj (Ag (c:=0) (off:=5) (i:=5) As O Av O))<|A4 (A6 (v:=(.I 0)) hI O O O O Av O O O O O)<|Af<|Az ?_
 refine Ac<|Aa<|Ae (.I 0) O Ab<|G6 fun hl2=>P5 (y:=(false:Bool)) (e:=rB) (st:=1) (j:=0) hI O O O O Cn Gm O O hl2.1 hl2.2.1 hl2.2.2 O O O O O fun v3 g4 vH2=>Ae (.ptr (ix ids 2) g 0 7) O (Aj (Ag (c:=0) (off:=7) (i:=7) As O Cn O))<|A4 (B8 vH2 hI O O O O Cn O O O) ?_
 refine Af<|Az ?_
 refine Ac<|Aa<|Ae (.I 0) O Ab<|G6 fun hl3=>P5 (y:=(0:Int)) (e:=(rI .i64)) (st:=1) (j:=1) hI O O O O Bt Av O O hl3.1 hl3.2.1 hl3.2.2 O O O O O fun v4 g5 vH3=>Ae (.ptr (ix ids 2) g 0 8) O (Aj (Ag (c:=0) (off:=8) (i:=8) As O Bt O))<|A4 (B8 vH3 hI O O O O Bt O O O) ?_
 refine Af<|Az ?_
 refine Ac<|Aa<|Al 1 [2] [(16,(.agg [(.I r.ID),(.I r.Many),(.I r.Term),(.I r.Vote),(.sl 2 (List.map Ah r.Log)),(.I 0),(.I r.Commit),v3,v4]))] ?_
 refine A4 (A6 (v:=(.agg [(.I r.ID),(.I r.Many),(.I r.Term),(.I r.Vote),(.sl 2 (List.map Ah r.Log)),(.I 0),(.I r.Commit),v3,v4])) hI O O O O As O O O O (Ao O (Ao O (Ao O (Ao O (Ao O (Ao O (Ao O (Ao (A9.flat vH2) (Ao (A9.flat vH3) Do))))))))))<|Af<|Az ?_
 exact En (K:=2) (N:=2) (a:=((List.replicate (Int.toNat 0) false),(List.replicate (Int.toNat 0) (0:Int)))) (vs:=[(.agg [(.I r.ID),(.I r.Many),(.I r.Term),(.I r.Vote),(.sl 2 (List.map Ah r.Log)),(.I 0),(.I r.Commit),v3,v4])]) [A5 v3 g4 1 (List.map rB (List.replicate (Int.toNat 0) false)),A5 v4 g5 1 (List.map (rI .i64) (List.replicate (Int.toNat 0) (0:Int)))] Tryz.func29 hI O (By (Aq hI O O O As O) Cd) O (.keep (.keep (.drop (.drop .nil)))) (.same _) ⟨v3,g4,v4,g5,vH2,vH3,O,O⟩
theorem X9 (rID:Int)(rMany:Int)(rTerm:Int)(rVote:Int)(rLog:List Record)(rRole:Int)(rCommit:Int)(rVotes:List Bool)(l:List Int)(h0:Ai)(o0:Nat)(v1:AV)(g:Nat)(vH:A9 v1 o0 g l.length)(hI0:Ids h0 [o0] 1):Ks rID rMany rTerm rVote rLog rRole rCommit rVotes l≠.bad→Bv Tryz.prog 40 [(.agg [(.int .i64 rID),(.int .i64 rMany),(.int .i64 rTerm),(.int .i64 rVote),(.sl 2 (List.map Ah rLog)),(.int .i64 rRole),(.int .i64 rCommit),(.sl 1 (List.map rB rVotes)),v1])] (hp h0 [o0] [A5 v1 g 1 (List.map (rI .i64) l)]) (Ei (fun a_ v h' => ∃ (v6:AV),∃ (g7:Nat),A9 v6 o0 g7 a_.2.length∧v=(.agg [(.int .i64 rID),(.int .i64 rMany),(.int .i64 rTerm),(.int .i64 rVote),(.sl 2 (List.map Ah rLog)),(.int .i64 rRole),(.int .i64 a_.1),(.sl 1 (List.map rB rVotes)),v6])∧h'=hp h0 [o0] [A5 v6 g7 1 (List.map (rI .i64) a_.2)]) h0 (Ks rID rMany rTerm rVote rLog rRole rCommit rVotes l)):=by
 refine Cm (n:=51) 2 Tryz.func40 O (by decide) O O hI0 O fun ids he hI=>?_
 clear hI0
 obtain rfl:ix ids 0=o0:=he 0 rfl
 clear he
 refine B0 (Ax (Ks.eq_1 _ _ _ _ _ _ _ _ _) ?_)
 refine Az ?_
 refine Ac<|Aa<|Cy (v:=(.agg [(.I rID),(.I rMany),(.I rTerm),(.I rVote),(.sl 2 (List.map Ah rLog)),(.I rRole),(.I rCommit),(.sl 1 (List.map rB rVotes)),v1])) (j:=1) hI O O O O O O (Ao O (Ao O (Ao O (Ao O (Ao O (Ao O (Ao O (Ao O (Ao (A9.flat vH) Do))))))))) fun g1=>B9 (j:=2) hI O O O O As O fun g2=>Af<|Az ?_
 refine Ac<|Ac<|Aa<|Al 2 [1] [(7,(.sl 2 (List.map Ah rLog)))] ?_
 refine Ae (.I (rLog.length:Int)) O (Bm (Bo Ba))<|Ae (.I (rLog.length:Int)) O Au<|Af<|Dn (fun l4=>Me rCommit l4) (fun l4=>fun(fr:Nat→AV) (h:Ai) => ∃ (v5:AV),∃ (g6:Nat),A9 v5 (ix ids 0) g6 l4.length∧fr=A0 [(1,(.q ids 1 g1)),(2,(.q ids 2 g2))]∧h=hp h0 ids [(A5 v5 g6 1 (List.map (rI .i64) l4)),(some (.rows g1 9 [[(.I rID),(.I rMany),(.I rTerm),(.I rVote),(.sl 2 (List.map Ah rLog)),(.I rRole),(.I rCommit),(.sl 1 (List.map rB rVotes)),v5]])),(some (.rows g2 9 [[(.I 0),(.I 0),(.I 0),(.I 0),.emp,(.I 0),(.I 0),.emp,.emp]]))]) ?_ fun hJ2=>?_
 ·rintro l4 fr h ⟨v5,g6,vH4,rfl,rfl⟩
  refine Ax (Me.eq_1 _ _)<|Ac<|Aa<|Al 1 [1] [(50,(.agg [(.I rID),(.I rMany),(.I rTerm),(.I rVote),(.sl 2 (List.map Ah rLog)),(.I rRole),(.I rCommit),(.sl 1 (List.map rB rVotes)),v5]))] ?_
  refine A4 (A6 (v:=(.agg [(.I rID),(.I rMany),(.I rTerm),(.I rVote),(.sl 2 (List.map Ah rLog)),(.I rRole),(.I rCommit),(.sl 1 (List.map rB rVotes)),v5])) hI O O O O As O O O O (Ao O (Ao O (Ao O (Ao O (Ao O (Ao O (Ao O (Ao O (Ao (A9.flat vH4) Do))))))))))<|Af<|Az ?_
  exact En (K:=1) (N:=2) (a:=(rCommit,l4)) (vs:=[(.agg [(.I rID),(.I rMany),(.I rTerm),(.I rVote),(.sl 2 (List.map Ah rLog)),(.I rRole),(.I rCommit),(.sl 1 (List.map rB rVotes)),v5])]) [A5 v5 g6 1 (List.map (rI .i64) l4)] Tryz.func40 hI O (By (Aq hI O O O As O) Cd) O (.keep (.drop (.drop .nil))) (.same _) ⟨v5,g6,vH4,O,O⟩
 refine Bn<|Ft [(1,(.q ids 1 g1)),(2,(.q ids 2 g2)),(3,(.I (rLog.length:Int)))] (FI O)<|I0 (P:=Tryz.prog) (D1 fun n l1=>Ep rMany rTerm rLog rCommit n l1) ((F4 (fun l4=>Me rCommit l4) (fun r=>.ok r)):((List Int) ⊕ (Int×(List Int)))→R (Int×(List Int))) (D1 fun n l1=>fun(fr:Nat→AV) (h:Ai) => ∃ (v2:AV),∃ (g3:Nat),A9 v2 (ix ids 0) g3 l1.length∧fr=A0 [(1,(.q ids 1 g1)),(2,(.q ids 2 g2)),(3,(.I n))]∧h=hp h0 ids [(A5 v2 g3 1 (List.map (rI .i64) l1)),(some (.rows g1 9 [[(.I rID),(.I rMany),(.I rTerm),(.I rVote),(.sl 2 (List.map Ah rLog)),(.I rRole),(.I rCommit),(.sl 1 (List.map rB rVotes)),v2]])),(some (.rows g2 9 [[(.I 0),(.I 0),(.I 0),(.I 0),.emp,(.I 0),(.I 0),.emp,.emp]]))]) ((rLog.length:Int),l) ?_ ?_
 ·exact⟨v1,g,vH,O,O⟩
 rintro vW hW ⟨n,l1⟩ fr h ⟨v2,g3,vH1,rfl,rfl⟩
 refine Ax (m':=Ep rMany rTerm rLog rCommit n l1) O (Ax (Ep.eq_1 _ _ _ _ _ _) ?_)
 refine Ac<|Ac<|Aa<|Al 4 [1] [(12,(.bool (decide (n > rCommit))))] ?_
 refine Af<|Gf O (fun hc=>?_) (fun hc=>?_)
 ·refine Bd<|Ac<|Bn<|Ac<|Aa<|Ae (.I 0) O Au<|Af ?_
  refine Ac<|Ac<|Aa<|Ae (.I 0) O Au<|Af<|Dn (D1 fun many1 l3=>Kg rMany rTerm rLog n many1 l3) (D1 fun many1 l3=>fun(fr:Nat→AV) (h:Ai) => ∃ (v4:AV),∃ (g5:Nat),A9 v4 (ix ids 0) g5 l3.length∧fr=A0 [(1,(.q ids 1 g1)),(2,(.q ids 2 g2)),(3,(.I n)),(4,(.I many1))]∧h=hp h0 ids [(A5 v4 g5 1 (List.map (rI .i64) l3)),(some (.rows g1 9 [[(.I rID),(.I rMany),(.I rTerm),(.I rVote),(.sl 2 (List.map Ah rLog)),(.I rRole),(.I rCommit),(.sl 1 (List.map rB rVotes)),v4]])),(some (.rows g2 9 [[(.I 0),(.I 0),(.I 0),(.I 0),.emp,(.I 0),(.I 0),.emp,.emp]]))]) ?_ fun hJ1=>?_
  ·rintro⟨many1,l3⟩ fr h ⟨v4,g5,vH3,rfl,rfl⟩
   refine Ax (Kg.eq_1 _ _ _ _ _ _)<|Ac<|Dn (fun x=>I6 n l3 x) (fun x=>fun(fr:Nat→AV) (h:Ai)=>fr=A0 [(1,(.q ids 1 g1)),(2,(.q ids 2 g2)),(3,(.I n)),(46,(.bool x))]∧h=hp h0 ids [(A5 v4 g5 1 (List.map (rI .i64) l3)),(some (.rows g1 9 [[(.I rID),(.I rMany),(.I rTerm),(.I rVote),(.sl 2 (List.map Ah rLog)),(.I rRole),(.I rCommit),(.sl 1 (List.map rB rVotes)),v4]])),(some (.rows g2 9 [[(.I 0),(.I 0),(.I 0),(.I 0),.emp,(.I 0),(.I 0),.emp,.emp]]))]) ?_ fun hJ=>?_
   ·rintro x fr h ⟨rfl,rfl⟩
    refine Ax (I6.eq_1 _ _ _)<|Cp O (fun hc3=>?_) (fun hc3=>?_)
    ·refine Ac<|Aa<|Al 2 [] [(48,(.ptr (ix ids 1) g1 0 6)),(47,(.I n))] ?_
     refine A4 (A6 (v:=(.I n)) hI O O O O Av O O O O O)<|Af<|Az ?_
     refine Ac<|Aa<|Al 1 [1] [(49,(.agg [(.I rID),(.I rMany),(.I rTerm),(.I rVote),(.sl 2 (List.map Ah rLog)),(.I rRole),(.I n),(.sl 1 (List.map rB rVotes)),v4]))] ?_
     refine A4 (A6 (v:=(.agg [(.I rID),(.I rMany),(.I rTerm),(.I rVote),(.sl 2 (List.map Ah rLog)),(.I rRole),(.I n),(.sl 1 (List.map rB rVotes)),v4])) hI O O O O As O O O O (Ao O (Ao O (Ao O (Ao O (Ao O (Ao O (Ao O (Ao O (Ao (A9.flat vH3) Do))))))))))<|Af<|Az ?_
     refine H6<|Mb<|En (K:=1) (N:=2) (a:=(n,l3)) (vs:=[(.agg [(.I rID),(.I rMany),(.I rTerm),(.I rVote),(.sl 2 (List.map Ah rLog)),(.I rRole),(.I n),(.sl 1 (List.map rB rVotes)),v4])]) [A5 v4 g5 1 (List.map (rI .i64) l3)] Tryz.func40 hI O (By (Aq hI O O O As O) Cd) O (.keep (.drop (.drop .nil))) (.same _) ⟨v4,g5,vH3,O,O⟩
    refine Bd<|Bp<|Aa<|Al 3 [] [(3,(.I (IntKind.wrap .i64 (n - 1))))] ?_
    refine Af<|Bk (Gp (hW ((IntKind.wrap .i64 (n - 1)),l3) _ _ ⟨v4,g5,vH3,O,O⟩))
   refine B4 Da [[],[0],[],[2],[0,1,2,3],[0,1,2,3,4],[0,1,2,3,4,5],[0,1,2,3,4,5,6],[0,1,2,3,4,5],[0,1,2,3,4,5,8],[0,1,2,3,4,5,6,7,8,9],[0,1,2,3,4,5,6,7,8,9,10],[0,1,2,3,4,5,6,7,8,9,10,11],[0,1,2,3,4,5],[0,1,2,3,4,5,13],[0,1,2,3,4,5,6,7,8,9,10,11,12,13,14],[0,1,2,3,4,5,6,7,8,9,10,11,12,13,14,15]] [(false,0),(false,1),(false,2),(false,3),(false,4),(false,5),(false,6),(false,7),(false,8),(false,9),(false,10),(false,11),(false,12),(false,13),(false,14),(false,15),(false,16)] (by kernel_rfl)<|Z (.I many1) O O Ab<|Z (.I (IntKind.wrap .i64 (2 * many1))) O O (Bf O O O)<|Z (.ptr (ix ids 1) g1 0 1) O O (Aj (Ag (c:=0) (off:=1) (i:=1) As O Av O))<|Z (.I rMany) O O (An (Aq hI O O O Av O))<|Z (.bool (decide ((IntKind.wrap .i64 (2 * many1)) > rMany))) O O (Bf O O O)<|Z (.bool (decide ((IntKind.wrap .i64 (2 * many1)) > rMany))) O O Ab ?_
   refine Ge (fun hb=>?_) (fun hb=>?_)
   ·refine Ay (tj:=35) (.ptr (ix ids 1) g1 0 4) O O (congrArg AV.bool hb) O (Aj (Ag (c:=0) (off:=4) (i:=4) As O Ba O))<|Ay (tj:=35) (.sl 2 (List.map Ah rLog)) O O (congrArg AV.bool hb) O (An (Aq hI O O O Ba O))<|Ay (tj:=35) (.I n) O O (congrArg AV.bool hb) O Ab<|Ay (tj:=35) (.I (IntKind.wrap .i64 (n - 1))) O O (congrArg AV.bool hb) O (Bf O O O)<|G0 fun a1 hz1 hx2=>Ay (tj:=35) (.cp (Ah a1) 0) O O (congrArg AV.bool hb) O (Bu (E6 Ba C2 O hz1 hx2))<|Ay (tj:=35) (.cp (Ah a1) 0) O O (congrArg AV.bool hb) O (Aj (N7 (c:=0) (off:=0) (i:=0) C2 O Av O)) ?_
    refine Ay (tj:=35) (.I a1.Term) O O (congrArg AV.bool hb) O (An (Eh Av O))<|Ay (tj:=35) (.ptr (ix ids 1) g1 0 2) O O (congrArg AV.bool hb) O (Aj (Ag (c:=0) (off:=2) (i:=2) As O Av O))<|Ay (tj:=35) (.I rTerm) O O (congrArg AV.bool hb) O (An (Aq hI O O O Av O))<|Ay (tj:=35) (.bool (a1.Term==rTerm)) O O (congrArg AV.bool hb) O (Bf O O O)<|Z (.bool (a1.Term==rTerm)) O O (Bw (t:=true) (congrArg AV.bool hb) O)<|Bb<|Bk (hJ (a1.Term==rTerm) _ _ ⟨O,O⟩)
   refine A2 (tj:=35) (b:=false) O O (congrArg AV.bool hb) O O<|A2 (tj:=35) (b:=false) O O (congrArg AV.bool hb) O O<|A2 (tj:=35) (b:=false) O O (congrArg AV.bool hb) O O<|A2 (tj:=35) (b:=false) O O (congrArg AV.bool hb) O O<|A2 (tj:=35) (b:=false) O O (congrArg AV.bool hb) O O<|A2 (tj:=35) (b:=false) O O (congrArg AV.bool hb) O O<|A2 (tj:=35) (b:=false) O O (congrArg AV.bool hb) O O ?_
   refine A2 (tj:=35) (b:=false) O O (congrArg AV.bool hb) O O<|A2 (tj:=35) (b:=false) O O (congrArg AV.bool hb) O O<|A2 (tj:=35) (b:=false) O O (congrArg AV.bool hb) O O<|Z (.bool false) O O (Bw (t:=false) (congrArg AV.bool hb) O)<|Bb<|Bk (hJ false _ _ ⟨O,O⟩)
  refine Bn<|Ft [(1,(.q ids 1 g1)),(2,(.q ids 2 g2)),(3,(.I n)),(4,(.I 0)),(5,(.I 0))] (FI O)<|I0 (P:=Tryz.prog) (Lt fun many i l2=>E8 rMany n many i l2) ((D1 fun many1 l3=>Kg rMany rTerm rLog n many1 l3):(Int×(List Int))→R ((Int×(List Int)) ⊕ ((List Int) ⊕ (Int×(List Int))))) (Lt fun many i l2=>fun(fr:Nat→AV) (h:Ai) => ∃ (v3:AV),∃ (g4:Nat),A9 v3 (ix ids 0) g4 l2.length∧fr=A0 [(1,(.q ids 1 g1)),(2,(.q ids 2 g2)),(3,(.I n)),(4,(.I many)),(5,(.I i))]∧h=hp h0 ids [(A5 v3 g4 1 (List.map (rI .i64) l2)),(some (.rows g1 9 [[(.I rID),(.I rMany),(.I rTerm),(.I rVote),(.sl 2 (List.map Ah rLog)),(.I rRole),(.I rCommit),(.sl 1 (List.map rB rVotes)),v3]])),(some (.rows g2 9 [[(.I 0),(.I 0),(.I 0),(.I 0),.emp,(.I 0),(.I 0),.emp,.emp]]))]) (0,0,l1) ?_ ?_
  ·exact⟨v2,g3,vH1,O,O⟩
  rintro vW1 hW1 ⟨many,i,l2⟩ fr h ⟨v3,g4,vH2,rfl,rfl⟩
  refine Ax (m':=E8 rMany n many i l2) O (Ax (E8.eq_1 _ _ _ _ _) ?_)
  refine Ac<|Ac<|Aa<|Al 4 [1] [(18,(.bool (decide (i<rMany))))] ?_
  refine Af<|Gf O (fun hc1=>?_) (fun hc1=>?_)
  ·refine Bd<|Ac<|Bn<|Ac<|Aa<|Al 3 [1] [(23,(.I i)),(22,v3)] ?_
   refine Gy fun a hz hx1=>Ae (.ptr (ix ids 0) g4 i.toNat 0) O (Bu (J5 hI O vH2 O Bt Av O hz hx1))<|Ae (.I a) O (An (We hI O vH2 O hx1 Av O))<|Al 2 [] [(27,(.bool (decide (a≥n))))] ?_
   refine Af<|Gf O (fun hc2=>?_) (fun hc2=>?_)
   ·refine Aa<|Al 3 [] [(4,(.I (IntKind.wrap .i64 (many+1))))] ?_
    refine Af<|Bp<|Aa<|Al 3 [] [(5,(.I (IntKind.wrap .i64 (i+1))))] ?_
    refine Af<|Bk (Gp (hW1 ((IntKind.wrap .i64 (many+1)),(IntKind.wrap .i64 (i+1)),l2) _ _ ⟨v3,g4,vH2,O,O⟩))
   refine Bd<|Bp<|Aa<|Al 3 [] [(5,(.I (IntKind.wrap .i64 (i+1))))] ?_
   refine Af<|Bk (Gp (hW1 (many,(IntKind.wrap .i64 (i+1)),l2) _ _ ⟨v3,g4,vH2,O,O⟩))
  refine Ea O<|H6<|Bk (hJ1 (many,l2) _ _ ⟨v3,g4,vH2,O,O⟩)
 refine Ea O<|H6<|Aav<|Bk (hJ2 l1 _ _ ⟨v2,g3,vH1,O,O⟩)
theorem Zo (r:Replica)(m:Message):CPO Tryz.prog 34 [(.agg (Ap r)),(.agg (Ak m))] (Nh r m) 10 Ak:=by
 refine Rc (n:=31) 2 Tryz.func34 O (by decide) O O fun h0 ids hI=>B0 (Ax (Nh.eq_1 _ _) ?_)
 refine Ac<|Aa<|Cy (v:=(.agg (Ap r))) (j:=1) hI O O O O O O O fun g=>Cy (v:=(.agg (Ak m))) (j:=2) hI O O O O O O O fun g1=>Ae .emp O Au<|Af<|Az ?_
 refine Ac<|Aa<|Ug O Ct Bx<|Ae .emp O Au<|Af<|Ac<|Ac ?_
 refine Aa<|Ae (.I 0) O Au<|Af<|Dn (fun l1=>Mi l1) (fun l1=>fun(fr:Nat→AV) (h:Ai) => ∃ (v2:AV),∃ (g4:Nat),A9 v2 (ix ids 0) g4 l1.length∧fr=A0 [(5,v2)]∧h=hp h0 ids [(A5 v2 g4 10 (List.map Ak l1)),none,none]) ?_ fun hJ=>?_
 ·rintro l1 fr h ⟨v2,g4,vH2,rfl,rfl⟩
  refine Ax (Mi.eq_1 _)<|Ac<|Aa<|Al 2 [] [(4,v2)] ?_
  refine Af<|Pv (a:=l1) (v:=v2) (g:=g4) Tryz.func34 hI O O vH2 O
 refine Bn<|Ft [(2,(.q ids 1 g)),(3,(.q ids 2 g1)),(5,.emp),(6,(.I 0))] (FI O)<|I0 (P:=Tryz.prog) (Rz fun i l vFrom vTo vTerm=>Kr r m i l vFrom vTo vTerm) ((fun l1=>Mi l1):(List Message)→R (List Message)) (Rz fun i l vFrom vTo vTerm=>fun(fr:Nat→AV) (h:Ai) => ∃ (v:AV),∃ (g2:Nat),A9 v (ix ids 0) g2 l.length∧fr=A0 [(2,(.q ids 1 g)),(3,(.q ids 2 g1)),(5,v),(6,(.I i))]∧h=hp h0 ids [(A5 v g2 10 (List.map Ak l)),(some (.rows g 9 [(Ap r)])),(some (.rows g1 10 [[(.I m.Kind),(.I vFrom),(.I vTo),(.I vTerm),(.I m.Last),(.I m.LastTerm),(.sl 2 (List.map Ah m.Log)),(.I m.Commit),(.I m.Match),(.bool m.Granted)]]))]) (0,[],m.From,m.To,m.Term) ?_ ?_
 ·exact⟨.emp,0,.nil,O,O⟩
 rintro vW hW ⟨i,l,vFrom,vTo,vTerm⟩ fr h ⟨v,g2,vH,rfl,rfl⟩
 refine Ax (m':=Kr r m i l vFrom vTo vTerm) O (Ax (Kr.eq_1 _ _ _ _ _ _ _) ?_)
 refine Ac<|Ac<|Aa<|Al 4 [1] [(11,(.bool (decide (i<r.Many))))] ?_
 refine Af<|Gf O (fun hc=>?_) (fun hc=>?_)
 ·refine Bd<|Ac<|Bn<|Ac<|Aa<|Al 4 [1] [(17,(.bool (i != r.ID)))] ?_
  refine Af<|Cp O (fun hc1=>?_) (fun hc1=>?_)
  ·refine Ac<|Aa<|Al 3 [1] [(20,(.ptr (ix ids 2) g1 0 1)),(19,(.I r.ID))] ?_
   refine A4 (A6 (v:=(.I r.ID)) hI O O O O Av O O O O O)<|Af<|Az ?_
   refine Ac<|Aa<|Al 2 [] [(22,(.ptr (ix ids 2) g1 0 2)),(21,(.I i))] ?_
   refine A4 (A6 (v:=(.I i)) hI O O O O Av O O O O O)<|Af<|Az ?_
   refine Ac<|Aa<|Al 3 [1] [(25,(.ptr (ix ids 2) g1 0 3)),(24,(.I r.Term))] ?_
   refine A4 (A6 (v:=(.I r.Term)) hI O O O O Av O O O O O)<|Af<|Az ?_
   refine Aa<|Al 2 [2] [(27,(.agg [(.I m.Kind),(.I r.ID),(.I i),(.I r.Term),(.I m.Last),(.I m.LastTerm),(.sl 2 (List.map Ah m.Log)),(.I m.Commit),(.I m.Match),(.bool m.Granted)])),(26,v)] ?_
   refine Sf (e:=Ak) (L:=[({ Kind:=m.Kind,From:=r.ID,To:=i,Term:=r.Term,Last:=m.Last,LastTerm:=m.LastTerm,Log:=m.Log,Commit:=m.Commit,Match:=m.Match,Granted:=m.Granted }:Message)]) (st:=10) (rows:=[[(.I m.Kind),(.I r.ID),(.I i),(.I r.Term),(.I m.Last),(.I m.LastTerm),(.sl 2 (List.map Ah m.Log)),(.I m.Commit),(.I m.Match),(.bool m.Granted)]]) O Ct Bx O O O O O (.cons (.cons (.same _) (.cons (.same _) (.cons (.same _) (.cons (.same _) (.cons (.same _) (.cons (.same _) (.cons (.same _) (.cons (.same _) (.cons (.same _) (.cons (.same _) .nil)))))))))) .nil) (fun x=>F9 x) O O<|G6 fun hl=>Kh (e:=Ak) (L:=l) (L2:=[({ Kind:=m.Kind,From:=r.ID,To:=i,Term:=r.Term,Last:=m.Last,LastTerm:=m.LastTerm,Log:=m.Log,Commit:=m.Commit,Match:=m.Match,Granted:=m.Granted }:Message)]) (v:=v) (g:=g2) (st:=10) (j:=0) hI O O O O vH O (Fe O) Ct Ct O Bx O O O hl fun v1 g3 vH1=>Ae v1 O Au<|Af<|Az ?_
   refine Bp<|Aa<|Al 3 [] [(6,(.I (IntKind.wrap .i64 (i+1))))] ?_
   refine Af<|Bk (Gp (hW ((IntKind.wrap .i64 (i+1)),(l++[({ Kind:=m.Kind,From:=r.ID,To:=i,Term:=r.Term,Last:=m.Last,LastTerm:=m.LastTerm,Log:=m.Log,Commit:=m.Commit,Match:=m.Match,Granted:=m.Granted }:Message)]),r.ID,i,r.Term) _ _ ⟨v1,g3,vH1,O,O⟩))
  refine Bd<|Bp<|Aa<|Al 3 [] [(6,(.I (IntKind.wrap .i64 (i+1))))] ?_
  refine Af<|Bk (Gp (hW ((IntKind.wrap .i64 (i+1)),l,vFrom,vTo,vTerm) _ _ ⟨v,g2,vH,O,O⟩))
 refine Ea O<|H6<|Ex [(A5 v g2 10 (List.map Ak l)),none,none] hI O (.keep (.drop (.drop .nil)))<|Bk (hJ l _ _ ⟨v,g2,vH,O,O⟩)
theorem Abc (r:Replica)(m:Message):CP Tryz.prog 34 [(.agg (Ap r)),(.agg (Ak m))] (Nh r m) (fun(x:List Message)=>(AV.sl 10 (List.map Ak x))):=(Zo r m).cp (fun x=>F9 x)
theorem W9 (r:Replica):CP Tryz.prog 41 [(.agg (Ap r))] (Pp r) (fun(x:List Message)=>(AV.sl 10 (List.map Ak x))):=by
 refine C7 (n:=10) 1 Tryz.func41 O (by decide) O O fun h0 ids hI=>B0 (Ax (Pp.eq_1 _) ?_)
 refine Ac<|Aa<|Cy (v:=(.agg (Ap r))) (j:=0) hI O O O O O O O fun g=>Ae .emp O Au<|Af<|Az ?_
 refine Ac<|Aa<|Al 6 [0,0,0] [(8,(.agg [(.I 3),(.I 0),(.I 0),(.I 0),(.I 0),(.I 0),(.sl 2 (List.map Ah r.Log)),(.I r.Commit),(.I 0),(.bool false)])),(3,(.agg (Ap r)))] ?_
 refine Be [(.agg (Ap r)),(.agg [(.I 3),(.I 0),(.I 0),(.I 0),(.I 0),(.I 0),(.sl 2 (List.map Ah r.Log)),(.I r.Commit),(.I 0),(.bool false)])] O O O O (fun hb=>Bv.weak (.cons (.same _) (.cons (.aggL (.cons (.same _) (.cons (.same _) (.cons (.same _) (.cons (.same _) (.cons (.same _) (.cons (.same _) (.cons (.same _) (.cons (.same _) (.cons (.same _) (.cons (.same _) .nil))))))))))) .nil)) ((Abc r ({ Kind:=3,From:=0,To:=0,Term:=0,Last:=0,LastTerm:=0,Log:=r.Log,Commit:=r.Commit,Match:=0,Granted:=false }:Message)) _ hb)) (fun v _=>Bh Tryz.func41 hI) fun r1 _=>Ae (.sl 10 (List.map Ak r1)) O Au<|Af<|B3 (a:=r1) (vs:=[(.sl 10 (List.map Ak r1))]) Tryz.func41 hI O (.same _)
theorem Aao (r:Replica):CP Tryz.prog 33 [(.agg (Ap r))] (Ns r) (fun(p:(Replica×(List Message)))=>AV.tup [(.agg (Ap p.1)),(.sl 10 (List.map Ak p.2))]):=by
 refine C7 (n:=22) 3 Tryz.func33 O (by decide) O O fun h0 ids hI=>B0 (Ax (Ns.eq_1 _) ?_)
 refine Ac<|Aa<|Cy (v:=(.agg (Ap r))) (j:=0) hI O O O O O O O fun g=>B9 (j:=1) hI O O O O As O fun g1=>Ae .emp O Au<|Af<|Az ?_
 refine Ac<|Aa<|Ae (.ptr (ix ids 0) g 0 5) O (Aj (Ag (c:=0) (off:=5) (i:=5) As O Av O))<|A4 (A6 (v:=(.I 2)) hI O O O O Av O O O O O)<|Af<|Az ?_
 refine Ac<|Aa<|Al 2 [0] [(6,(.I r.Many))] ?_
 refine G6 fun hl=>P5 (y:=(0:Int)) (e:=(rI .i64)) (st:=1) (j:=2) hI O O O O Bt Av O O hl.1 hl.2.1 hl.2.2 O O O O O fun v g2 vH=>Ae (.ptr (ix ids 0) g 0 8) O (Aj (Ag (c:=0) (off:=8) (i:=8) As O Bt O))<|A4 (B8 vH hI O O O O Bt O O O)<|Af<|Az ?_
 refine Ac<|Aa<|Al 6 [0,0,0] [(14,(.sl 2 (List.map Ah r.Log))),(12,(.I r.ID)),(10,v)] ?_
 refine Ae (.I (r.Log.length:Int)) O (Bm (Bo Ba))<|Gy fun a hz hx1=>Ae (.ptr (ix ids 2) g2 r.ID.toNat 0) O (Bu (J5 hI O vH O Bt Av O hz hx1))<|A4 (Ro (y:=(r.Log.length:Int)) hI O O vH O hx1 Av O O O O O O) ?_
 have vH1:=A9.set (i:=r.ID.toNat) (y:=(r.Log.length:Int)) vH
 have hx2:=List.getElem?_set_self (a:=(r.Log.length:Int)) (B5 hx1)
 refine Af<|Az ?_
 refine Ac<|Aa<|Al 1 [0] [(17,(.agg [(.I r.ID),(.I r.Many),(.I r.Term),(.I r.Vote),(.sl 2 (List.map Ah r.Log)),(.I 2),(.I r.Commit),(.sl 1 (List.map rB r.Votes)),v]))] ?_
 refine Ck [2] hI O O (X9 r.ID r.Many r.Term r.Vote r.Log 2 r.Commit r.Votes ((List.replicate (Int.toNat r.Many) (0:Int)).set r.ID.toNat (r.Log.length:Int)) _ (ix ids 2) v g2 vH1 (by exact hI.sub' O O)) O O O O O O (fun v _=>Bh Tryz.func33 hI) ?_
 rintro r1 _ _ _ ⟨v1,g3,vH2,rfl,rfl⟩
 refine Dz [2] hI O O O ?_
 refine C1<|A4 (A6 (v:=(.agg [(.I r.ID),(.I r.Many),(.I r.Term),(.I r.Vote),(.sl 2 (List.map Ah r.Log)),(.I 2),(.I r1.1),(.sl 1 (List.map rB r.Votes)),v1])) hI O O O O As O O O O (Ao O (Ao O (Ao O (Ao O (Ao O (Ao O (Ao O (Ao O (Ao (A9.flat vH2) Do))))))))))<|Af<|Az ?_
 refine Ac<|Aa3 [(some (.rows g 9 [[(.I r.ID),(.I r.Many),(.I r.Term),(.I r.Vote),(.sl 2 (List.map Ah r.Log)),(.I 2),(.I r1.1),(.sl 1 (List.map rB r.Votes)),(.sl 1 (List.map (rI .i64) r1.2))]])),(some (.rows g1 9 [[(.I 0),(.I 0),(.I 0),(.I 0),.emp,(.I 0),(.I 0),.emp,.emp]])),none] [(1,(.q ids 0 g)),(2,(.q ids 1 g1))] hI O (.fz (.cons (.same _) (.cons (.same _) (.cons (.same _) (.cons (.same _) (.cons (.same _) (.cons (.same _) (.cons (.same _) (.cons (.same _) (.cons (Dd vH2 (hI.at O O) (hI.at O O) (fun x=>Ih x)) .nil))))))))) O O (.keep (.drop .nil))) (.cons (.same _) (.cons (.same _) .nil))<|B4 Da [[],[],[1],[0,1,2],[0,1,2,2,3,3]] [(false,0),(false,1),(true,2),(true,3),(false,4)] (by kernel_rfl)<|Z (.agg [(.I r.ID),(.I r.Many),(.I r.Term),(.I r.Vote),(.sl 2 (List.map Ah r.Log)),(.I 2),(.I r1.1),(.sl 1 (List.map rB r.Votes)),(.sl 1 (List.map (rI .i64) r1.2))]) O O (An (Aq hI O O O As O))<|Z (.agg [(.I r.ID),(.I r.Many),(.I r.Term),(.I r.Vote),(.sl 2 (List.map Ah r.Log)),(.I 2),(.I r1.1),(.sl 1 (List.map rB r.Votes)),(.sl 1 (List.map (rI .i64) r1.2))]) O O (An (Aq hI O O O As O))<|Dy [(.agg [(.I r.ID),(.I r.Many),(.I r.Term),(.I r.Vote),(.sl 2 (List.map Ah r.Log)),(.I 2),(.I r1.1),(.sl 1 (List.map rB r.Votes)),(.sl 1 (List.map (rI .i64) r1.2))])] O O O O O (fun hb=>Bv.weak (.cons (.aggL (.cons (.same _) (.cons (.same _) (.cons (.same _) (.cons (.same _) (.cons (.same _) (.cons (.same _) (.cons (.same _) (.cons (.same _) (.cons (.same _) .nil)))))))))) .nil) ((W9 ({ ID:=r.ID,Many:=r.Many,Term:=r.Term,Vote:=r.Vote,Log:=r.Log,Role:=2,Commit:=r1.1,Votes:=r.Votes,Match:=r1.2 }:Replica)) _ hb)) (fun v _ _ _=>Bh Tryz.func33 hI) (Y O (Ad O (An (Aq hI O O O As O)) At)) fun r2 _=>Bi O (fun _ _=>O) (fun K hK=>A3 (A6 (v:=(.agg [(.I r.ID),(.I r.Many),(.I r.Term),(.I r.Vote),(.sl 2 (List.map Ah r.Log)),(.I 2),(.I r1.1),(.sl 1 (List.map rB r.Votes)),(.sl 1 (List.map (rI .i64) r1.2))])) hI O O O O As O O O O O) (hK _ _ (Y O (Y O At)) ?_))
 clear hK K
 refine Z (.sl 10 (List.map Ak r2)) O O Au<|Bb<|Az ?_
 exact B3 (a:=(({ ID:=r.ID,Many:=r.Many,Term:=r.Term,Vote:=r.Vote,Log:=r.Log,Role:=2,Commit:=r1.1,Votes:=r.Votes,Match:=r1.2 }:Replica),r2)) (vs:=[(.agg [(.I r.ID),(.I r.Many),(.I r.Term),(.I r.Vote),(.sl 2 (List.map Ah r.Log)),(.I 2),(.I r1.1),(.sl 1 (List.map rB r.Votes)),(.sl 1 (List.map (rI .i64) r1.2))]),(.sl 10 (List.map Ak r2))]) Tryz.func33 hI (By (Aq hI O O O As O) (Cz Cd)) (.tupL (.cons (.aggL (.cons (.same _) (.cons (.same _) (.cons (.same _) (.cons (.same _) (.cons (.same _) (.cons (.same _) (.cons (.same _) (.cons (.same _) (.cons (.same _) .nil)))))))))) (.cons (.same _) .nil)))
theorem Ac0 (l:List Record):CP Tryz.prog 35 [(.sl 2 (List.map Ah l))] (Th l) (fun(x:Int)=>(AV.int .i64 x)):=by
 refine C7 (n:=13) 0 Tryz.func35 O (by decide) O O fun h0 ids hI=>B0 (Ax (Th.eq_1 _) ?_)
 refine Ac<|Aa<|Ae (.I 0) O Au<|Af<|Ac<|Ac<|Aa ?_
 refine Ae (.sl 2 (List.map Ah l)) O Ab<|Ae (.I (l.length:Int)) O (Bm (Bo Ba))<|Ae (.bool ((l.length:Int)==0)) O (Bf O O O)<|Af<|Cp O (fun hc=>?_) (fun hc=>?_)
 ·refine Ac<|Aa<|Ae (.I 0) O Au<|Af<|B3 (a:=0) (vs:=[(.I 0)]) Tryz.func35 hI O (.same _)
 refine Bd<|Ac<|Aa<|Al 2 [] [(7,(.sl 2 (List.map Ah l))),(6,(.sl 2 (List.map Ah l)))] ?_
 refine Ae (.I (l.length:Int)) O (Bm (Bo Ba))<|Ae (.I (IntKind.wrap .i64 ((l.length:Int) - 1))) O (Bf O O O)<|Gy fun a hz hx1=>Ae (.cp (Ah a) 0) O (Bu (E6 Ba C2 O hz hx1))<|Al 3 [] [(2,(.I a.Term))] ?_
 refine Af<|B3 (a:=a.Term) (vs:=[(.I a.Term)]) Tryz.func35 hI O (.same _)
theorem Y7 (rID:Int)(rMany:Int)(rTerm:Int)(rVote:Int)(rLog:List Record)(rRole:Int)(rCommit:Int)(mKind:Int)(mFrom:Int)(mTo:Int)(mTerm:Int)(mLast:Int)(mLastTerm:Int)(mCommit:Int)(mMatch:Int)(mGranted:Bool)(l:List Bool)(l1:List Int)(h0:Ai)(o0:Nat)(o1:Nat)(v1:AV)(g:Nat)(v2:AV)(g1:Nat)(vH:A9 v1 o0 g l.length)(vH1:A9 v2 o1 g1 l1.length)(hI0:Ids h0 [o0,o1] 2):Ka rID rMany rTerm rVote rLog rRole rCommit mKind mFrom mTo mTerm mLast mLastTerm mCommit mMatch mGranted l l1≠.bad→Bv Tryz.prog 34 [(.agg [(.int .i64 rID),(.int .i64 rMany),(.int .i64 rTerm),(.int .i64 rVote),(.sl 2 (List.map Ah rLog)),(.int .i64 rRole),(.int .i64 rCommit),v1,v2]),(.agg [(.int .i64 mKind),(.int .i64 mFrom),(.int .i64 mTo),(.int .i64 mTerm),(.int .i64 mLast),(.int .i64 mLastTerm),.emp,(.int .i64 mCommit),(.int .i64 mMatch),(.bool mGranted)])] (hp h0 [o0,o1] [A5 v1 g 1 (List.map rB l),A5 v2 g1 1 (List.map (rI .i64) l1)]) (Ei (fun a_ v h'=>v=(.sl 10 (List.map Ak a_))∧h'=hp h0 [o0,o1] [A5 v1 g 1 (List.map rB l),A5 v2 g1 1 (List.map (rI .i64) l1)]) h0 (Ka rID rMany rTerm rVote rLog rRole rCommit mKind mFrom mTo mTerm mLast mLastTerm mCommit mMatch mGranted l l1)):=by
 refine Cm (n:=31) 3 Tryz.func34 O (by decide) O O hI0 O fun ids he hI=>?_
 clear hI0
 obtain rfl:ix ids 0=o0:=he 0 rfl
 obtain rfl:ix ids 1=o1:=he 1 rfl
 clear he
 refine B0 (Ax (Ka.eq_1 _ _ _ _ _ _ _ _ _ _ _ _ _ _ _ _ _ _) ?_)
 refine Az ?_
 refine Ac<|Aa<|Cy (v:=(.agg [(.I rID),(.I rMany),(.I rTerm),(.I rVote),(.sl 2 (List.map Ah rLog)),(.I rRole),(.I rCommit),v1,v2])) (j:=2) hI O O O O O O (Ao O (Ao O (Ao O (Ao O (Ao O (Ao O (Ao O (Ao (A9.flat vH) (Ao (A9.flat vH1) Do))))))))) fun g2=>Cy (v:=(.agg [(.I mKind),(.I mFrom),(.I mTo),(.I mTerm),(.I mLast),(.I mLastTerm),.emp,(.I mCommit),(.I mMatch),(.bool mGranted)])) (j:=3) hI O O O O O O O fun g3=>Ae .emp O Au<|Af<|Az ?_
 refine Ac<|Aa<|Ug O Ct Bx<|Ae .emp O Au<|Af<|Ac<|Ac ?_
 refine Aa<|Ae (.I 0) O Au<|Af<|Dn (fun l3=>K0 l3) (fun l3=>fun(fr:Nat→AV) (h:Ai) => ∃ (v5:AV),∃ (g6:Nat),A9 v5 (ix ids 4) g6 l3.length∧fr=A0 [(5,v5)]∧h=hp h0 ids [(A5 v1 g 1 (List.map rB l)),(A5 v2 g1 1 (List.map (rI .i64) l1)),none,none,(A5 v5 g6 10 (List.map Ak l3))]) ?_ fun hJ=>?_
 ·rintro l3 fr h ⟨v5,g6,vH4,rfl,rfl⟩
  refine Ax (K0.eq_1 _)<|Ac<|Aa<|Al 2 [] [(4,v5)] ?_
  refine Af<|En (K:=2) (N:=3) (a:=l3) (vs:=[v5]) [A5 v1 g 1 (List.map rB l),A5 v2 g1 1 (List.map (rI .i64) l1)] Tryz.func34 hI O O O (.keep (.keep (.keep (.keep (.drop .nil))))) (Dd vH4 (hI.at O O) (hI.at O O) (fun x=>F9 x)) ⟨O,O⟩
 refine Bn<|Ft [(2,(.q ids 2 g2)),(3,(.q ids 3 g3)),(5,.emp),(6,(.I 0))] (FI O)<|I0 (P:=Tryz.prog) (Rz fun i vFrom vTo vTerm l2=>E3 rID rMany rTerm mKind mLast mLastTerm mCommit mMatch mGranted i vFrom vTo vTerm l2) ((fun l3=>K0 l3):(List Message)→R (List Message)) (Rz fun i vFrom vTo vTerm l2=>fun(fr:Nat→AV) (h:Ai) => ∃ (v3:AV),∃ (g4:Nat),A9 v3 (ix ids 4) g4 l2.length∧fr=A0 [(2,(.q ids 2 g2)),(3,(.q ids 3 g3)),(5,v3),(6,(.I i))]∧h=hp h0 ids [(A5 v1 g 1 (List.map rB l)),(A5 v2 g1 1 (List.map (rI .i64) l1)),(some (.rows g2 9 [[(.I rID),(.I rMany),(.I rTerm),(.I rVote),(.sl 2 (List.map Ah rLog)),(.I rRole),(.I rCommit),v1,v2]])),(some (.rows g3 10 [[(.I mKind),(.I vFrom),(.I vTo),(.I vTerm),(.I mLast),(.I mLastTerm),.emp,(.I mCommit),(.I mMatch),(.bool mGranted)]])),(A5 v3 g4 10 (List.map Ak l2))]) (0,mFrom,mTo,mTerm,[]) ?_ ?_
 ·exact⟨.emp,0,.nil,O,O⟩
 rintro vW hW ⟨i,vFrom,vTo,vTerm,l2⟩ fr h ⟨v3,g4,vH2,rfl,rfl⟩
 refine Ax (m':=E3 rID rMany rTerm mKind mLast mLastTerm mCommit mMatch mGranted i vFrom vTo vTerm l2) O (Ax (E3.eq_1 _ _ _ _ _ _ _ _ _ _ _ _ _ _) ?_)
 refine Ac<|Ac<|Aa<|Al 4 [2] [(11,(.bool (decide (i<rMany))))] ?_
 refine Af<|Gf O (fun hc=>?_) (fun hc=>?_)
 ·refine Bd<|Ac<|Bn<|Ac<|Aa<|Al 4 [2] [(17,(.bool (i != rID)))] ?_
  refine Af<|Cp O (fun hc1=>?_) (fun hc1=>?_)
  ·refine Ac<|Aa<|Al 3 [2] [(20,(.ptr (ix ids 3) g3 0 1)),(19,(.I rID))] ?_
   refine A4 (A6 (v:=(.I rID)) hI O O O O Av O O O O O)<|Af<|Az ?_
   refine Ac<|Aa<|Al 2 [] [(22,(.ptr (ix ids 3) g3 0 2)),(21,(.I i))] ?_
   refine A4 (A6 (v:=(.I i)) hI O O O O Av O O O O O)<|Af<|Az ?_
   refine Ac<|Aa<|Al 3 [2] [(25,(.ptr (ix ids 3) g3 0 3)),(24,(.I rTerm))] ?_
   refine A4 (A6 (v:=(.I rTerm)) hI O O O O Av O O O O O)<|Af<|Az ?_
   refine Aa<|Al 2 [3] [(27,(.agg [(.I mKind),(.I rID),(.I i),(.I rTerm),(.I mLast),(.I mLastTerm),.emp,(.I mCommit),(.I mMatch),(.bool mGranted)])),(26,v3)] ?_
   refine Sf (e:=Ak) (L:=[({ Kind:=mKind,From:=rID,To:=i,Term:=rTerm,Last:=mLast,LastTerm:=mLastTerm,Log:=[],Commit:=mCommit,Match:=mMatch,Granted:=mGranted }:Message)]) (st:=10) (rows:=[[(.I mKind),(.I rID),(.I i),(.I rTerm),(.I mLast),(.I mLastTerm),.emp,(.I mCommit),(.I mMatch),(.bool mGranted)]]) O Ct Bx O O O O O (.cons (.cons (.same _) (.cons (.same _) (.cons (.same _) (.cons (.same _) (.cons (.same _) (.cons (.same _) (.cons (.emp _) (.cons (.same _) (.cons (.same _) (.cons (.same _) .nil)))))))))) .nil) (fun x=>F9 x) O O<|G6 fun hl=>Kh (e:=Ak) (L:=l2) (L2:=[({ Kind:=mKind,From:=rID,To:=i,Term:=rTerm,Last:=mLast,LastTerm:=mLastTerm,Log:=[],Commit:=mCommit,Match:=mMatch,Granted:=mGranted }:Message)]) (v:=v3) (g:=g4) (st:=10) (j:=4) hI O O O O vH2 O (Fe O) Ct Ct O Bx O O O hl fun v4 g5 vH3=>Ae v4 O Au<|Af<|Az ?_
   refine Bp<|Aa<|Al 3 [] [(6,(.I (IntKind.wrap .i64 (i+1))))] ?_
   refine Af<|Bk (Gp (hW ((IntKind.wrap .i64 (i+1)),rID,i,rTerm,(l2++[({ Kind:=mKind,From:=rID,To:=i,Term:=rTerm,Last:=mLast,LastTerm:=mLastTerm,Log:=[],Commit:=mCommit,Match:=mMatch,Granted:=mGranted }:Message)])) _ _ ⟨v4,g5,vH3,O,O⟩))
  refine Bd<|Bp<|Aa<|Al 3 [] [(6,(.I (IntKind.wrap .i64 (i+1))))] ?_
  refine Af<|Bk (Gp (hW ((IntKind.wrap .i64 (i+1)),vFrom,vTo,vTerm,l2) _ _ ⟨v3,g4,vH2,O,O⟩))
 refine Ea O<|H6<|Ex [(A5 v1 g 1 (List.map rB l)),(A5 v2 g1 1 (List.map (rI .i64) l1)),none,none,(A5 v3 g4 10 (List.map Ak l2))] hI O (.keep (.keep (.drop (.drop (.keep .nil)))))<|Bk (hJ l2 _ _ ⟨v3,g4,vH2,O,O⟩)
theorem Z8 (r:Replica):CP Tryz.prog 9 [(.agg (Ap r))] (L6 r) (fun(p:(Replica×(List Message)×Int))=>AV.tup [(.agg (Ap p.1)),(.sl 10 (List.map Ak p.2.1)),(.int .i64 p.2.2)]):=by
 refine C7 (n:=53) 5 Tryz.func9 O (by decide) O O fun h0 ids hI=>B0 (Ax (L6.eq_1 _) ?_)
 refine Ac<|Aa<|Cy (v:=(.agg (Ap r))) (j:=0) hI O O O O O O O fun g=>B9 (j:=1) hI O O O O As O fun g1=>Al 2 [] [] ?_
 refine Af<|Az ?_
 refine Ac<|Aa<|Al 1 [0] [(8,(.agg (Ap r)))] ?_
 refine Be [(.agg (Ap r))] O O O O ((R8 r) _) (fun v _=>Bh Tryz.func9 hI) fun e _=>Ae (.I e) O Au<|Af<|Ac<|Ac<|Aa<|Al 2 [] [(11,(.bool (e != 0)))] ?_
 refine Af<|Cp O (fun hc=>?_) (fun hc=>?_)
 ·refine Ac<|Aa<|Al 2 [] [(13,(.I e)),(12,(.agg [(.I 0),(.I 0),(.I 0),(.I 0),.emp,(.I 0),(.I 0),.emp,.emp]))] ?_
  refine A4 (A6 (v:=(.agg [(.I 0),(.I 0),(.I 0),(.I 0),.emp,(.I 0),(.I 0),.emp,.emp])) hI O O O O As O O O O O)<|Al 2 [] [(4,(.I e)),(3,.emp)] ?_
  refine Af<|B3 (a:=(({ ID:=0,Many:=0,Term:=0,Vote:=0,Log:=[],Role:=0,Commit:=0,Votes:=[],Match:=[] }:Replica),[],e)) (vs:=[(.agg [(.I 0),(.I 0),(.I 0),(.I 0),.emp,(.I 0),(.I 0),.emp,.emp]),.emp,(.I e)]) Tryz.func9 hI (By (Aq hI O O O As O) (Cz (Cz Cd))) (.tupL (.cons (.aggL (.cons (.same _) (.cons (.same _) (.cons (.same _) (.cons (.same _) (.cons (.emp _) (.cons (.same _) (.cons (.same _) (.cons (.emp _) (.cons (.emp _) .nil)))))))))) (.cons (.emp _) (.cons (.same _) .nil))))
 refine Bd<|Ac<|Ac<|Aa<|Al 3 [0] [(16,(.bool (r.Term==1048576)))] ?_
 refine Af<|Cp O (fun hc1=>?_) (fun hc1=>?_)
 ·refine Ac<|Aa<|Ae (.agg [(.I 0),(.I 0),(.I 0),(.I 0),.emp,(.I 0),(.I 0),.emp,.emp]) O (Du (Hn As Aes O))<|A4 (A6 (v:=(.agg [(.I 0),(.I 0),(.I 0),(.I 0),.emp,(.I 0),(.I 0),.emp,.emp])) hI O O O O As O O O O O)<|Al 2 [] [(4,(.I 2)),(3,.emp)] ?_
  refine Af<|B3 (a:=(({ ID:=0,Many:=0,Term:=0,Vote:=0,Log:=[],Role:=0,Commit:=0,Votes:=[],Match:=[] }:Replica),[],2)) (vs:=[(.agg [(.I 0),(.I 0),(.I 0),(.I 0),.emp,(.I 0),(.I 0),.emp,.emp]),.emp,(.I 2)]) Tryz.func9 hI (By (Aq hI O O O As O) (Cz (Cz Cd))) (.tupL (.cons (.aggL (.cons (.same _) (.cons (.same _) (.cons (.same _) (.cons (.same _) (.cons (.emp _) (.cons (.same _) (.cons (.same _) (.cons (.emp _) (.cons (.emp _) .nil)))))))))) (.cons (.emp _) (.cons (.same _) .nil))))
 refine Bd<|Ac<|Aa<|Al 1 [0] [(18,(.agg (Ap r)))] ?_
 refine Ck [2,3] hI O O (Xh r _ (ix ids 2) (ix ids 3) (by exact hI.sub' O O)) O O O O O O (fun v _=>Bh Tryz.func9 hI) ?_
 rintro r1 _ _ _ ⟨v,g2,v1,g3,vH,vH1,rfl,rfl⟩
 refine Dz [2,3] hI O O O ?_
 refine C1<|A4 (A6 (v:=(.agg [(.I r.ID),(.I r.Many),(.I r.Term),(.I r.Vote),(.sl 2 (List.map Ah r.Log)),(.I 0),(.I r.Commit),v,v1])) hI O O O O As O O O O (Ao O (Ao O (Ao O (Ao O (Ao O (Ao O (Ao O (Ao (A9.flat vH) (Ao (A9.flat vH1) Do))))))))))<|Af<|Az ?_
 refine Ac<|Aa<|Al 4 [0] [(23,(.ptr (ix ids 0) g 0 2)),(22,(.I (IntKind.wrap .i64 (r.Term+1))))] ?_
 refine A4 (A6 (v:=(.I (IntKind.wrap .i64 (r.Term+1)))) hI O O O O Av O O O O O)<|Af<|Az ?_
 refine Ac<|Aa<|Al 3 [0] [(26,(.ptr (ix ids 0) g 0 3)),(25,(.I r.ID))] ?_
 refine A4 (A6 (v:=(.I r.ID)) hI O O O O Av O O O O O)<|Af<|Az ?_
 refine Ac<|Aa<|Ae (.ptr (ix ids 0) g 0 5) O (Aj (Ag (c:=0) (off:=5) (i:=5) As O Av O))<|A4 (A6 (v:=(.I 1)) hI O O O O Av O O O O O)<|Af<|Az ?_
 refine Ac<|Aa<|Al 4 [0,0] [(31,(.I r.ID)),(29,v)] ?_
 refine Gy fun a hz hx1=>Ae (.ptr (ix ids 2) g2 r.ID.toNat 0) O (Bu (J5 hI O vH O Cn Gm O hz hx1))<|A4 (Ro (y:=true) hI O O vH O hx1 Gm O O O O O O) ?_
 have vH2:=A9.set (i:=r.ID.toNat) (y:=true) vH
 have hx2:=List.getElem?_set_self (a:=true) (B5 hx1)
 refine Af<|Az ?_
 refine Ac<|Ac<|Aa<|Al 3 [0] [(35,(.bool (r.Many==1)))] ?_
 refine Af<|Cp O (fun hc2=>?_) (fun hc2=>?_)
 ·refine Ac<|Aa<|Al 1 [0] [(37,(.agg [(.I r.ID),(.I r.Many),(.I (IntKind.wrap .i64 (r.Term+1))),(.I r.ID),(.sl 2 (List.map Ah r.Log)),(.I 1),(.I r.Commit),v,v1]))] ?_
  refine Ak9 (h2:=hp h0 ids [none,(some (.rows g1 9 [[(.I 0),(.I 0),(.I 0),(.I 0),.emp,(.I 0),(.I 0),.emp,.emp]])),none,none,none]) [(2,(.q ids 1 g1)),(37,(.agg (Ap ({ ID:=r.ID,Many:=r.Many,Term:=(IntKind.wrap .i64 (r.Term+1)),Vote:=r.ID,Log:=r.Log,Role:=1,Commit:=r.Commit,Votes:=(r1.1.set r.ID.toNat true),Match:=r1.2 }:Replica))))] (Drops.sub (.drop (.keep (.drop (.drop (.keep .nil))))) hI.len) (.cons (.same _) (.cons (.aggL (.cons (.same _) (.cons (.same _) (.cons (.same _) (.cons (.same _) (.cons (.same _) (.cons (.same _) (.cons (.same _) (.cons (Dd vH2 (hI.at O O) (hI.at O O) (fun x=>Qf x)) (.cons (Dd vH1 (hI.at O O) (hI.at O O) (fun x=>Ih x)) .nil)))))))))) .nil)) O O<|Be [(.agg (Ap ({ ID:=r.ID,Many:=r.Many,Term:=(IntKind.wrap .i64 (r.Term+1)),Vote:=r.ID,Log:=r.Log,Role:=1,Commit:=r.Commit,Votes:=(r1.1.set r.ID.toNat true),Match:=r1.2 }:Replica)))] O O O O ((Aao ({ ID:=r.ID,Many:=r.Many,Term:=(IntKind.wrap .i64 (r.Term+1)),Vote:=r.ID,Log:=r.Log,Role:=1,Commit:=r.Commit,Votes:=(r1.1.set r.ID.toNat true),Match:=r1.2 }:Replica)) _) (fun v _=>Bh Tryz.func9 hI) fun r2 _=>Al 3 [] [(40,(.sl 10 (List.map Ak r2.2))),(39,(.agg (Ap r2.1)))] ?_
  refine B9 (j:=4) hI O O O O As O fun g4=>A4 (A6 (v:=(.agg (Ap r2.1))) hI O O O O As O O O O O)<|Ae (.sl 10 (List.map Ak r2.2)) O Au<|Af<|Az ?_
  refine Ac<|Aa<|Al 2 [4] [(42,(.sl 10 (List.map Ak r2.2))),(41,(.agg (Ap r2.1)))] ?_
  refine A4 (A6 (v:=(.agg (Ap r2.1))) hI O O O O As O O O O O)<|Al 2 [] [(4,(.I 0)),(3,(.sl 10 (List.map Ak r2.2)))] ?_
  refine Af<|Az ?_
  exact B3 (a:=(r2.1,r2.2,0)) (vs:=[(.agg (Ap r2.1)),(.sl 10 (List.map Ak r2.2)),(.I 0)]) Tryz.func9 hI (By (Aq hI O O O As O) (Cz (Cz Cd))) (.tupL (.cons (.same _) (.cons (.same _) (.cons (.same _) .nil))))
 refine Bd<|Ac<|B4 Da [[],[],[],[2],[2,3],[],[5],[5,6],[2,3,4,5,6,7],[1,2,3,4,5,6,7,8],[0,1,2,3,4,5,6,7,8,9],[0,1,2,3,4,5,6,7,8,9,9,10,10],[0,1,2,3,4,5,6,7,8,9,10,11,11]] [(false,0),(false,1),(false,2),(false,3),(false,4),(false,5),(false,6),(true,7),(false,8),(true,9),(true,10),(false,11),(false,12)] (by kernel_rfl)<|Z (.agg [(.I r.ID),(.I r.Many),(.I (IntKind.wrap .i64 (r.Term+1))),(.I r.ID),(.sl 2 (List.map Ah r.Log)),(.I 1),(.I r.Commit),v,v1]) O O (An (Aq hI O O O As O))<|Z (.agg [(.I r.ID),(.I r.Many),(.I (IntKind.wrap .i64 (r.Term+1))),(.I r.ID),(.sl 2 (List.map Ah r.Log)),(.I 1),(.I r.Commit),v,v1]) O O (An (Aq hI O O O As O))<|Z (.ptr (ix ids 0) g 0 4) O O (Aj (Ag (c:=0) (off:=4) (i:=4) As O Ba O))<|Z (.sl 2 (List.map Ah r.Log)) O O (An (Aq hI O O O Ba O)) ?_
 refine Z (.I (r.Log.length:Int)) O O (Bm (Bo Ba))<|Z (.ptr (ix ids 0) g 0 4) O O (Aj (Ag (c:=0) (off:=4) (i:=4) As O Ba O))<|Z (.sl 2 (List.map Ah r.Log)) O O (An (Aq hI O O O Ba O))<|Dy [(.sl 2 (List.map Ah r.Log))] O O O O O ((Ac0 r.Log) _) (fun v _ _ _=>Bh Tryz.func9 hI) (Y O (Y O (Ad O (Bm (Bo Ba)) (Ad O (An (Aq hI O O O Ba O)) (Ad O (Aj (Ag (c:=0) (off:=4) (i:=4) As O Ba O)) (Ad O (An (Aq hI O O O As O)) (Ad O (An (Aq hI O O O As O)) At))))))) fun r3 _=>Z (.agg [(.I 1),(.I 0),(.I 0),(.I 0),(.I (r.Log.length:Int)),(.I r3),.emp,(.I 0),(.I 0),(.bool false)]) O O (Du (Hn Bx Abx O))<|Fd [2,3] hI O O (Y7 r.ID r.Many (IntKind.wrap .i64 (r.Term+1)) r.ID r.Log 1 r.Commit 1 0 0 0 (r.Log.length:Int) r3 0 0 false (r1.1.set r.ID.toNat true) r1.2 _ (ix ids 2) (ix ids 3) v g2 v1 g3 vH2 vH1 (by exact hI.sub' O O)) O O O O O O O (fun v _ _ _=>Bh Tryz.func9 hI) ?_
 rintro r4 _ _ _ ⟨rfl,rfl⟩
 refine Gg [2,3] [some (.rows g 9 [[(.I r.ID),(.I r.Many),(.I (IntKind.wrap .i64 (r.Term+1))),(.I r.ID),(.sl 2 (List.map Ah r.Log)),(.I 1),(.I r.Commit),v,v1]]),some (.rows g1 9 [[(.I 0),(.I 0),(.I 0),(.I 0),.emp,(.I 0),(.I 0),.emp,.emp]]),A5 v g2 1 (List.map rB (r1.1.set r.ID.toNat true)),A5 v1 g3 1 (List.map (rI .i64) r1.2),none] hI O O O O ⟨(Y O (Y O (Y O (Y O (Y O (Y O (Y O (Ad O (An (Aq hI O O O As O)) At)))))))),?_⟩
 refine Gd<|Bi O (fun _ _=>O) (fun K hK=>A3 (A6 (v:=(.agg [(.I r.ID),(.I r.Many),(.I (IntKind.wrap .i64 (r.Term+1))),(.I r.ID),(.sl 2 (List.map Ah r.Log)),(.I 1),(.I r.Commit),v,v1])) hI O O O O As O O O O (Ao O (Ao O (Ao O (Ao O (Ao O (Ao O (Ao O (Ao (A9.flat vH2) (Ao (A9.flat vH1) Do)))))))))) (hK _ _ (Y O (Y O (Y O (Y O (Y O (Y O (Y O (Y O At)))))))) ?_))
 clear hK K
 refine Z (.sl 10 (List.map Ak r4)) O O Au<|Z (.I 0) O O Au<|Bb<|Az ?_
 exact B3 (a:=(({ ID:=r.ID,Many:=r.Many,Term:=(IntKind.wrap .i64 (r.Term+1)),Vote:=r.ID,Log:=r.Log,Role:=1,Commit:=r.Commit,Votes:=(r1.1.set r.ID.toNat true),Match:=r1.2 }:Replica),r4,0)) (vs:=[(.agg [(.I r.ID),(.I r.Many),(.I (IntKind.wrap .i64 (r.Term+1))),(.I r.ID),(.sl 2 (List.map Ah r.Log)),(.I 1),(.I r.Commit),v,v1]),(.sl 10 (List.map Ak r4)),(.I 0)]) Tryz.func9 hI (By (Aq hI O O O As O) (Cz (Cz Cd))) (.tupL (.cons (.aggL (.cons (.same _) (.cons (.same _) (.cons (.same _) (.cons (.same _) (.cons (.same _) (.cons (.same _) (.cons (.same _) (.cons (Dd vH2 (hI.at O O) (hI.out O) (fun x=>Qf x)) (.cons (Dd vH1 (hI.at O O) (hI.out O) (fun x=>Ih x)) .nil)))))))))) (.cons (.same _) (.cons (.same _) .nil))))
theorem Ye (rID:Int)(rMany:Int)(rTerm:Int)(rVote:Int)(rRole:Int)(rCommit:Int)(rVotes:List Bool)(l:List Record)(l1:List Int)(h0:Ai)(o0:Nat)(o1:Nat)(v1:AV)(g:Nat)(v2:AV)(g1:Nat)(vH:A9 v1 o0 g l.length)(vH1:A9 v2 o1 g1 l1.length)(hI0:Ids h0 [o0,o1] 2):Kp rID rMany rTerm rVote rRole rCommit rVotes l l1≠.bad→Bv Tryz.prog 40 [(.agg [(.int .i64 rID),(.int .i64 rMany),(.int .i64 rTerm),(.int .i64 rVote),v1,(.int .i64 rRole),(.int .i64 rCommit),(.sl 1 (List.map rB rVotes)),v2])] (hp h0 [o0,o1] [A5 v1 g 2 (List.map Ah l),A5 v2 g1 1 (List.map (rI .i64) l1)]) (Ei (fun a_ v h' => ∃ (v10:AV),∃ (g11:Nat),∃ (v11:AV),∃ (g12:Nat),A9 v10 o0 g11 a_.2.1.length∧A9 v11 o1 g12 a_.2.2.length∧v=(.agg [(.int .i64 rID),(.int .i64 rMany),(.int .i64 rTerm),(.int .i64 rVote),v10,(.int .i64 rRole),(.int .i64 a_.1),(.sl 1 (List.map rB rVotes)),v11])∧h'=hp h0 [o0,o1] [A5 v10 g11 2 (List.map Ah a_.2.1),A5 v11 g12 1 (List.map (rI .i64) a_.2.2)]) h0 (Kp rID rMany rTerm rVote rRole rCommit rVotes l l1)):=by
 refine Cm (n:=51) 2 Tryz.func40 O (by decide) O O hI0 O fun ids he hI=>?_
 clear hI0
 obtain rfl:ix ids 0=o0:=he 0 rfl
 obtain rfl:ix ids 1=o1:=he 1 rfl
 clear he
 refine B0 (Ax (Kp.eq_1 _ _ _ _ _ _ _ _ _) ?_)
 refine Az ?_
 refine Ac<|Aa<|Cy (v:=(.agg [(.I rID),(.I rMany),(.I rTerm),(.I rVote),v1,(.I rRole),(.I rCommit),(.sl 1 (List.map rB rVotes)),v2])) (j:=2) hI O O O O O O (Ao O (Ao O (Ao O (Ao O (Ao (A9.flat vH) (Ao O (Ao O (Ao O (Ao (A9.flat vH1) Do))))))))) fun g2=>B9 (j:=3) hI O O O O As O fun g3=>Af<|Az ?_
 refine Ac<|Ac<|Aa<|Al 2 [2] [(7,v1)] ?_
 refine Ae (.I (l.length:Int)) O (Bm (A9.len vH Ba))<|Ae (.I (l.length:Int)) O Au<|Af<|Dn (D1 fun l7 l8=>L9 rCommit l7 l8) (D1 fun l7 l8=>fun(fr:Nat→AV) (h:Ai) => ∃ (v8:AV),∃ (g9:Nat),∃ (v9:AV),∃ (g10:Nat),A9 v8 (ix ids 0) g9 l7.length∧A9 v9 (ix ids 1) g10 l8.length∧fr=A0 [(1,(.q ids 2 g2)),(2,(.q ids 3 g3))]∧h=hp h0 ids [(A5 v8 g9 2 (List.map Ah l7)),(A5 v9 g10 1 (List.map (rI .i64) l8)),(some (.rows g2 9 [[(.I rID),(.I rMany),(.I rTerm),(.I rVote),v8,(.I rRole),(.I rCommit),(.sl 1 (List.map rB rVotes)),v9]])),(some (.rows g3 9 [[(.I 0),(.I 0),(.I 0),(.I 0),.emp,(.I 0),(.I 0),.emp,.emp]]))]) ?_ fun hJ2=>?_
 ·rintro⟨l7,l8⟩ fr h ⟨v8,g9,v9,g10,vH7,vH8,rfl,rfl⟩
  refine Ax (L9.eq_1 _ _ _)<|Ac<|Aa<|Al 1 [2] [(50,(.agg [(.I rID),(.I rMany),(.I rTerm),(.I rVote),v8,(.I rRole),(.I rCommit),(.sl 1 (List.map rB rVotes)),v9]))] ?_
  refine A4 (A6 (v:=(.agg [(.I rID),(.I rMany),(.I rTerm),(.I rVote),v8,(.I rRole),(.I rCommit),(.sl 1 (List.map rB rVotes)),v9])) hI O O O O As O O O O (Ao O (Ao O (Ao O (Ao O (Ao (A9.flat vH7) (Ao O (Ao O (Ao O (Ao (A9.flat vH8) Do))))))))))<|Af<|Az ?_
  exact En (K:=2) (N:=2) (a:=(rCommit,l7,l8)) (vs:=[(.agg [(.I rID),(.I rMany),(.I rTerm),(.I rVote),v8,(.I rRole),(.I rCommit),(.sl 1 (List.map rB rVotes)),v9])]) [A5 v8 g9 2 (List.map Ah l7),A5 v9 g10 1 (List.map (rI .i64) l8)] Tryz.func40 hI O (By (Aq hI O O O As O) Cd) O (.keep (.keep (.drop (.drop .nil)))) (.same _) ⟨v8,g9,v9,g10,vH7,vH8,O,O⟩
 refine Bn<|Ft [(1,(.q ids 2 g2)),(2,(.q ids 3 g3)),(3,(.I (l.length:Int)))] (FI O)<|I0 (P:=Tryz.prog) (Lt fun n l2 l3=>Es rMany rTerm rCommit n l2 l3) ((F4 (D1 fun l7 l8=>L9 rCommit l7 l8) (fun r=>.ok r)):(((List Record)×(List Int)) ⊕ (Int×(List Record)×(List Int)))→R (Int×(List Record)×(List Int))) (Lt fun n l2 l3=>fun(fr:Nat→AV) (h:Ai) => ∃ (v3:AV),∃ (g4:Nat),∃ (v4:AV),∃ (g5:Nat),A9 v3 (ix ids 0) g4 l2.length∧A9 v4 (ix ids 1) g5 l3.length∧fr=A0 [(1,(.q ids 2 g2)),(2,(.q ids 3 g3)),(3,(.I n))]∧h=hp h0 ids [(A5 v3 g4 2 (List.map Ah l2)),(A5 v4 g5 1 (List.map (rI .i64) l3)),(some (.rows g2 9 [[(.I rID),(.I rMany),(.I rTerm),(.I rVote),v3,(.I rRole),(.I rCommit),(.sl 1 (List.map rB rVotes)),v4]])),(some (.rows g3 9 [[(.I 0),(.I 0),(.I 0),(.I 0),.emp,(.I 0),(.I 0),.emp,.emp]]))]) ((l.length:Int),l,l1) ?_ ?_
 ·exact⟨v1,g,v2,g1,vH,vH1,O,O⟩
 rintro vW hW ⟨n,l2,l3⟩ fr h ⟨v3,g4,v4,g5,vH2,vH3,rfl,rfl⟩
 refine Ax (m':=Es rMany rTerm rCommit n l2 l3) O (Ax (Es.eq_1 _ _ _ _ _ _) ?_)
 refine Ac<|Ac<|Aa<|Al 4 [2] [(12,(.bool (decide (n > rCommit))))] ?_
 refine Af<|Gf O (fun hc=>?_) (fun hc=>?_)
 ·refine Bd<|Ac<|Bn<|Ac<|Aa<|Ae (.I 0) O Au<|Af ?_
  refine Ac<|Ac<|Aa<|Ae (.I 0) O Au<|Af<|Dn (D1 fun many1 l5=>Kj rMany rTerm n l2 many1 l5) (D1 fun many1 l5=>fun(fr:Nat→AV) (h:Ai) => ∃ (v6:AV),∃ (g7:Nat),A9 v6 (ix ids 1) g7 l5.length∧fr=A0 [(1,(.q ids 2 g2)),(2,(.q ids 3 g3)),(3,(.I n)),(4,(.I many1))]∧h=hp h0 ids [(A5 v3 g4 2 (List.map Ah l2)),(A5 v6 g7 1 (List.map (rI .i64) l5)),(some (.rows g2 9 [[(.I rID),(.I rMany),(.I rTerm),(.I rVote),v3,(.I rRole),(.I rCommit),(.sl 1 (List.map rB rVotes)),v6]])),(some (.rows g3 9 [[(.I 0),(.I 0),(.I 0),(.I 0),.emp,(.I 0),(.I 0),.emp,.emp]]))]) ?_ fun hJ1=>?_
  ·rintro⟨many1,l5⟩ fr h ⟨v6,g7,vH5,rfl,rfl⟩
   refine Ax (Kj.eq_1 _ _ _ _ _ _)<|Ac<|Dn (D1 fun x l6=>I3 n l5 x l6) (D1 fun x l6=>fun(fr:Nat→AV) (h:Ai) => ∃ (v7:AV),∃ (g8:Nat),A9 v7 (ix ids 0) g8 l6.length∧fr=A0 [(1,(.q ids 2 g2)),(2,(.q ids 3 g3)),(3,(.I n)),(46,(.bool x))]∧h=hp h0 ids [(A5 v7 g8 2 (List.map Ah l6)),(A5 v6 g7 1 (List.map (rI .i64) l5)),(some (.rows g2 9 [[(.I rID),(.I rMany),(.I rTerm),(.I rVote),v7,(.I rRole),(.I rCommit),(.sl 1 (List.map rB rVotes)),v6]])),(some (.rows g3 9 [[(.I 0),(.I 0),(.I 0),(.I 0),.emp,(.I 0),(.I 0),.emp,.emp]]))]) ?_ fun hJ=>?_
   ·rintro⟨x,l6⟩ fr h ⟨v7,g8,vH6,rfl,rfl⟩
    refine Ax (I3.eq_1 _ _ _ _)<|Cp O (fun hc3=>?_) (fun hc3=>?_)
    ·refine Ac<|Aa<|Al 2 [] [(48,(.ptr (ix ids 2) g2 0 6)),(47,(.I n))] ?_
     refine A4 (A6 (v:=(.I n)) hI O O O O Av O O O O O)<|Af<|Az ?_
     refine Ac<|Aa<|Al 1 [2] [(49,(.agg [(.I rID),(.I rMany),(.I rTerm),(.I rVote),v7,(.I rRole),(.I n),(.sl 1 (List.map rB rVotes)),v6]))] ?_
     refine A4 (A6 (v:=(.agg [(.I rID),(.I rMany),(.I rTerm),(.I rVote),v7,(.I rRole),(.I n),(.sl 1 (List.map rB rVotes)),v6])) hI O O O O As O O O O (Ao O (Ao O (Ao O (Ao O (Ao (A9.flat vH6) (Ao O (Ao O (Ao O (Ao (A9.flat vH5) Do))))))))))<|Af<|Az ?_
     refine H6<|Mb<|En (K:=2) (N:=2) (a:=(n,l6,l5)) (vs:=[(.agg [(.I rID),(.I rMany),(.I rTerm),(.I rVote),v7,(.I rRole),(.I n),(.sl 1 (List.map rB rVotes)),v6])]) [A5 v7 g8 2 (List.map Ah l6),A5 v6 g7 1 (List.map (rI .i64) l5)] Tryz.func40 hI O (By (Aq hI O O O As O) Cd) O (.keep (.keep (.drop (.drop .nil)))) (.same _) ⟨v7,g8,v6,g7,vH6,vH5,O,O⟩
    refine Bd<|Bp<|Aa<|Al 3 [] [(3,(.I (IntKind.wrap .i64 (n - 1))))] ?_
    refine Af<|Bk (Gp (hW ((IntKind.wrap .i64 (n - 1)),l6,l5) _ _ ⟨v7,g8,v6,g7,vH6,vH5,O,O⟩))
   refine B4 Da [[],[0],[],[2],[0,1,2,3],[0,1,2,3,4],[0,1,2,3,4,5],[0,1,2,3,4,5,6],[0,1,2,3,4,5],[0,1,2,3,4,5,8],[0,1,2,3,4,5,6,7,8,9],[0,1,2,3,4,5,6,7,8,9,10],[0,1,2,3,4,5,6,7,8,9,10,11],[0,1,2,3,4,5],[0,1,2,3,4,5,13],[0,1,2,3,4,5,6,7,8,9,10,11,12,13,14],[0,1,2,3,4,5,6,7,8,9,10,11,12,13,14,15]] [(false,0),(false,1),(false,2),(false,3),(false,4),(false,5),(false,6),(false,7),(false,8),(false,9),(false,10),(false,11),(false,12),(false,13),(false,14),(false,15),(false,16)] (by kernel_rfl)<|Z (.I many1) O O Ab<|Z (.I (IntKind.wrap .i64 (2 * many1))) O O (Bf O O O)<|Z (.ptr (ix ids 2) g2 0 1) O O (Aj (Ag (c:=0) (off:=1) (i:=1) As O Av O))<|Z (.I rMany) O O (An (Aq hI O O O Av O))<|Z (.bool (decide ((IntKind.wrap .i64 (2 * many1)) > rMany))) O O (Bf O O O)<|Z (.bool (decide ((IntKind.wrap .i64 (2 * many1)) > rMany))) O O Ab ?_
   refine Ge (fun hb=>?_) (fun hb=>?_)
   ·refine Ay (tj:=35) (.ptr (ix ids 2) g2 0 4) O O (congrArg AV.bool hb) O (Aj (Ag (c:=0) (off:=4) (i:=4) As O Ba O))<|Ay (tj:=35) v3 O O (congrArg AV.bool hb) O (An (Aq hI O O O Ba O))<|Ay (tj:=35) (.I n) O O (congrArg AV.bool hb) O Ab<|Ay (tj:=35) (.I (IntKind.wrap .i64 (n - 1))) O O (congrArg AV.bool hb) O (Bf O O O)<|G0 fun a1 hz1 hx2=>Ay (tj:=35) (.ptr (ix ids 0) g4 (IntKind.wrap .i64 (n - 1)).toNat 0) O O (congrArg AV.bool hb) O (Bu (J5 hI O vH2 O Ba C2 O hz1 hx2))<|Ay (tj:=35) (.ptr (ix ids 0) g4 (IntKind.wrap .i64 (n - 1)).toNat 0) O O (congrArg AV.bool hb) O (Aj (Ag (c:=0) (off:=0) (i:=0) C2 O Av O)) ?_
    refine Ay (tj:=35) (.I a1.Term) O O (congrArg AV.bool hb) O (An (We hI O vH2 O hx2 Av O))<|Ay (tj:=35) (.ptr (ix ids 2) g2 0 2) O O (congrArg AV.bool hb) O (Aj (Ag (c:=0) (off:=2) (i:=2) As O Av O))<|Ay (tj:=35) (.I rTerm) O O (congrArg AV.bool hb) O (An (Aq hI O O O Av O))<|Ay (tj:=35) (.bool (a1.Term==rTerm)) O O (congrArg AV.bool hb) O (Bf O O O)<|Z (.bool (a1.Term==rTerm)) O O (Bw (t:=true) (congrArg AV.bool hb) O)<|Bb<|Bk (hJ ((a1.Term==rTerm),l2) _ _ ⟨v3,g4,vH2,O,O⟩)
   refine A2 (tj:=35) (b:=false) O O (congrArg AV.bool hb) O O<|A2 (tj:=35) (b:=false) O O (congrArg AV.bool hb) O O<|A2 (tj:=35) (b:=false) O O (congrArg AV.bool hb) O O<|A2 (tj:=35) (b:=false) O O (congrArg AV.bool hb) O O<|A2 (tj:=35) (b:=false) O O (congrArg AV.bool hb) O O<|A2 (tj:=35) (b:=false) O O (congrArg AV.bool hb) O O<|A2 (tj:=35) (b:=false) O O (congrArg AV.bool hb) O O ?_
   refine A2 (tj:=35) (b:=false) O O (congrArg AV.bool hb) O O<|A2 (tj:=35) (b:=false) O O (congrArg AV.bool hb) O O<|A2 (tj:=35) (b:=false) O O (congrArg AV.bool hb) O O<|Z (.bool false) O O (Bw (t:=false) (congrArg AV.bool hb) O)<|Bb<|Bk (hJ (false,l2) _ _ ⟨v3,g4,vH2,O,O⟩)
  refine Bn<|Ft [(1,(.q ids 2 g2)),(2,(.q ids 3 g3)),(3,(.I n)),(4,(.I 0)),(5,(.I 0))] (FI O)<|I0 (P:=Tryz.prog) (Lt fun many i l4=>Kf rMany n many i l4) ((D1 fun many1 l5=>Kj rMany rTerm n l2 many1 l5):(Int×(List Int))→R ((Int×(List Record)×(List Int)) ⊕ (((List Record)×(List Int)) ⊕ (Int×(List Record)×(List Int))))) (Lt fun many i l4=>fun(fr:Nat→AV) (h:Ai) => ∃ (v5:AV),∃ (g6:Nat),A9 v5 (ix ids 1) g6 l4.length∧fr=A0 [(1,(.q ids 2 g2)),(2,(.q ids 3 g3)),(3,(.I n)),(4,(.I many)),(5,(.I i))]∧h=hp h0 ids [(A5 v3 g4 2 (List.map Ah l2)),(A5 v5 g6 1 (List.map (rI .i64) l4)),(some (.rows g2 9 [[(.I rID),(.I rMany),(.I rTerm),(.I rVote),v3,(.I rRole),(.I rCommit),(.sl 1 (List.map rB rVotes)),v5]])),(some (.rows g3 9 [[(.I 0),(.I 0),(.I 0),(.I 0),.emp,(.I 0),(.I 0),.emp,.emp]]))]) (0,0,l3) ?_ ?_
  ·exact⟨v4,g5,vH3,O,O⟩
  rintro vW1 hW1 ⟨many,i,l4⟩ fr h ⟨v5,g6,vH4,rfl,rfl⟩
  refine Ax (m':=Kf rMany n many i l4) O (Ax (Kf.eq_1 _ _ _ _ _) ?_)
  refine Ac<|Ac<|Aa<|Al 4 [2] [(18,(.bool (decide (i<rMany))))] ?_
  refine Af<|Gf O (fun hc1=>?_) (fun hc1=>?_)
  ·refine Bd<|Ac<|Bn<|Ac<|Aa<|Al 3 [2] [(23,(.I i)),(22,v5)] ?_
   refine Gy fun a hz hx1=>Ae (.ptr (ix ids 1) g6 i.toNat 0) O (Bu (J5 hI O vH4 O Bt Av O hz hx1))<|Ae (.I a) O (An (We hI O vH4 O hx1 Av O))<|Al 2 [] [(27,(.bool (decide (a≥n))))] ?_
   refine Af<|Gf O (fun hc2=>?_) (fun hc2=>?_)
   ·refine Aa<|Al 3 [] [(4,(.I (IntKind.wrap .i64 (many+1))))] ?_
    refine Af<|Bp<|Aa<|Al 3 [] [(5,(.I (IntKind.wrap .i64 (i+1))))] ?_
    refine Af<|Bk (Gp (hW1 ((IntKind.wrap .i64 (many+1)),(IntKind.wrap .i64 (i+1)),l4) _ _ ⟨v5,g6,vH4,O,O⟩))
   refine Bd<|Bp<|Aa<|Al 3 [] [(5,(.I (IntKind.wrap .i64 (i+1))))] ?_
   refine Af<|Bk (Gp (hW1 (many,(IntKind.wrap .i64 (i+1)),l4) _ _ ⟨v5,g6,vH4,O,O⟩))
  refine Ea O<|H6<|Bk (hJ1 (many,l4) _ _ ⟨v5,g6,vH4,O,O⟩)
 refine Ea O<|H6<|Aav<|Bk (hJ2 (l2,l3) _ _ ⟨v3,g4,v4,g5,vH2,vH3,O,O⟩)
theorem Zq (r:Replica)(data:List Int):CP Tryz.prog 11 [(.agg (Ap r)),(.sl 1 (List.map (rI .u8) data))] (L4 r data) (fun(p:(Replica×(List Message)×Int))=>AV.tup [(.agg (Ap p.1)),(.sl 10 (List.map Ak p.2.1)),(.int .i64 p.2.2)]):=by
 refine C7 (n:=52) 4 Tryz.func11 O (by decide) O O fun h0 ids hI=>B0 (Ax (L4.eq_1 _ _) ?_)
 refine Ac<|Aa<|Cy (v:=(.agg (Ap r))) (j:=0) hI O O O O O O O fun g=>B9 (j:=1) hI O O O O As O fun g1=>Al 2 [] [] ?_
 refine Af<|Az ?_
 refine Ac<|Aa<|Al 1 [0] [(8,(.agg (Ap r)))] ?_
 refine Be [(.agg (Ap r))] O O O O ((R8 r) _) (fun v _=>Bh Tryz.func11 hI) fun e _=>Ae (.I e) O Au<|Af<|Ac<|Ac<|Aa<|Al 2 [] [(11,(.bool (e != 0)))] ?_
 refine Af<|Cp O (fun hc=>?_) (fun hc=>?_)
 ·refine Ac<|Aa<|Al 2 [] [(13,(.I e)),(12,(.agg [(.I 0),(.I 0),(.I 0),(.I 0),.emp,(.I 0),(.I 0),.emp,.emp]))] ?_
  refine A4 (A6 (v:=(.agg [(.I 0),(.I 0),(.I 0),(.I 0),.emp,(.I 0),(.I 0),.emp,.emp])) hI O O O O As O O O O O)<|Al 2 [] [(6,(.I e)),(5,.emp)] ?_
  refine Af<|B3 (a:=(({ ID:=0,Many:=0,Term:=0,Vote:=0,Log:=[],Role:=0,Commit:=0,Votes:=[],Match:=[] }:Replica),[],e)) (vs:=[(.agg [(.I 0),(.I 0),(.I 0),(.I 0),.emp,(.I 0),(.I 0),.emp,.emp]),.emp,(.I e)]) Tryz.func11 hI (By (Aq hI O O O As O) (Cz (Cz Cd))) (.tupL (.cons (.aggL (.cons (.same _) (.cons (.same _) (.cons (.same _) (.cons (.same _) (.cons (.emp _) (.cons (.same _) (.cons (.same _) (.cons (.emp _) (.cons (.emp _) .nil)))))))))) (.cons (.emp _) (.cons (.same _) .nil))))
 refine Bd<|Ac<|Ac<|Aa<|Al 3 [0] [(16,(.bool (r.Role != 2)))] ?_
 refine Af<|Cp O (fun hc1=>?_) (fun hc1=>?_)
 ·refine Ac<|Aa<|Ae (.agg [(.I 0),(.I 0),(.I 0),(.I 0),.emp,(.I 0),(.I 0),.emp,.emp]) O (Du (Hn As Aes O))<|A4 (A6 (v:=(.agg [(.I 0),(.I 0),(.I 0),(.I 0),.emp,(.I 0),(.I 0),.emp,.emp])) hI O O O O As O O O O O)<|Al 2 [] [(6,(.I 470)),(5,.emp)] ?_
  refine Af<|B3 (a:=(({ ID:=0,Many:=0,Term:=0,Vote:=0,Log:=[],Role:=0,Commit:=0,Votes:=[],Match:=[] }:Replica),[],470)) (vs:=[(.agg [(.I 0),(.I 0),(.I 0),(.I 0),.emp,(.I 0),(.I 0),.emp,.emp]),.emp,(.I 470)]) Tryz.func11 hI (By (Aq hI O O O As O) (Cz (Cz Cd))) (.tupL (.cons (.aggL (.cons (.same _) (.cons (.same _) (.cons (.same _) (.cons (.same _) (.cons (.emp _) (.cons (.same _) (.cons (.same _) (.cons (.emp _) (.cons (.emp _) .nil)))))))))) (.cons (.emp _) (.cons (.same _) .nil))))
 refine Bd<|Ac<|Ac<|Aa<|Al 2 [0] [(19,(.sl 2 (List.map Ah r.Log)))] ?_
 refine Ae (.I (r.Log.length:Int)) O (Bm (Bo Ba))<|Ae (.bool (decide ((r.Log.length:Int)≥4096))) O (Bf O O O)<|Af<|Gf O (fun hc2=>?_) (fun hc2=>?_)
 ·refine Ac<|Aa<|Ae (.agg [(.I 0),(.I 0),(.I 0),(.I 0),.emp,(.I 0),(.I 0),.emp,.emp]) O (Du (Hn As Aes O))<|A4 (A6 (v:=(.agg [(.I 0),(.I 0),(.I 0),(.I 0),.emp,(.I 0),(.I 0),.emp,.emp])) hI O O O O As O O O O O)<|Al 2 [] [(6,(.I 2)),(5,.emp)] ?_
  refine Af<|B3 (a:=(({ ID:=0,Many:=0,Term:=0,Vote:=0,Log:=[],Role:=0,Commit:=0,Votes:=[],Match:=[] }:Replica),[],2)) (vs:=[(.agg [(.I 0),(.I 0),(.I 0),(.I 0),.emp,(.I 0),(.I 0),.emp,.emp]),.emp,(.I 2)]) Tryz.func11 hI (By (Aq hI O O O As O) (Cz (Cz Cd))) (.tupL (.cons (.aggL (.cons (.same _) (.cons (.same _) (.cons (.same _) (.cons (.same _) (.cons (.emp _) (.cons (.same _) (.cons (.same _) (.cons (.emp _) (.cons (.emp _) .nil)))))))))) (.cons (.emp _) (.cons (.same _) .nil))))
 refine Bd<|Ac<|Dn (fun l=>N3 r l) (fun l=>fun(fr:Nat→AV) (h:Ai) => ∃ (v6:AV),∃ (g8:Nat),A9 v6 (ix ids 2) g8 l.length∧fr=A0 [(2,(.q ids 0 g)),(4,(.q ids 1 g1))]∧h=hp h0 ids [(some (.rows g 9 [[(.I r.ID),(.I r.Many),(.I r.Term),(.I r.Vote),v6,(.I r.Role),(.I r.Commit),(.sl 1 (List.map rB r.Votes)),(.sl 1 (List.map (rI .i64) r.Match))]])),(some (.rows g1 9 [[(.I 0),(.I 0),(.I 0),(.I 0),.emp,(.I 0),(.I 0),.emp,.emp]])),(A5 v6 g8 2 (List.map Ah l)),none]) ?_ fun hJ=>?_
 ·rintro l fr h ⟨v6,g8,vH6,rfl,rfl⟩
  refine Ax (N3.eq_1 _ _)<|Ac<|Aa<|Ug O Bt Av<|Al 2 [0] [(36,(.sl 1 (List.map (rI .i64) r.Match)))] ?_
  refine G6 fun hl6=>Kh (e:=(rI .i64)) (L:=([]:List Int)) (L2:=r.Match) (v:=.emp) (g:=0) (st:=1) (j:=3) hI O O O O .nil O (Fe O) Bt Bt O Av O O O (by simpa using hl6) fun v7 g9 vH7=>Ae (.ptr (ix ids 0) g 0 8) O (Aj (Ag (c:=0) (off:=8) (i:=8) As O Bt O))<|A4 (B8 vH7 hI O O O O Bt O O O)<|Af<|Az ?_
  refine Ac<|Aa<|Al 6 [0,0,0] [(44,v6),(42,(.I r.ID)),(40,v7)] ?_
  refine Ae (.I (l.length:Int)) O (Bm (A9.len vH6 Ba))<|Gy fun a hz hx1=>Ae (.ptr (ix ids 3) g9 r.ID.toNat 0) O (Bu (J5 hI O vH7 O Bt Av O hz hx1))<|A4 (Ro (y:=(l.length:Int)) hI O O vH7 O hx1 Av O O O O O O) ?_
  have vH8:=A9.set (i:=r.ID.toNat) (y:=(l.length:Int)) vH7
  have hx2:=List.getElem?_set_self (a:=(l.length:Int)) (B5 hx1)
  refine Af<|Az ?_
  refine Ac<|Aa<|Al 1 [0] [(47,(.agg [(.I r.ID),(.I r.Many),(.I r.Term),(.I r.Vote),v6,(.I r.Role),(.I r.Commit),(.sl 1 (List.map rB r.Votes)),v7]))] ?_
  refine Ck [2,3] hI O O (Ye r.ID r.Many r.Term r.Vote r.Role r.Commit r.Votes l (r.Match.set r.ID.toNat (l.length:Int)) _ (ix ids 2) (ix ids 3) v6 g8 v7 g9 vH6 vH8 (by exact hI.sub' O O)) O O O O O O (fun v _=>Bh Tryz.func11 hI) ?_
  rintro r1 _ _ _ ⟨v8,g10,v9,g11,vH9,vH10,rfl,rfl⟩
  refine Dz [2,3] hI O O O ?_
  refine C1<|A4 (A6 (v:=(.agg [(.I r.ID),(.I r.Many),(.I r.Term),(.I r.Vote),v8,(.I r.Role),(.I r1.1),(.sl 1 (List.map rB r.Votes)),v9])) hI O O O O As O O O O (Ao O (Ao O (Ao O (Ao O (Ao (A9.flat vH9) (Ao O (Ao O (Ao O (Ao (A9.flat vH10) Do))))))))))<|Af<|Az ?_
  refine Ac<|Aa3 [(some (.rows g 9 [[(.I r.ID),(.I r.Many),(.I r.Term),(.I r.Vote),(.sl 2 (List.map Ah r1.2.1)),(.I r.Role),(.I r1.1),(.sl 1 (List.map rB r.Votes)),(.sl 1 (List.map (rI .i64) r1.2.2))]])),(some (.rows g1 9 [[(.I 0),(.I 0),(.I 0),(.I 0),.emp,(.I 0),(.I 0),.emp,.emp]])),none,none] [(2,(.q ids 0 g)),(4,(.q ids 1 g1))] hI O (.fz (.cons (.same _) (.cons (.same _) (.cons (.same _) (.cons (.same _) (.cons (Dd vH9 (hI.at O O) (hI.at O O) (fun x=>Kk x)) (.cons (.same _) (.cons (.same _) (.cons (.same _) (.cons (Dd vH10 (hI.at O O) (hI.at O O) (fun x=>Ih x)) .nil))))))))) O O (.keep (.drop (.drop .nil)))) (.cons (.same _) (.cons (.same _) .nil))<|B4 Da [[],[],[1],[0,1,2],[0,1,2,2,3,3],[0,1,2,3,4,4]] [(false,0),(false,1),(true,2),(true,3),(false,4),(false,5)] (by kernel_rfl)<|Z (.agg [(.I r.ID),(.I r.Many),(.I r.Term),(.I r.Vote),(.sl 2 (List.map Ah r1.2.1)),(.I r.Role),(.I r1.1),(.sl 1 (List.map rB r.Votes)),(.sl 1 (List.map (rI .i64) r1.2.2))]) O O (An (Aq hI O O O As O))<|Z (.agg [(.I r.ID),(.I r.Many),(.I r.Term),(.I r.Vote),(.sl 2 (List.map Ah r1.2.1)),(.I r.Role),(.I r1.1),(.sl 1 (List.map rB r.Votes)),(.sl 1 (List.map (rI .i64) r1.2.2))]) O O (An (Aq hI O O O As O))<|Dy [(.agg [(.I r.ID),(.I r.Many),(.I r.Term),(.I r.Vote),(.sl 2 (List.map Ah r1.2.1)),(.I r.Role),(.I r1.1),(.sl 1 (List.map rB r.Votes)),(.sl 1 (List.map (rI .i64) r1.2.2))])] O O O O O (fun hb=>Bv.weak (.cons (.aggL (.cons (.same _) (.cons (.same _) (.cons (.same _) (.cons (.same _) (.cons (.same _) (.cons (.same _) (.cons (.same _) (.cons (.same _) (.cons (.same _) .nil)))))))))) .nil) ((W9 ({ ID:=r.ID,Many:=r.Many,Term:=r.Term,Vote:=r.Vote,Log:=r1.2.1,Role:=r.Role,Commit:=r1.1,Votes:=r.Votes,Match:=r1.2.2 }:Replica)) _ hb)) (fun v _ _ _=>Bh Tryz.func11 hI) (Y O (Ad O (An (Aq hI O O O As O)) At)) fun r2 _=>Bi O (fun _ _=>O) (fun K hK=>A3 (A6 (v:=(.agg [(.I r.ID),(.I r.Many),(.I r.Term),(.I r.Vote),(.sl 2 (List.map Ah r1.2.1)),(.I r.Role),(.I r1.1),(.sl 1 (List.map rB r.Votes)),(.sl 1 (List.map (rI .i64) r1.2.2))])) hI O O O O As O O O O O) (hK _ _ (Y O (Y O At)) ?_))
  clear hK K
  refine Z (.sl 10 (List.map Ak r2)) O O Au<|Z (.I 0) O O Au<|Bb<|Az ?_
  exact B3 (a:=(({ ID:=r.ID,Many:=r.Many,Term:=r.Term,Vote:=r.Vote,Log:=r1.2.1,Role:=r.Role,Commit:=r1.1,Votes:=r.Votes,Match:=r1.2.2 }:Replica),r2,0)) (vs:=[(.agg [(.I r.ID),(.I r.Many),(.I r.Term),(.I r.Vote),(.sl 2 (List.map Ah r1.2.1)),(.I r.Role),(.I r1.1),(.sl 1 (List.map rB r.Votes)),(.sl 1 (List.map (rI .i64) r1.2.2))]),(.sl 10 (List.map Ak r2)),(.I 0)]) Tryz.func11 hI (By (Aq hI O O O As O) (Cz (Cz Cd))) (.tupL (.cons (.aggL (.cons (.same _) (.cons (.same _) (.cons (.same _) (.cons (.same _) (.cons (.same _) (.cons (.same _) (.cons (.same _) (.cons (.same _) (.cons (.same _) .nil)))))))))) (.cons (.same _) (.cons (.same _) .nil))))
 refine R9 Da (.node 8 3 (.leaf [[],[],[1],[0,1,2],[],[4],[],[4,5,6],[0,1,2,3,4,5,6,7],[0,1,2,3,4,5,6,7,8],[0,1,2,3,4,5,6,7,8,9],[0,1,2,3,4,5,6,7,8,9,9,9,10]] [(false,1),(false,2),(false,4),(false,5),(false,6),(false,7),(true,0),(true,3),(true,8),(true,9),(false,10),(true,11)]) (.node 8 0 (.leaf [[],[],[1],[0,1,2,4,5,6,7,8],[],[4],[],[4,5,6],[0,4,5,6,7],[0,1,2,3,4,5,6,7,8],[0,1,2,3,4,5,6,7,8,9],[0,1,2,3,4,5,6,7,8,9,9,9,10]] [(false,1),(false,2),(false,4),(false,5),(false,6),(false,7),(true,0),(true,8),(true,3),(true,9),(false,10),(true,11)]) (.leaf [[4,5,6,7,8],[],[1],[0,1,2,4,5,6,7,8],[],[4],[],[4,5,6],[4,5,6,7],[0,1,2,3,4,5,6,7,8],[0,1,2,3,4,5,6,7,8,9],[0,1,2,3,4,5,6,7,8,9,9,9,10]] [(false,1),(false,2),(false,4),(false,5),(false,6),(false,7),(true,8),(true,0),(true,3),(true,9),(false,10),(true,11)]))) (by kernel_rfl)<|H4 ?_ ?_
 ·refine Fp<|Z (.ptr (ix ids 0) g 0 4) O O (Aj (Ag (c:=0) (off:=4) (i:=4) As O Ba O))<|Z (.sl 2 (List.map Ah r.Log)) O O (An (Aq hI O O O Ba O))<|Z (.ptr (ix ids 0) g 0 2) O O (Aj (Ag (c:=0) (off:=2) (i:=2) As O Av O))<|Z (.I r.Term) O O (An (Aq hI O O O Av O))<|Z (.sl 1 (List.map (rI .u8) data)) O O Ab<|Z (.agg [(.I r.Term),(.sl 1 (List.map (rI .u8) data))]) O O (Du (Hn C2 Ua O)) ?_
  refine Ch O O (fun _ _=>O) (fun K hK=>Yq Ba C2 (hK _ _ (Ad O (Du (Hn C2 Ua O)) (Ad O Ab (Ad O (An (Aq hI O O O Av O)) (Ad O (Aj (Ag (c:=0) (off:=2) (i:=2) As O Av O)) (Ad O (An (Aq hI O O O Ba O)) (Ad O (Aj (Ag (c:=0) (off:=4) (i:=4) As O Ba O)) At)))))) ?_))
  clear hK K
  refine Cb fun hl=>Ch O O (fun _ _=>O) (fun K hK=>Eb (e:=Ah) (L:=([]:List Record)) (L2:=r.Log) (v:=.emp) (g:=0) (st:=2) (j:=2) hI O O O .nil O (Fe O) Ba Ba O C2 O O O (by simpa using hl) fun v g2 vH=>hK _ _ (Ad O (Du (Hn C2 Ua O)) (Ad O Ab (Ad O (An (Aq hI O O O Av O)) (Ad O (Aj (Ag (c:=0) (off:=2) (i:=2) As O Av O)) (Y O (Y O At)))))) ?_)
  clear hK K
  refine Ch O O (fun _ _=>O) (fun K hK=>Hp (e:=Ah) (L:=[({ Term:=r.Term,Data:=data }:Record)]) (st:=2) (rows:=[[(.I r.Term),(.sl 1 (List.map (rI .u8) data))]]) Ba C2 O O O O O (.cons (.cons (.same _) (.cons (.same _) .nil)) .nil) (fun x=>Kk x) O O (hK _ _ (Y O (Y O (Y O (Y O (Y O (Y O At)))))) ?_))
  clear hK K
  refine Cb fun hl1=>Ch O O (fun _ _=>O) (fun K hK=>Eb (e:=Ah) (L:=r.Log) (L2:=[({ Term:=r.Term,Data:=data }:Record)]) (v:=v) (g:=g2) (st:=2) (j:=2) hI O O O vH O (Fe O) Ba Ba O C2 O O O hl1 fun v1 g3 vH1=>hK _ _ (Y O (Y O (Y O (Y O (Y O (Y O At)))))) ?_)
  clear hK K
  refine Z (.ptr (ix ids 0) g 0 4) O O (Aj (Ag (c:=0) (off:=4) (i:=4) As O Ba O))<|Bi O (fun _ _=>O) (fun K hK=>A3 (B8 vH1 hI O O O O Ba O O O) (hK _ _ (Y O (Y O (Y O (Y O (Y O (Y O (Y O At))))))) ?_))
  clear hK K
  refine Bb<|Az ?_
  exact Bk (hJ (r.Log++[({ Term:=r.Term,Data:=data }:Record)]) _ _ ⟨v1,g3,vH1,O,O⟩)
 refine H4 ?_ ?_
 ·refine Fp<|Cb fun hl2=>Cb fun hl3=>Z (.ptr (ix ids 0) g 0 4) O O (Aj (Ag (c:=0) (off:=4) (i:=4) As O Ba O))<|Z (.sl 2 (List.map Ah r.Log)) O O (An (Aq hI O O O Ba O))<|Z (.ptr (ix ids 0) g 0 2) O O (Aj (Ag (c:=0) (off:=2) (i:=2) As O Av O))<|Z (.I r.Term) O O (An (Aq hI O O O Av O)) ?_
  refine Z (.sl 1 (List.map (rI .u8) data)) O O Ab<|Z (.agg [(.I r.Term),(.sl 1 (List.map (rI .u8) data))]) O O (Du (Hn C2 Ua O))<|Ch O O (fun _ _=>O) (fun K hK=>Yq Ba C2 (hK _ _ (Ad O (Du (Hn C2 Ua O)) (Ad O Ab (Ad O (An (Aq hI O O O Av O)) (Ad O (Aj (Ag (c:=0) (off:=2) (i:=2) As O Av O)) (Ad O (An (Aq hI O O O Ba O)) (Ad O (Aj (Ag (c:=0) (off:=4) (i:=4) As O Ba O)) At)))))) ?_))
  clear hK K
  refine Ch O O (fun _ _=>O) (fun K hK=>Hp (e:=Ah) (L:=[({ Term:=r.Term,Data:=data }:Record)]) (st:=2) (rows:=[[(.I r.Term),(.sl 1 (List.map (rI .u8) data))]]) Ba C2 O O O O O (.cons (.cons (.same _) (.cons (.same _) .nil)) .nil) (fun x=>Kk x) O O (hK _ _ (Y O (Y O (Y O (Y O (Ad O (An (Aq hI O O O Ba O)) (Ad O (Aj (Ag (c:=0) (off:=4) (i:=4) As O Ba O)) At)))))) ?_))
  clear hK K
  refine Ch O O (fun _ _=>O) (fun K hK=>Eb (e:=Ah) (L:=([]:List Record)) (L2:=r.Log) (v:=.emp) (g:=0) (st:=2) (j:=2) hI O O O .nil O (Fe O) Ba Ba O C2 O O O (by simpa using hl2) fun v2 g4 vH2=>hK _ _ (Y O (Y O (Y O (Y O (Y O (Y O At)))))) ?_)
  clear hK K
  refine Ch O O (fun _ _=>O) (fun K hK=>Eb (e:=Ah) (L:=r.Log) (L2:=[({ Term:=r.Term,Data:=data }:Record)]) (v:=v2) (g:=g4) (st:=2) (j:=2) hI O O O vH2 O (Fe O) Ba Ba O C2 O O O hl3 fun v3 g5 vH3=>hK _ _ (Y O (Y O (Y O (Y O (Y O (Y O At)))))) ?_)
  clear hK K
  refine Z (.ptr (ix ids 0) g 0 4) O O (Aj (Ag (c:=0) (off:=4) (i:=4) As O Ba O))<|Bi O (fun _ _=>O) (fun K hK=>A3 (B8 vH3 hI O O O O Ba O O O) (hK _ _ (Y O (Y O (Y O (Y O (Y O (Y O (Y O At))))))) ?_))
  clear hK K
  refine Bb<|Az ?_
  exact Bk (hJ (r.Log++[({ Term:=r.Term,Data:=data }:Record)]) _ _ ⟨v3,g5,vH3,O,O⟩)
 refine Fp<|Cb fun hl4=>Cb fun hl5=>Z (.ptr (ix ids 0) g 0 4) O O (Aj (Ag (c:=0) (off:=4) (i:=4) As O Ba O))<|Z (.sl 2 (List.map Ah r.Log)) O O (An (Aq hI O O O Ba O))<|Z (.ptr (ix ids 0) g 0 2) O O (Aj (Ag (c:=0) (off:=2) (i:=2) As O Av O))<|Z (.I r.Term) O O (An (Aq hI O O O Av O)) ?_
 refine Z (.sl 1 (List.map (rI .u8) data)) O O Ab<|Z (.agg [(.I r.Term),(.sl 1 (List.map (rI .u8) data))]) O O (Du (Hn C2 Ua O))<|Ch O O (fun _ _=>O) (fun K hK=>Hp (e:=Ah) (L:=[({ Term:=r.Term,Data:=data }:Record)]) (st:=2) (rows:=[[(.I r.Term),(.sl 1 (List.map (rI .u8) data))]]) Ba C2 O O O O O (.cons (.cons (.same _) (.cons (.same _) .nil)) .nil) (fun x=>Kk x) O O (hK _ _ (Y O (Y O (Y O (Y O (Ad O (An (Aq hI O O O Ba O)) (Ad O (Aj (Ag (c:=0) (off:=4) (i:=4) As O Ba O)) At)))))) ?_))
 clear hK K
 refine Ch O O (fun _ _=>O) (fun K hK=>Yq Ba C2 (hK _ _ (Y O (Y O (Y O (Y O (Ad O (An (Aq hI O O O Ba O)) (Ad O (Aj (Ag (c:=0) (off:=4) (i:=4) As O Ba O)) At)))))) ?_))
 clear hK K
 refine Ch O O (fun _ _=>O) (fun K hK=>Eb (e:=Ah) (L:=([]:List Record)) (L2:=r.Log) (v:=.emp) (g:=0) (st:=2) (j:=2) hI O O O .nil O (Fe O) Ba Ba O C2 O O O (by simpa using hl4) fun v4 g6 vH4=>hK _ _ (Y O (Y O (Y O (Y O (Y O (Y O At)))))) ?_)
 clear hK K
 refine Ch O O (fun _ _=>O) (fun K hK=>Eb (e:=Ah) (L:=r.Log) (L2:=[({ Term:=r.Term,Data:=data }:Record)]) (v:=v4) (g:=g6) (st:=2) (j:=2) hI O O O vH4 O (Fe O) Ba Ba O C2 O O O hl5 fun v5 g7 vH5=>hK _ _ (Y O (Y O (Y O (Y O (Y O (Y O At)))))) ?_)
 clear hK K
 refine Z (.ptr (ix ids 0) g 0 4) O O (Aj (Ag (c:=0) (off:=4) (i:=4) As O Ba O))<|Bi O (fun _ _=>O) (fun K hK=>A3 (B8 vH5 hI O O O O Ba O O O) (hK _ _ (Y O (Y O (Y O (Y O (Y O (Y O (Y O At))))))) ?_))
 clear hK K
 refine Bb<|Az ?_
 exact Bk (hJ (r.Log++[({ Term:=r.Term,Data:=data }:Record)]) _ _ ⟨v5,g7,vH5,O,O⟩)
theorem Acy (a:Record)(b:Record):CP Tryz.prog 64 [(.agg (Ah a)),(.agg (Ah b))] (Tn a b) (fun(x:Bool)=>(AV.bool x)):=by
 refine C7 (n:=19) 2 Tryz.func64 O (by decide) O O fun h0 ids hI=>B0 (Ax (Tn.eq_1 _ _) ?_)
 refine Ac<|Aa<|Cy (v:=(.agg (Ah a))) (j:=0) hI O O O O O O O fun g=>Cy (v:=(.agg (Ah b))) (j:=1) hI O O O O O O O fun g1=>Ae (.bool false) O Au<|Af<|Az ?_
 refine Ac<|Aa<|Al 6 [0,1] [(10,(.bool (a.Term==b.Term)))] ?_
 refine B7 8 [(18,(.bool ((a.Term==b.Term)&&((Cx a.Data)==(Cx b.Data)))))] ?_ fun hJ=>Bz (a.Term==b.Term) (fun hb1=>?_) (fun hb1=>?_)
 ·refine Ae (.bool ((a.Term==b.Term)&&((Cx a.Data)==(Cx b.Data)))) O Au<|Af<|B3 (a:=((a.Term==b.Term)&&((Cx a.Data)==(Cx b.Data)))) (vs:=[(.bool ((a.Term==b.Term)&&((Cx a.Data)==(Cx b.Data))))]) Tryz.func64 hI O (.same _)
 ·refine A8 (t:=10) hb1 O<|Al 2 [0] [(12,(.sl 1 (List.map (rI .u8) a.Data)))] ?_
  refine Cg (tj:=10) (.str (Cx a.Data)) O O O (Eo (Ph D6 Kn Kb O))<|Al 2 [1] [(15,(.sl 1 (List.map (rI .u8) b.Data)))] ?_
  refine Cg (tj:=10) (.str (Cx b.Data)) O O O (Eo (Ph D6 Kn Kb O))<|Al 2 [] [(18,(.bool ((Cx a.Data)==(Cx b.Data))))] ?_
  exact Bl hJ (.cons (G1 hb1) .nil)
 refine A8 (t:=10) hb1 O<|Al 8 [] [(18,(.bool false))] ?_
 exact Bl hJ (.cons (G2 hb1) .nil)
theorem U2 (a:List Record)(b:List Record):CP Tryz.prog 42 [(.sl 2 (List.map Ah a)),(.sl 2 (List.map Ah b))] (M7 a b) (fun(x:Bool)=>(AV.bool x)):=by
 refine C7 (n:=27) 0 Tryz.func42 O (by decide) O O fun h0 ids hI=>B0 (Ax (M7.eq_1 _ _) ?_)
 refine Ac<|Aa<|Ae (.bool false) O Au<|Af<|Ac<|Ac<|Aa ?_
 refine Ae (.sl 2 (List.map Ah a)) O Ab<|Ae (.I (a.length:Int)) O (Bm (Bo Ba))<|Ae (.sl 2 (List.map Ah b)) O Ab<|Ae (.I (b.length:Int)) O (Bm (Bo Ba))<|Ae (.bool (decide ((a.length:Int) > (b.length:Int)))) O (Bf O O O)<|Af<|Gf O (fun hc=>?_) (fun hc=>?_)
 ·refine Ac<|Aa<|Ae (.bool false) O Au<|Af<|B3 (a:=false) (vs:=[(.bool false)]) Tryz.func42 hI O (.same _)
 refine Bd<|Ac<|Ac<|Aa<|Ae (.I 0) O Au<|Af<|Bn ?_
 refine Ft [(0,(.sl 2 (List.map Ah a))),(1,(.sl 2 (List.map Ah b))),(5,(.I 0))] (FI O)<|Mn (P:=Tryz.prog) a (fun j a1=>fun _=>Mj b j a1) ((F4 (fun _=>.ok true) (fun r=>.ok r)):(Unit ⊕ Bool)→R Bool) (fun j=>fun _=>fun(fr:Nat→AV) (h:Ai)=>fr=A0 [(0,(.sl 2 (List.map Ah a))),(1,(.sl 2 (List.map Ah b))),(5,(.I (j:Int)))]∧h=hp h0 ids []) () ?_ ?_ ?_
 ·exact⟨O,O⟩
 ·rintro j a1 ha1 W hW _ fr h ⟨rfl,rfl⟩
  refine Ax (m':=Mj b j a1) O (Ax (Mj.eq_1 _ _ _) ?_)
  refine Ac<|Ac<|Aa<|Al 2 [] [(12,(.sl 2 (List.map Ah a))),(11,(.I (j:Int)))] ?_
  refine Ae (.I (a.length:Int)) O (Bm (Bo Ba))<|Ae (.bool (decide ((j:Int)<(a.length:Int)))) O (Bf O O O)<|Af<|K4 (t:=0) (L:=a) O fun hlim=>Hv O (Int.ofNat_lt.2 (B5 ha1))<|Bd<|Ac ?_
  refine Bn<|Ac<|B4 Da [[],[],[0,1],[0,1,2],[],[],[4,5],[4,5,6],[0,1,2,3,4,5,6,7],[0,1,2,3,4,5,6,7,8]] [(false,0),(false,1),(false,2),(false,3),(false,4),(false,5),(false,6),(false,7),(true,8),(false,9)] (by kernel_rfl)<|Z (.sl 2 (List.map Ah a)) O O Ab<|Z (.I (j:Int)) O O Ab<|Z (.cp (Ah a1) 0) O O (Bu (Kv Ba C2 O ha1))<|Z (.agg (Ah a1)) O O (An (Eh C2 O)) ?_
  refine Z (.sl 2 (List.map Ah b)) O O Ab<|Z (.I (j:Int)) O O Ab<|G0 fun a2 hz hx1=>Z (.cp (Ah a2) 0) O O (Bu (E6 Ba C2 O hz hx1))<|Z (.agg (Ah a2)) O O (An (Eh C2 O))<|Dy [(.agg (Ah a1)),(.agg (Ah a2))] O O O O O ((Acy a1 a2) _) (fun v _ _ _=>Bh Tryz.func42 hI) (Y O (Y O (Y O (Y O (Y O (Y O (Y O (Y O At)))))))) fun r _=>Z (.bool (!r)) O O (P3 O) ?_
  refine Bb<|Mq O (fun hc1=>?_) (fun hc1=>?_)
  ·refine Bd<|Bp<|Aa<|Al 3 [] [(5,(.I (IntKind.wrap .i64 ((j:Int)+1))))] ?_
   refine Af<|Bk (Ou (hW () _ _ ⟨O,O⟩)) (.cons O (.cons O (.cons (H8 (B5 ha1) hlim) .nil)))
  refine Ac<|Aa<|Ae (.bool false) O Au<|Af<|Oy<|Mb<|B3 (a:=false) (vs:=[(.bool false)]) Tryz.func42 hI O (.same _)
 rintro _ fr h ⟨rfl,rfl⟩
 refine Ax (Ov _ _ _)<|Ac<|Ac<|Aa<|Al 2 [] [(12,(.sl 2 (List.map Ah a))),(11,(.I (a.length:Int)))] ?_
 refine Ae (.I (a.length:Int)) O (Bm (Bo Ba))<|Ae (.bool (decide ((a.length:Int)<(a.length:Int)))) O (Bf O O O)<|Af<|Hu O (Int.lt_irrefl _)<|Ea O<|Ac<|Aa ?_
 refine Ae (.bool true) O Au<|Af<|B3 (a:=true) (vs:=[(.bool true)]) Tryz.func42 hI O (.same _)
theorem Qv (a:Replica)(b:Replica):CP Tryz.prog 12 [(.agg (Ap a)),(.agg (Ap b))] (Hj a b) (fun(x:Bool)=>(AV.bool x)):=by
 refine C7 (n:=118) 2 Tryz.func12 O (by decide) O O fun h0 ids hI=>B0 (Ax (Hj.eq_1 _ _) ?_)
 refine Ac<|Aa<|Cy (v:=(.agg (Ap a))) (j:=0) hI O O O O O O O fun g=>Cy (v:=(.agg (Ap b))) (j:=1) hI O O O O O O O fun g1=>Ae (.bool false) O Au<|Af<|Az ?_
 refine Ac<|Ac<|Aa<|Al 6 [0,1] [(12,(.bool (a.ID != b.ID)))] ?_
 refine B7 6 [(2,(.q ids 0 g)),(3,(.q ids 1 g1)),(18,(.bool ((a.ID != b.ID)||(a.Many != b.Many))))] ?_ fun hJ=>Bz (a.ID != b.ID) (fun hb1=>?_) (fun hb1=>?_)
 ·refine Ae (.bool ((a.ID != b.ID)||(a.Many != b.Many))) O Ab<|B7 6 [(2,(.q ids 0 g)),(3,(.q ids 1 g1)),(25,(.bool (((a.ID != b.ID)||(a.Many != b.Many))||(a.Term != b.Term))))] ?_ fun hJ1=>Bz ((a.ID != b.ID)||(a.Many != b.Many)) (fun hb3=>?_) (fun hb3=>?_)
  ·refine Ae (.bool (((a.ID != b.ID)||(a.Many != b.Many))||(a.Term != b.Term))) O Ab<|B7 6 [(2,(.q ids 0 g)),(3,(.q ids 1 g1)),(32,(.bool ((((a.ID != b.ID)||(a.Many != b.Many))||(a.Term != b.Term))||(a.Vote != b.Vote))))] ?_ fun hJ2=>Bz (((a.ID != b.ID)||(a.Many != b.Many))||(a.Term != b.Term)) (fun hb5=>?_) (fun hb5=>?_)
   ·refine Ae (.bool ((((a.ID != b.ID)||(a.Many != b.Many))||(a.Term != b.Term))||(a.Vote != b.Vote))) O Ab<|B7 6 [(2,(.q ids 0 g)),(3,(.q ids 1 g1)),(39,(.bool (((((a.ID != b.ID)||(a.Many != b.Many))||(a.Term != b.Term))||(a.Vote != b.Vote))||(a.Role != b.Role))))] ?_ fun hJ3=>Bz ((((a.ID != b.ID)||(a.Many != b.Many))||(a.Term != b.Term))||(a.Vote != b.Vote)) (fun hb7=>?_) (fun hb7=>?_)
    ·refine Ae (.bool (((((a.ID != b.ID)||(a.Many != b.Many))||(a.Term != b.Term))||(a.Vote != b.Vote))||(a.Role != b.Role))) O Ab<|B7 6 [(2,(.q ids 0 g)),(3,(.q ids 1 g1)),(46,(.bool ((((((a.ID != b.ID)||(a.Many != b.Many))||(a.Term != b.Term))||(a.Vote != b.Vote))||(a.Role != b.Role))||(a.Commit != b.Commit))))] ?_ fun hJ4=>Bz (((((a.ID != b.ID)||(a.Many != b.Many))||(a.Term != b.Term))||(a.Vote != b.Vote))||(a.Role != b.Role)) (fun hb9=>?_) (fun hb9=>?_)
     ·refine Ae (.bool ((((((a.ID != b.ID)||(a.Many != b.Many))||(a.Term != b.Term))||(a.Vote != b.Vote))||(a.Role != b.Role))||(a.Commit != b.Commit))) O Ab<|B7 8 [(2,(.q ids 0 g)),(3,(.q ids 1 g1)),(55,(.bool (((((((a.ID != b.ID)||(a.Many != b.Many))||(a.Term != b.Term))||(a.Vote != b.Vote))||(a.Role != b.Role))||(a.Commit != b.Commit))||((a.Log.length:Int) != (b.Log.length:Int)))))] ?_ fun hJ5=>Bz ((((((a.ID != b.ID)||(a.Many != b.Many))||(a.Term != b.Term))||(a.Vote != b.Vote))||(a.Role != b.Role))||(a.Commit != b.Commit)) (fun hb11=>?_) (fun hb11=>?_)
      ·refine Ae (.bool (((((((a.ID != b.ID)||(a.Many != b.Many))||(a.Term != b.Term))||(a.Vote != b.Vote))||(a.Role != b.Role))||(a.Commit != b.Commit))||((a.Log.length:Int) != (b.Log.length:Int)))) O Ab<|Dj 7 ((fun(b1:Bool)=>if((b1||((a.Votes.length:Int) != (b.Votes.length:Int)))||((a.Match.length:Int) != (b.Match.length:Int))) then(.ok false) else((each (fun j a1=>fun _=>L5 b j a1) 0 a.Votes ()).bind (F4 (fun _=>(each (fun j1 a3=>fun _=>Ky b j1 a3) 0 a.Match ()).bind (F4 (fun _=>.ok true) (fun r=>.ok r))) (fun r=>.ok r)))):Bool→R Bool) (fun(b1:Bool) (fr:Nat→AV) (h:Ai)=>fr=A0 [(2,(.q ids 0 g)),(3,(.q ids 1 g1)),(63,(.bool b1))]∧h=hp h0 ids [(some (.rows g 9 [(Ap a)])),(some (.rows g1 9 [(Ap b)]))]) ?_ fun hJ6=>Dw (fun hb13=>?_) (fun hb13=>?_)
       ·rintro b1 fr h ⟨rfl,rfl⟩
        refine Ae (.bool b1) O Ab<|B7 8 [(2,(.q ids 0 g)),(3,(.q ids 1 g1)),(72,(.bool (b1||((a.Votes.length:Int) != (b.Votes.length:Int)))))] ?_ fun hJ7=>Bz b1 (fun hb15=>?_) (fun hb15=>?_)
        ·refine Ae (.bool (b1||((a.Votes.length:Int) != (b.Votes.length:Int)))) O Ab<|B7 8 [(2,(.q ids 0 g)),(3,(.q ids 1 g1)),(81,(.bool ((b1||((a.Votes.length:Int) != (b.Votes.length:Int)))||((a.Match.length:Int) != (b.Match.length:Int)))))] ?_ fun hJ8=>Bz (b1||((a.Votes.length:Int) != (b.Votes.length:Int))) (fun hb17=>?_) (fun hb17=>?_)
         ·refine Af<|Cp O (fun hc=>?_) (fun hc=>?_)
          ·refine Ac<|Aa<|Ae (.bool false) O Au<|Af<|B3 (a:=false) (vs:=[(.bool false)]) Tryz.func12 hI O (.same _)
          refine Bd<|Ac<|Ac<|Aa<|Ae (.I 0) O Au<|Af<|Bn ?_
          refine Ft [(2,(.q ids 0 g)),(3,(.q ids 1 g1)),(5,(.I 0))] (FI O)<|Mn (P:=Tryz.prog) a.Votes (fun j a1=>fun _=>L5 b j a1) ((F4 (fun _=>(each (fun j1 a3=>fun _=>Ky b j1 a3) 0 a.Match ()).bind (F4 (fun _=>.ok true) (fun r=>.ok r))) (fun r=>.ok r)):(Unit ⊕ Bool)→R Bool) (fun j=>fun _=>fun(fr:Nat→AV) (h:Ai)=>fr=A0 [(2,(.q ids 0 g)),(3,(.q ids 1 g1)),(5,(.I (j:Int)))]∧h=hp h0 ids [(some (.rows g 9 [(Ap a)])),(some (.rows g1 9 [(Ap b)]))]) () ?_ ?_ ?_
          ·exact⟨O,O⟩
          ·rintro j a1 ha1 W hW _ fr h ⟨rfl,rfl⟩
           refine Ax (m':=L5 b j a1) O (Ax (L5.eq_1 _ _ _) ?_)
           refine Ac<|Ac<|Aa<|Al 3 [0] [(84,(.sl 1 (List.map rB a.Votes))),(82,(.I (j:Int)))] ?_
           refine Ae (.I (a.Votes.length:Int)) O (Bm (Bo Cn))<|Ae (.bool (decide ((j:Int)<(a.Votes.length:Int)))) O (Bf O O O)<|Af<|K4 (t:=84) (L:=a.Votes) O fun hlim1=>Hv O (Int.ofNat_lt.2 (B5 ha1))<|Bd<|Ac ?_
           refine Bn<|Ac<|B4 Da [[],[0],[],[0,1,2],[0,1,2,3],[],[5],[],[5,6,7],[5,6,7,8],[0,1,2,3,4,5,6,7,8,9]] [(false,0),(false,1),(false,2),(false,3),(false,4),(false,5),(false,6),(false,7),(false,8),(false,9),(false,10)] (by kernel_rfl)<|Z (.ptr (ix ids 0) g 0 7) O O (Aj (Ag (c:=0) (off:=7) (i:=7) As O Cn O))<|Z (.sl 1 (List.map rB a.Votes)) O O (An (Aq hI O O O Cn O))<|Z (.I (j:Int)) O O Ab<|Z (.cp [(.bool a1)] 0) O O (Bu (Kv Cn Gm O ha1)) ?_
           refine Z (.bool a1) O O (An (Eh Gm O))<|Z (.ptr (ix ids 1) g1 0 7) O O (Aj (Ag (c:=0) (off:=7) (i:=7) As O Cn O))<|Z (.sl 1 (List.map rB b.Votes)) O O (An (Aq hI O O O Cn O))<|Z (.I (j:Int)) O O Ab<|G0 fun a2 hz hx1=>Z (.cp [(.bool a2)] 0) O O (Bu (E6 Cn Gm O hz hx1))<|Z (.bool a2) O O (An (Eh Gm O)) ?_
           refine Z (.bool (!(a1==a2))) O O (Bf O O (Ak1 Gm))<|Bb<|Mq O (fun hc1=>?_) (fun hc1=>?_)
           ·refine Bd<|Bp<|Aa<|Al 3 [] [(5,(.I (IntKind.wrap .i64 ((j:Int)+1))))] ?_
            refine Af<|Bk (Ou (hW () _ _ ⟨O,O⟩)) (.cons O (.cons O (.cons (H8 (B5 ha1) hlim1) .nil)))
           refine Ac<|Aa<|Ae (.bool false) O Au<|Af<|Oy<|Mb<|B3 (a:=false) (vs:=[(.bool false)]) Tryz.func12 hI O (.same _)
          rintro _ fr h ⟨rfl,rfl⟩
          refine Ax (Ov _ _ _)<|Ac<|Ac<|Aa<|Al 3 [0] [(84,(.sl 1 (List.map rB a.Votes))),(82,(.I (a.Votes.length:Int)))] ?_
          refine Ae (.I (a.Votes.length:Int)) O (Bm (Bo Cn))<|Ae (.bool (decide ((a.Votes.length:Int)<(a.Votes.length:Int)))) O (Bf O O O)<|Af<|Hu O (Int.lt_irrefl _)<|Ea O<|Ac<|Ac ?_
          refine Aa<|Ae (.I 0) O Au<|Af<|Bn<|Ft [(2,(.q ids 0 g)),(3,(.q ids 1 g1)),(6,(.I 0))] (FI O)<|Mn (P:=Tryz.prog) a.Match (fun j1 a3=>fun _=>Ky b j1 a3) ((F4 (fun _=>.ok true) (fun r=>.ok r)):(Unit ⊕ Bool)→R Bool) (fun j1=>fun _=>fun(fr:Nat→AV) (h:Ai)=>fr=A0 [(2,(.q ids 0 g)),(3,(.q ids 1 g1)),(6,(.I (j1:Int)))]∧h=hp h0 ids [(some (.rows g 9 [(Ap a)])),(some (.rows g1 9 [(Ap b)]))]) () ?_ ?_ ?_
          ·exact⟨O,O⟩
          ·rintro j1 a3 ha3 W hW1 _ fr h ⟨rfl,rfl⟩
           refine Ax (m':=Ky b j1 a3) O (Ax (Ky.eq_1 _ _ _) ?_)
           refine Ac<|Ac<|Aa<|Al 3 [0] [(102,(.sl 1 (List.map (rI .i64) a.Match))),(100,(.I (j1:Int)))] ?_
           refine Ae (.I (a.Match.length:Int)) O (Bm (Bo Bt))<|Ae (.bool (decide ((j1:Int)<(a.Match.length:Int)))) O (Bf O O O)<|Af<|K4 (t:=102) (L:=a.Match) O fun hlim3=>Hv O (Int.ofNat_lt.2 (B5 ha3))<|Bd<|Ac ?_
           refine Bn<|Ac<|B4 Da [[],[0],[],[0,1,2],[0,1,2,3],[],[5],[],[5,6,7],[5,6,7,8],[0,1,2,3,4,5,6,7,8,9]] [(false,0),(false,1),(false,2),(false,3),(false,4),(false,5),(false,6),(false,7),(false,8),(false,9),(false,10)] (by kernel_rfl)<|Z (.ptr (ix ids 0) g 0 8) O O (Aj (Ag (c:=0) (off:=8) (i:=8) As O Bt O))<|Z (.sl 1 (List.map (rI .i64) a.Match)) O O (An (Aq hI O O O Bt O))<|Z (.I (j1:Int)) O O Ab<|Z (.cp [(.I a3)] 0) O O (Bu (Kv Bt Av O ha3)) ?_
           refine Z (.I a3) O O (An (Eh Av O))<|Z (.ptr (ix ids 1) g1 0 8) O O (Aj (Ag (c:=0) (off:=8) (i:=8) As O Bt O))<|Z (.sl 1 (List.map (rI .i64) b.Match)) O O (An (Aq hI O O O Bt O))<|Z (.I (j1:Int)) O O Ab<|G0 fun a4 hz1 hx2=>Z (.cp [(.I a4)] 0) O O (Bu (E6 Bt Av O hz1 hx2))<|Z (.I a4) O O (An (Eh Av O)) ?_
           refine Z (.bool (a3 != a4)) O O (Bf O O O)<|Bb<|Cp O (fun hc2=>?_) (fun hc2=>?_)
           ·refine Ac<|Aa<|Ae (.bool false) O Au<|Af<|Oy<|Mb<|B3 (a:=false) (vs:=[(.bool false)]) Tryz.func12 hI O (.same _)
           refine Bd<|Bp<|Aa<|Al 3 [] [(6,(.I (IntKind.wrap .i64 ((j1:Int)+1))))] ?_
           refine Af<|Bk (Ou (hW1 () _ _ ⟨O,O⟩)) (.cons O (.cons O (.cons (H8 (B5 ha3) hlim3) .nil)))
          rintro _ fr h ⟨rfl,rfl⟩
          refine Ax (Ov _ _ _)<|Ac<|Ac<|Aa<|Al 3 [0] [(102,(.sl 1 (List.map (rI .i64) a.Match))),(100,(.I (a.Match.length:Int)))] ?_
          refine Ae (.I (a.Match.length:Int)) O (Bm (Bo Bt))<|Ae (.bool (decide ((a.Match.length:Int)<(a.Match.length:Int)))) O (Bf O O O)<|Af<|Hu O (Int.lt_irrefl _)<|Ea O<|Ac<|Aa ?_
          refine Ae (.bool true) O Au<|Af<|B3 (a:=true) (vs:=[(.bool true)]) Tryz.func12 hI O (.same _)
         ·refine A8 (t:=73) hb17 O<|Al 8 [] [(81,(.bool true))] ?_
          exact Bl hJ8 (.cons O (.cons O (.cons (Ig hb17) .nil)))
         refine A8 (t:=73) hb17 O<|Al 2 [0] [(75,(.sl 1 (List.map (rI .i64) a.Match)))] ?_
         refine Cg (tj:=73) (.I (a.Match.length:Int)) O O O (Bm (Bo Bt))<|Al 2 [1] [(78,(.sl 1 (List.map (rI .i64) b.Match)))] ?_
         refine Cg (tj:=73) (.I (b.Match.length:Int)) O O O (Bm (Bo Bt))<|Al 2 [] [(81,(.bool ((a.Match.length:Int) != (b.Match.length:Int))))] ?_
         exact Bl hJ8 (.cons O (.cons O (.cons (Ii hb17) .nil)))
        ·refine A8 (t:=64) hb15 O<|Al 8 [] [(72,(.bool true))] ?_
         exact Bl hJ7 (.cons O (.cons O (.cons (Ig hb15) .nil)))
        refine A8 (t:=64) hb15 O<|Al 2 [0] [(66,(.sl 1 (List.map rB a.Votes)))] ?_
        refine Cg (tj:=64) (.I (a.Votes.length:Int)) O O O (Bm (Bo Cn))<|Al 2 [1] [(69,(.sl 1 (List.map rB b.Votes)))] ?_
        refine Cg (tj:=64) (.I (b.Votes.length:Int)) O O O (Bm (Bo Cn))<|Al 2 [] [(72,(.bool ((a.Votes.length:Int) != (b.Votes.length:Int))))] ?_
        exact Bl hJ7 (.cons O (.cons O (.cons (Ii hb15) .nil)))
       ·refine A8 (t:=56) hb13 O<|Al 7 [] [(63,(.bool true))] ?_
        refine Bj<|Cc [(2,(.q ids 0 g)),(3,(.q ids 1 g1)),(63,(.bool true))] (FI O)<|hJ6 true _ _ ⟨O,O⟩
       refine A8 (t:=56) hb13 O<|Al 4 [0,1] [(60,(.sl 2 (List.map Ah b.Log))),(58,(.sl 2 (List.map Ah a.Log)))] ?_
       refine Be [(.sl 2 (List.map Ah a.Log)),(.sl 2 (List.map Ah b.Log))] O (Cu (tj:=56) O O) O O ((U2 a.Log b.Log) _) (fun v _=>Bh Tryz.func12 hI) fun r _=>Al 2 [] [(63,(.bool (!r)))] ?_
       refine Bj<|Cc [(2,(.q ids 0 g)),(3,(.q ids 1 g1)),(63,(.bool (!r)))] (FI O)<|hJ6 (!r) _ _ ⟨O,O⟩
      ·refine A8 (t:=47) hb11 O<|Al 8 [] [(55,(.bool true))] ?_
       exact Bl hJ5 (.cons O (.cons O (.cons (Ig hb11) .nil)))
      refine A8 (t:=47) hb11 O<|Al 2 [0] [(49,(.sl 2 (List.map Ah a.Log)))] ?_
      refine Cg (tj:=47) (.I (a.Log.length:Int)) O O O (Bm (Bo Ba))<|Al 2 [1] [(52,(.sl 2 (List.map Ah b.Log)))] ?_
      refine Cg (tj:=47) (.I (b.Log.length:Int)) O O O (Bm (Bo Ba))<|Al 2 [] [(55,(.bool ((a.Log.length:Int) != (b.Log.length:Int))))] ?_
      exact Bl hJ5 (.cons O (.cons O (.cons (Ii hb11) .nil)))
     ·refine A8 (t:=40) hb9 O<|Al 6 [] [(46,(.bool true))] ?_
      exact Bl hJ4 (.cons O (.cons O (.cons (Ig hb9) .nil)))
     refine A8 (t:=40) hb9 O<|Al 6 [0,1] [(46,(.bool (a.Commit != b.Commit)))] ?_
     exact Bl hJ4 (.cons O (.cons O (.cons (Ii hb9) .nil)))
    ·refine A8 (t:=33) hb7 O<|Al 6 [] [(39,(.bool true))] ?_
     exact Bl hJ3 (.cons O (.cons O (.cons (Ig hb7) .nil)))
    refine A8 (t:=33) hb7 O<|Al 6 [0,1] [(39,(.bool (a.Role != b.Role)))] ?_
    exact Bl hJ3 (.cons O (.cons O (.cons (Ii hb7) .nil)))
   ·refine A8 (t:=26) hb5 O<|Al 6 [] [(32,(.bool true))] ?_
    exact Bl hJ2 (.cons O (.cons O (.cons (Ig hb5) .nil)))
   refine A8 (t:=26) hb5 O<|Al 6 [0,1] [(32,(.bool (a.Vote != b.Vote)))] ?_
   exact Bl hJ2 (.cons O (.cons O (.cons (Ii hb5) .nil)))
  ·refine A8 (t:=19) hb3 O<|Al 6 [] [(25,(.bool true))] ?_
   exact Bl hJ1 (.cons O (.cons O (.cons (Ig hb3) .nil)))
  refine A8 (t:=19) hb3 O<|Al 6 [0,1] [(25,(.bool (a.Term != b.Term)))] ?_
  exact Bl hJ1 (.cons O (.cons O (.cons (Ii hb3) .nil)))
 ·refine A8 (t:=12) hb1 O<|Al 6 [] [(18,(.bool true))] ?_
  exact Bl hJ (.cons O (.cons O (.cons (Ig hb1) .nil)))
 refine A8 (t:=12) hb1 O<|Al 6 [0,1] [(18,(.bool (a.Many != b.Many)))] ?_
 exact Bl hJ (.cons O (.cons O (.cons (Ii hb1) .nil)))
theorem Wz (a:Message)(b:Message):CP Tryz.prog 43 [(.agg (Ak a)),(.agg (Ak b))] (K5 a b) (fun(x:Bool)=>(AV.bool x)):=by
 refine C7 (n:=82) 2 Tryz.func43 O (by decide) O O fun h0 ids hI=>B0 (Ax (K5.eq_1 _ _) ?_)
 refine Ac<|Aa<|Cy (v:=(.agg (Ak a))) (j:=0) hI O O O O O O O fun g=>Cy (v:=(.agg (Ak b))) (j:=1) hI O O O O O O O fun g1=>Ae (.bool false) O Au<|Af<|Az ?_
 refine Ac<|Aa<|Al 6 [0,1] [(10,(.bool (a.Kind==b.Kind)))] ?_
 refine B7 6 [(2,(.q ids 0 g)),(3,(.q ids 1 g1)),(16,(.bool ((a.Kind==b.Kind)&&(a.From==b.From))))] ?_ fun hJ=>Bz (a.Kind==b.Kind) (fun hb1=>?_) (fun hb1=>?_)
 ·refine Ae (.bool ((a.Kind==b.Kind)&&(a.From==b.From))) O Ab<|B7 6 [(2,(.q ids 0 g)),(3,(.q ids 1 g1)),(23,(.bool (((a.Kind==b.Kind)&&(a.From==b.From))&&(a.To==b.To))))] ?_ fun hJ1=>Bz ((a.Kind==b.Kind)&&(a.From==b.From)) (fun hb3=>?_) (fun hb3=>?_)
  ·refine Ae (.bool (((a.Kind==b.Kind)&&(a.From==b.From))&&(a.To==b.To))) O Ab<|B7 6 [(2,(.q ids 0 g)),(3,(.q ids 1 g1)),(30,(.bool ((((a.Kind==b.Kind)&&(a.From==b.From))&&(a.To==b.To))&&(a.Term==b.Term))))] ?_ fun hJ2=>Bz (((a.Kind==b.Kind)&&(a.From==b.From))&&(a.To==b.To)) (fun hb5=>?_) (fun hb5=>?_)
   ·refine Ae (.bool ((((a.Kind==b.Kind)&&(a.From==b.From))&&(a.To==b.To))&&(a.Term==b.Term))) O Ab<|B7 6 [(2,(.q ids 0 g)),(3,(.q ids 1 g1)),(37,(.bool (((((a.Kind==b.Kind)&&(a.From==b.From))&&(a.To==b.To))&&(a.Term==b.Term))&&(a.Last==b.Last))))] ?_ fun hJ3=>Bz ((((a.Kind==b.Kind)&&(a.From==b.From))&&(a.To==b.To))&&(a.Term==b.Term)) (fun hb7=>?_) (fun hb7=>?_)
    ·refine Ae (.bool (((((a.Kind==b.Kind)&&(a.From==b.From))&&(a.To==b.To))&&(a.Term==b.Term))&&(a.Last==b.Last))) O Ab<|B7 6 [(2,(.q ids 0 g)),(3,(.q ids 1 g1)),(44,(.bool ((((((a.Kind==b.Kind)&&(a.From==b.From))&&(a.To==b.To))&&(a.Term==b.Term))&&(a.Last==b.Last))&&(a.LastTerm==b.LastTerm))))] ?_ fun hJ4=>Bz (((((a.Kind==b.Kind)&&(a.From==b.From))&&(a.To==b.To))&&(a.Term==b.Term))&&(a.Last==b.Last)) (fun hb9=>?_) (fun hb9=>?_)
     ·refine Ae (.bool ((((((a.Kind==b.Kind)&&(a.From==b.From))&&(a.To==b.To))&&(a.Term==b.Term))&&(a.Last==b.Last))&&(a.LastTerm==b.LastTerm))) O Ab<|B7 6 [(2,(.q ids 0 g)),(3,(.q ids 1 g1)),(51,(.bool (((((((a.Kind==b.Kind)&&(a.From==b.From))&&(a.To==b.To))&&(a.Term==b.Term))&&(a.Last==b.Last))&&(a.LastTerm==b.LastTerm))&&(a.Commit==b.Commit))))] ?_ fun hJ5=>Bz ((((((a.Kind==b.Kind)&&(a.From==b.From))&&(a.To==b.To))&&(a.Term==b.Term))&&(a.Last==b.Last))&&(a.LastTerm==b.LastTerm)) (fun hb11=>?_) (fun hb11=>?_)
      ·refine Ae (.bool (((((((a.Kind==b.Kind)&&(a.From==b.From))&&(a.To==b.To))&&(a.Term==b.Term))&&(a.Last==b.Last))&&(a.LastTerm==b.LastTerm))&&(a.Commit==b.Commit))) O Ab<|B7 6 [(2,(.q ids 0 g)),(3,(.q ids 1 g1)),(58,(.bool ((((((((a.Kind==b.Kind)&&(a.From==b.From))&&(a.To==b.To))&&(a.Term==b.Term))&&(a.Last==b.Last))&&(a.LastTerm==b.LastTerm))&&(a.Commit==b.Commit))&&(a.Match==b.Match))))] ?_ fun hJ6=>Bz (((((((a.Kind==b.Kind)&&(a.From==b.From))&&(a.To==b.To))&&(a.Term==b.Term))&&(a.Last==b.Last))&&(a.LastTerm==b.LastTerm))&&(a.Commit==b.Commit)) (fun hb13=>?_) (fun hb13=>?_)
       ·refine Ae (.bool ((((((((a.Kind==b.Kind)&&(a.From==b.From))&&(a.To==b.To))&&(a.Term==b.Term))&&(a.Last==b.Last))&&(a.LastTerm==b.LastTerm))&&(a.Commit==b.Commit))&&(a.Match==b.Match))) O Ab<|B7 6 [(2,(.q ids 0 g)),(3,(.q ids 1 g1)),(65,(.bool (((((((((a.Kind==b.Kind)&&(a.From==b.From))&&(a.To==b.To))&&(a.Term==b.Term))&&(a.Last==b.Last))&&(a.LastTerm==b.LastTerm))&&(a.Commit==b.Commit))&&(a.Match==b.Match))&&(a.Granted==b.Granted))))] ?_ fun hJ7=>Bz ((((((((a.Kind==b.Kind)&&(a.From==b.From))&&(a.To==b.To))&&(a.Term==b.Term))&&(a.Last==b.Last))&&(a.LastTerm==b.LastTerm))&&(a.Commit==b.Commit))&&(a.Match==b.Match)) (fun hb15=>?_) (fun hb15=>?_)
        ·refine Ae (.bool (((((((((a.Kind==b.Kind)&&(a.From==b.From))&&(a.To==b.To))&&(a.Term==b.Term))&&(a.Last==b.Last))&&(a.LastTerm==b.LastTerm))&&(a.Commit==b.Commit))&&(a.Match==b.Match))&&(a.Granted==b.Granted))) O Ab<|B7 8 [(2,(.q ids 0 g)),(3,(.q ids 1 g1)),(74,(.bool ((((((((((a.Kind==b.Kind)&&(a.From==b.From))&&(a.To==b.To))&&(a.Term==b.Term))&&(a.Last==b.Last))&&(a.LastTerm==b.LastTerm))&&(a.Commit==b.Commit))&&(a.Match==b.Match))&&(a.Granted==b.Granted))&&((a.Log.length:Int)==(b.Log.length:Int)))))] ?_ fun hJ8=>Bz (((((((((a.Kind==b.Kind)&&(a.From==b.From))&&(a.To==b.To))&&(a.Term==b.Term))&&(a.Last==b.Last))&&(a.LastTerm==b.LastTerm))&&(a.Commit==b.Commit))&&(a.Match==b.Match))&&(a.Granted==b.Granted)) (fun hb17=>?_) (fun hb17=>?_)
         ·refine Ae (.bool ((((((((((a.Kind==b.Kind)&&(a.From==b.From))&&(a.To==b.To))&&(a.Term==b.Term))&&(a.Last==b.Last))&&(a.LastTerm==b.LastTerm))&&(a.Commit==b.Commit))&&(a.Match==b.Match))&&(a.Granted==b.Granted))&&((a.Log.length:Int)==(b.Log.length:Int)))) O Ab<|Dj 6 ((fun(b1:Bool)=>.ok b1):Bool→R Bool) (fun(b1:Bool) (fr:Nat→AV) (h:Ai)=>fr=A0 [(81,(.bool b1))]∧h=hp h0 ids [(some (.rows g 10 [(Ak a)])),(some (.rows g1 10 [(Ak b)]))]) ?_ fun hJ9=>Dw (fun hb19=>?_) (fun hb19=>?_)
          ·rintro b1 fr h ⟨rfl,rfl⟩
           refine Ae (.bool b1) O Au<|Af<|B3 (a:=b1) (vs:=[(.bool b1)]) Tryz.func43 hI O (.same _)
          ·refine A8 (t:=75) hb19 O<|Al 4 [0,1] [(79,(.sl 2 (List.map Ah b.Log))),(77,(.sl 2 (List.map Ah a.Log)))] ?_
           refine Be [(.sl 2 (List.map Ah a.Log)),(.sl 2 (List.map Ah b.Log))] O (Cu (tj:=75) O O) O O ((U2 a.Log b.Log) _) (fun v _=>Bh Tryz.func43 hI) fun r _=>Ae (.bool r) O (Bw (t:=true) O O)<|Bj<|Cc [(81,(.bool r))] (FI O)<|hJ9 r _ _ ⟨O,O⟩
          refine A8 (t:=75) hb19 O<|Al 6 [] [(81,(.bool false))] ?_
          refine Bj<|Cc [(81,(.bool false))] (FI O)<|hJ9 false _ _ ⟨O,O⟩
         ·refine A8 (t:=66) hb17 O<|Al 2 [0] [(68,(.sl 2 (List.map Ah a.Log)))] ?_
          refine Cg (tj:=66) (.I (a.Log.length:Int)) O O O (Bm (Bo Ba))<|Al 2 [1] [(71,(.sl 2 (List.map Ah b.Log)))] ?_
          refine Cg (tj:=66) (.I (b.Log.length:Int)) O O O (Bm (Bo Ba))<|Al 2 [] [(74,(.bool ((a.Log.length:Int)==(b.Log.length:Int))))] ?_
          exact Bl hJ8 (.cons O (.cons O (.cons (G1 hb17) .nil)))
         refine A8 (t:=66) hb17 O<|Al 8 [] [(74,(.bool false))] ?_
         exact Bl hJ8 (.cons O (.cons O (.cons (G2 hb17) .nil)))
        ·refine A8 (t:=59) hb15 O<|Al 4 [0,1] [(63,(.bool b.Granted)),(61,(.bool a.Granted))] ?_
         refine Cg (tj:=59) (.bool (a.Granted==b.Granted)) O O O (Bf O O (Akr Gm))<|Ae (.bool (a.Granted==b.Granted)) O (Bw (t:=true) O O)<|Bl hJ7 (.cons O (.cons O (.cons (G1 hb15) .nil)))
        refine A8 (t:=59) hb15 O<|Al 6 [] [(65,(.bool false))] ?_
        exact Bl hJ7 (.cons O (.cons O (.cons (G2 hb15) .nil)))
       ·refine A8 (t:=52) hb13 O<|Al 6 [0,1] [(58,(.bool (a.Match==b.Match)))] ?_
        exact Bl hJ6 (.cons O (.cons O (.cons (G1 hb13) .nil)))
       refine A8 (t:=52) hb13 O<|Al 6 [] [(58,(.bool false))] ?_
       exact Bl hJ6 (.cons O (.cons O (.cons (G2 hb13) .nil)))
      ·refine A8 (t:=45) hb11 O<|Al 6 [0,1] [(51,(.bool (a.Commit==b.Commit)))] ?_
       exact Bl hJ5 (.cons O (.cons O (.cons (G1 hb11) .nil)))
      refine A8 (t:=45) hb11 O<|Al 6 [] [(51,(.bool false))] ?_
      exact Bl hJ5 (.cons O (.cons O (.cons (G2 hb11) .nil)))
     ·refine A8 (t:=38) hb9 O<|Al 6 [0,1] [(44,(.bool (a.LastTerm==b.LastTerm)))] ?_
      exact Bl hJ4 (.cons O (.cons O (.cons (G1 hb9) .nil)))
     refine A8 (t:=38) hb9 O<|Al 6 [] [(44,(.bool false))] ?_
     exact Bl hJ4 (.cons O (.cons O (.cons (G2 hb9) .nil)))
    ·refine A8 (t:=31) hb7 O<|Al 6 [0,1] [(37,(.bool (a.Last==b.Last)))] ?_
     exact Bl hJ3 (.cons O (.cons O (.cons (G1 hb7) .nil)))
    refine A8 (t:=31) hb7 O<|Al 6 [] [(37,(.bool false))] ?_
    exact Bl hJ3 (.cons O (.cons O (.cons (G2 hb7) .nil)))
   ·refine A8 (t:=24) hb5 O<|Al 6 [0,1] [(30,(.bool (a.Term==b.Term)))] ?_
    exact Bl hJ2 (.cons O (.cons O (.cons (G1 hb5) .nil)))
   refine A8 (t:=24) hb5 O<|Al 6 [] [(30,(.bool false))] ?_
   exact Bl hJ2 (.cons O (.cons O (.cons (G2 hb5) .nil)))
  ·refine A8 (t:=17) hb3 O<|Al 6 [0,1] [(23,(.bool (a.To==b.To)))] ?_
   exact Bl hJ1 (.cons O (.cons O (.cons (G1 hb3) .nil)))
  refine A8 (t:=17) hb3 O<|Al 6 [] [(23,(.bool false))] ?_
  exact Bl hJ1 (.cons O (.cons O (.cons (G2 hb3) .nil)))
 ·refine A8 (t:=10) hb1 O<|Al 6 [0,1] [(16,(.bool (a.From==b.From)))] ?_
  exact Bl hJ (.cons O (.cons O (.cons (G1 hb1) .nil)))
 refine A8 (t:=10) hb1 O<|Al 6 [] [(16,(.bool false))] ?_
 exact Bl hJ (.cons O (.cons O (.cons (G2 hb1) .nil)))
theorem Q7 (a:List Message)(b:List Message):CP Tryz.prog 13 [(.sl 10 (List.map Ak a)),(.sl 10 (List.map Ak b))] (E7 a b) (fun(x:Bool)=>(AV.bool x)):=by
 refine C7 (n:=27) 0 Tryz.func13 O (by decide) O O fun h0 ids hI=>B0 (Ax (E7.eq_1 _ _) ?_)
 refine Ac<|Aa<|Ae (.bool false) O Au<|Af<|Ac<|Ac<|Aa ?_
 refine Ae (.sl 10 (List.map Ak a)) O Ab<|Ae (.I (a.length:Int)) O (Bm (Bo Ct))<|Ae (.sl 10 (List.map Ak b)) O Ab<|Ae (.I (b.length:Int)) O (Bm (Bo Ct))<|Ae (.bool ((a.length:Int) != (b.length:Int))) O (Bf O O O)<|Af<|Cp O (fun hc=>?_) (fun hc=>?_)
 ·refine Ac<|Aa<|Ae (.bool false) O Au<|Af<|B3 (a:=false) (vs:=[(.bool false)]) Tryz.func13 hI O (.same _)
 refine Bd<|Ac<|Ac<|Aa<|Ae (.I 0) O Au<|Af<|Bn ?_
 refine Ft [(0,(.sl 10 (List.map Ak a))),(1,(.sl 10 (List.map Ak b))),(5,(.I 0))] (FI O)<|Mn (P:=Tryz.prog) a (fun j a1=>fun _=>I1 b j a1) ((F4 (fun _=>.ok true) (fun r=>.ok r)):(Unit ⊕ Bool)→R Bool) (fun j=>fun _=>fun(fr:Nat→AV) (h:Ai)=>fr=A0 [(0,(.sl 10 (List.map Ak a))),(1,(.sl 10 (List.map Ak b))),(5,(.I (j:Int)))]∧h=hp h0 ids []) () ?_ ?_ ?_
 ·exact⟨O,O⟩
 ·rintro j a1 ha1 W hW _ fr h ⟨rfl,rfl⟩
  refine Ax (m':=I1 b j a1) O (Ax (I1.eq_1 _ _ _) ?_)
  refine Ac<|Ac<|Aa<|Al 2 [] [(12,(.sl 10 (List.map Ak a))),(11,(.I (j:Int)))] ?_
  refine Ae (.I (a.length:Int)) O (Bm (Bo Ct))<|Ae (.bool (decide ((j:Int)<(a.length:Int)))) O (Bf O O O)<|Af<|K4 (t:=0) (L:=a) O fun hlim=>Hv O (Int.ofNat_lt.2 (B5 ha1))<|Bd<|Ac ?_
  refine Bn<|Ac<|B4 Da [[],[],[0,1],[0,1,2],[],[],[4,5],[4,5,6],[0,1,2,3,4,5,6,7],[0,1,2,3,4,5,6,7,8]] [(false,0),(false,1),(false,2),(false,3),(false,4),(false,5),(false,6),(false,7),(true,8),(false,9)] (by kernel_rfl)<|Z (.sl 10 (List.map Ak a)) O O Ab<|Z (.I (j:Int)) O O Ab<|Z (.cp (Ak a1) 0) O O (Bu (Kv Ct Bx O ha1))<|Z (.agg (Ak a1)) O O (An (Eh Bx O)) ?_
  refine Z (.sl 10 (List.map Ak b)) O O Ab<|Z (.I (j:Int)) O O Ab<|G0 fun a2 hz hx1=>Z (.cp (Ak a2) 0) O O (Bu (E6 Ct Bx O hz hx1))<|Z (.agg (Ak a2)) O O (An (Eh Bx O))<|Dy [(.agg (Ak a1)),(.agg (Ak a2))] O O O O O ((Wz a1 a2) _) (fun v _ _ _=>Bh Tryz.func13 hI) (Y O (Y O (Y O (Y O (Y O (Y O (Y O (Y O At)))))))) fun r _=>Z (.bool (!r)) O O (P3 O) ?_
  refine Bb<|Mq O (fun hc1=>?_) (fun hc1=>?_)
  ·refine Bd<|Bp<|Aa<|Al 3 [] [(5,(.I (IntKind.wrap .i64 ((j:Int)+1))))] ?_
   refine Af<|Bk (Ou (hW () _ _ ⟨O,O⟩)) (.cons O (.cons O (.cons (H8 (B5 ha1) hlim) .nil)))
  refine Ac<|Aa<|Ae (.bool false) O Au<|Af<|Oy<|Mb<|B3 (a:=false) (vs:=[(.bool false)]) Tryz.func13 hI O (.same _)
 rintro _ fr h ⟨rfl,rfl⟩
 refine Ax (Ov _ _ _)<|Ac<|Ac<|Aa<|Al 2 [] [(12,(.sl 10 (List.map Ak a))),(11,(.I (a.length:Int)))] ?_
 refine Ae (.I (a.length:Int)) O (Bm (Bo Ct))<|Ae (.bool (decide ((a.length:Int)<(a.length:Int)))) O (Bf O O O)<|Af<|Hu O (Int.lt_irrefl _)<|Ea O<|Ac<|Aa ?_
 refine Ae (.bool true) O Au<|Af<|B3 (a:=true) (vs:=[(.bool true)]) Tryz.func13 hI O (.same _)
theorem Z1 (r:Replica):CP Tryz.prog 17 [(.agg (Ap r))] (Iw r) (fun(x:Replica)=>(AV.agg (Ap x))):=by
 refine C7 (n:=6) 2 Tryz.func17 O (by decide) O O fun h0 ids hI=>B0 (Ax (Iw.eq_1 _) ?_)
 refine Ac<|Aa<|Cy (v:=(.agg (Ap r))) (j:=0) hI O O O O O O O fun g=>B9 (j:=1) hI O O O O As O fun g1=>Af<|Az ?_
 refine Ac<|Aa<|Ae (.ptr (ix ids 0) g 0 6) O (Aj (Ag (c:=0) (off:=6) (i:=6) As O Av O))<|A4 (A6 (v:=(.I 0)) hI O O O O Av O O O O O)<|Af<|Az ?_
 refine Ac<|Aa<|Al 1 [0] [(4,(.agg [(.I r.ID),(.I r.Many),(.I r.Term),(.I r.Vote),(.sl 2 (List.map Ah r.Log)),(.I r.Role),(.I 0),(.sl 1 (List.map rB r.Votes)),(.sl 1 (List.map (rI .i64) r.Match))]))] ?_
 refine Be [(.agg [(.I r.ID),(.I r.Many),(.I r.Term),(.I r.Vote),(.sl 2 (List.map Ah r.Log)),(.I r.Role),(.I 0),(.sl 1 (List.map rB r.Votes)),(.sl 1 (List.map (rI .i64) r.Match))])] O O O O (fun hb=>Bv.weak (.cons (.aggL (.cons (.same _) (.cons (.same _) (.cons (.same _) (.cons (.same _) (.cons (.same _) (.cons (.same _) (.cons (.same _) (.cons (.same _) (.cons (.same _) .nil)))))))))) .nil) ((Te ({ ID:=r.ID,Many:=r.Many,Term:=r.Term,Vote:=r.Vote,Log:=r.Log,Role:=r.Role,Commit:=0,Votes:=r.Votes,Match:=r.Match }:Replica)) _ hb)) (fun v _=>Bh Tryz.func17 hI) fun r1 _=>A4 (A6 (v:=(.agg (Ap r1))) hI O O O O As O O O O O)<|Af<|Az ?_
 exact B3 (a:=r1) (vs:=[(.agg (Ap r1))]) Tryz.func17 hI (By (Aq hI O O O As O) Cd) (.same _)
theorem Xi (r:Replica):CPO Tryz.prog 20 [(.agg (Ap r))] (Gk r) 1 (rL 1 (rI .u8)):=by
 refine Rc (n:=29) 1 Tryz.func20 O (by decide) O O fun h0 ids hI=>B0 (Ax (Gk.eq_1 _) ?_)
 refine Ac<|Aa<|Cy (v:=(.agg (Ap r))) (j:=1) hI O O O O O O O fun g=>Ae .emp O Au<|Af<|Az ?_
 refine Ac<|Aa<|Ug O O0 D6<|Ae .emp O Au<|Af<|Ac<|Ac ?_
 refine Aa<|Ae (.I 0) O Au<|Af<|Dn (fun l1=>Mk l1) (fun l1=>fun(fr:Nat→AV) (h:Ai) => ∃ (v2:AV),∃ (g3:Nat),A9 v2 (ix ids 0) g3 l1.length∧fr=A0 [(3,v2)]∧h=hp h0 ids [(A5 v2 g3 1 (List.map (rL 1 (rI .u8)) l1)),none]) ?_ fun hJ1=>?_
 ·rintro l1 fr h ⟨v2,g3,vH2,rfl,rfl⟩
  refine Ax (Mk.eq_1 _)<|Ac<|Aa<|Al 2 [] [(2,v2)] ?_
  refine Af<|Pv (a:=l1) (v:=v2) (g:=g3) Tryz.func20 hI O O vH2 O
 refine Bn<|Ft [(1,(.q ids 1 g)),(3,.emp),(4,(.I 0))] (FI O)<|I0 (P:=Tryz.prog) (D1 fun i l=>Fu r i l) ((fun l1=>Mk l1):(List (List Int))→R (List (List Int))) (D1 fun i l=>fun(fr:Nat→AV) (h:Ai) => ∃ (v:AV),∃ (g1:Nat),A9 v (ix ids 0) g1 l.length∧fr=A0 [(1,(.q ids 1 g)),(3,v),(4,(.I i))]∧h=hp h0 ids [(A5 v g1 1 (List.map (rL 1 (rI .u8)) l)),(some (.rows g 9 [(Ap r)]))]) (0,[]) ?_ ?_
 ·exact⟨.emp,0,.nil,O,O⟩
 rintro vW hW ⟨i,l⟩ fr h ⟨v,g1,vH,rfl,rfl⟩
 refine Ax (m':=Fu r i l) O (Ax (Fu.eq_1 _ _ _) ?_)
 refine Ac<|Ac<|Aa<|Al 3 [1] [(8,(.sl 2 (List.map Ah r.Log))),(6,(.I i))] ?_
 refine Ae (.I (r.Log.length:Int)) O (Bm (Bo Ba))<|Al 2 [] [(11,(.bool (decide (i<(r.Log.length:Int)))))] ?_
 refine B7 5 [(1,(.q ids 1 g)),(3,v),(4,(.I i)),(16,(.bool ((decide (i<(r.Log.length:Int)))&&(decide (i<r.Commit)))))] ?_ fun hJ=>Bz (decide (i<(r.Log.length:Int))) (fun hb1=>?_) (fun hb1=>?_)
 ·refine Af<|Cp O (fun hc=>?_) (fun hc=>?_)
  ·refine Bd<|Ac<|Bn<|Aa<|Al 4 [1] [(22,(.I i)),(21,(.sl 2 (List.map Ah r.Log))),(19,v)] ?_
   refine Gy fun a hz hx1=>Ae (.cp (Ah a) 0) O (Bu (E6 Ba C2 O hz hx1))<|Al 2 [] [(25,(.sl 1 (List.map (rI .u8) a.Data)))] ?_
   refine Sf (e:=(rL 1 (rI .u8))) (L:=[a.Data]) (st:=1) (rows:=[[(.sl 1 (List.map (rI .u8) a.Data))]]) O O0 D6 O O O O O (.cons (RowSim.refl _) .nil) (fun x=>Ags x) O O<|G6 fun hl=>Kh (e:=(rL 1 (rI .u8))) (L:=l) (L2:=[a.Data]) (v:=v) (g:=g1) (st:=1) (j:=0) hI O O O O vH O (Fe O) O0 O0 O D6 O O O hl fun v1 g2 vH1=>Ae v1 O Au<|Af<|Az ?_
   refine Bp<|Aa<|Al 3 [] [(4,(.I (IntKind.wrap .i64 (i+1))))] ?_
   refine Af<|Bk (Gp (hW ((IntKind.wrap .i64 (i+1)),(l++[a.Data])) _ _ ⟨v1,g2,vH1,O,O⟩))
  refine Ea O<|H6<|Ex [(A5 v g1 1 (List.map (rL 1 (rI .u8)) l)),none] hI O (.keep (.drop .nil))<|Bk (hJ1 l _ _ ⟨v,g1,vH,O,O⟩)
 ·refine A8 (t:=11) hb1 O<|Al 5 [1] [(16,(.bool (decide (i<r.Commit)))),(15,(.bool (decide (i<r.Commit)))),(14,(.I r.Commit)),(13,(.ptr (ix ids 1) g 0 6)),(12,(.I i))] ?_
  exact Bl hJ (.cons O (.cons O (.cons O (.cons (G1 hb1) .nil))))
 refine A8 (t:=11) hb1 O<|Al 5 [] [(16,(.bool false)),(15,.und),(14,.und),(13,.und),(12,.und)] ?_
 exact Bl hJ (.cons O (.cons O (.cons O (.cons (G2 hb1) .nil))))
theorem Yg (r:Replica):CP Tryz.prog 20 [(.agg (Ap r))] (Gk r) (fun(x:(List (List Int)))=>(AV.sl 1 (List.map (rL 1 (rI .u8)) x))):=(Xi r).cp (fun x=>Ags x)
theorem Aaz (a:(List (List Int)))(b:(List (List Int))):CP Tryz.prog 49 [(.sl 1 (List.map (rL 1 (rI .u8)) a)),(.sl 1 (List.map (rL 1 (rI .u8)) b))] (Rr a b) (fun(x:Bool)=>(AV.bool x)):=by
 refine C7 (n:=28) 0 Tryz.func49 O (by decide) O O fun h0 ids hI=>B0 (Ax (Rr.eq_1 _ _) ?_)
 refine Ac<|Aa<|Ae (.bool false) O Au<|Af<|Ac<|Ac<|Aa ?_
 refine Ae (.sl 1 (List.map (rL 1 (rI .u8)) a)) O Ab<|Ae (.I (a.length:Int)) O (Bm (Bo O0))<|Ae (.sl 1 (List.map (rL 1 (rI .u8)) b)) O Ab<|Ae (.I (b.length:Int)) O (Bm (Bo O0))<|Ae (.bool (decide ((a.length:Int) > (b.length:Int)))) O (Bf O O O)<|Af<|Gf O (fun hc=>?_) (fun hc=>?_)
 ·refine Ac<|Aa<|Ae (.bool false) O Au<|Af<|B3 (a:=false) (vs:=[(.bool false)]) Tryz.func49 hI O (.same _)
 refine Bd<|Ac<|Ac<|Aa<|Ae (.I 0) O Au<|Af<|Bn ?_
 refine Ft [(0,(.sl 1 (List.map (rL 1 (rI .u8)) a))),(1,(.sl 1 (List.map (rL 1 (rI .u8)) b))),(5,(.I 0))] (FI O)<|Mn (P:=Tryz.prog) a (fun j a1=>fun _=>Mc b j a1) ((F4 (fun _=>.ok true) (fun r=>.ok r)):(Unit ⊕ Bool)→R Bool) (fun j=>fun _=>fun(fr:Nat→AV) (h:Ai)=>fr=A0 [(0,(.sl 1 (List.map (rL 1 (rI .u8)) a))),(1,(.sl 1 (List.map (rL 1 (rI .u8)) b))),(5,(.I (j:Int)))]∧h=hp h0 ids []) () ?_ ?_ ?_
 ·exact⟨O,O⟩
 ·rintro j a1 ha1 W hW _ fr h ⟨rfl,rfl⟩
  refine Ax (m':=Mc b j a1) O (Ax (Mc.eq_1 _ _ _) ?_)
  refine Ac<|Ac<|Aa<|Al 2 [] [(12,(.sl 1 (List.map (rL 1 (rI .u8)) a))),(11,(.I (j:Int)))] ?_
  refine Ae (.I (a.length:Int)) O (Bm (Bo O0))<|Ae (.bool (decide ((j:Int)<(a.length:Int)))) O (Bf O O O)<|Af<|K4 (t:=0) (L:=a) O fun hlim=>Hv O (Int.ofNat_lt.2 (B5 ha1))<|Bd<|Ac ?_
  refine Bn<|Ac<|B4 Da [[],[],[0,1],[0,1,2],[0,1,2,3],[],[],[5,6],[5,6,7],[5,6,7,8],[0,1,2,3,4,5,6,7,8,9]] [(false,0),(false,1),(false,2),(false,3),(false,4),(false,5),(false,6),(false,7),(false,8),(false,9),(false,10)] (by kernel_rfl)<|Z (.sl 1 (List.map (rL 1 (rI .u8)) a)) O O Ab<|Z (.I (j:Int)) O O Ab<|Z (.cp [(.sl 1 (List.map (rI .u8) a1))] 0) O O (Bu (Kv O0 D6 O ha1))<|Z (.sl 1 (List.map (rI .u8) a1)) O O (An (Eh D6 O)) ?_
  refine Z (.str (Cx a1)) O O (Eo (Ph D6 Kn Kb O))<|Z (.sl 1 (List.map (rL 1 (rI .u8)) b)) O O Ab<|Z (.I (j:Int)) O O Ab<|G0 fun a2 hz hx1=>Z (.cp [(.sl 1 (List.map (rI .u8) a2))] 0) O O (Bu (E6 O0 D6 O hz hx1))<|Z (.sl 1 (List.map (rI .u8) a2)) O O (An (Eh D6 O))<|Z (.str (Cx a2)) O O (Eo (Ph D6 Kn Kb O)) ?_
  refine Z (.bool (!((Cx a1)==(Cx a2)))) O O (Bf O O O)<|Bb<|Mq O (fun hc1=>?_) (fun hc1=>?_)
  ·refine Bd<|Bp<|Aa<|Al 3 [] [(5,(.I (IntKind.wrap .i64 ((j:Int)+1))))] ?_
   refine Af<|Bk (Ou (hW () _ _ ⟨O,O⟩)) (.cons O (.cons O (.cons (H8 (B5 ha1) hlim) .nil)))
  refine Ac<|Aa<|Ae (.bool false) O Au<|Af<|Oy<|Mb<|B3 (a:=false) (vs:=[(.bool false)]) Tryz.func49 hI O (.same _)
 rintro _ fr h ⟨rfl,rfl⟩
 refine Ax (Ov _ _ _)<|Ac<|Ac<|Aa<|Al 2 [] [(12,(.sl 1 (List.map (rL 1 (rI .u8)) a))),(11,(.I (a.length:Int)))] ?_
 refine Ae (.I (a.length:Int)) O (Bm (Bo O0))<|Ae (.bool (decide ((a.length:Int)<(a.length:Int)))) O (Bf O O O)<|Af<|Hu O (Int.lt_irrefl _)<|Ea O<|Ac<|Aa ?_
 refine Ae (.bool true) O Au<|Af<|B3 (a:=true) (vs:=[(.bool true)]) Tryz.func49 hI O (.same _)
theorem Ab2 (a:(List (List Int)))(b:(List (List Int))):CP Tryz.prog 18 [(.sl 1 (List.map (rL 1 (rI .u8)) a)),(.sl 1 (List.map (rL 1 (rI .u8)) b))] (Kd a b) (fun(x:Bool)=>(AV.bool x)):=by
 refine C7 (n:=15) 0 Tryz.func18 O (by decide) O O fun h0 ids hI=>B0 (Ax (Kd.eq_1 _ _) ?_)
 refine Ac<|Aa<|Ae (.bool false) O Au<|Af<|Ac<|Aa<|Ae (.sl 1 (List.map (rL 1 (rI .u8)) a)) O Ab ?_
 refine Ae (.I (a.length:Int)) O (Bm (Bo O0))<|Ae (.sl 1 (List.map (rL 1 (rI .u8)) b)) O Ab<|Ae (.I (b.length:Int)) O (Bm (Bo O0))<|Al 2 [] [(10,(.bool ((a.length:Int)==(b.length:Int))))] ?_
 refine Dj 4 ((fun(b1:Bool)=>.ok b1):Bool→R Bool) (fun(b1:Bool) (fr:Nat→AV) (h:Ai)=>fr=A0 [(14,(.bool b1))]∧h=hp h0 ids []) ?_ fun hJ=>Dw (fun hb1=>?_) (fun hb1=>?_)
 ·rintro b1 fr h ⟨rfl,rfl⟩
  refine Ae (.bool b1) O Au<|Af<|B3 (a:=b1) (vs:=[(.bool b1)]) Tryz.func18 hI O (.same _)
 ·refine A8 (t:=10) hb1 O<|Al 2 [] [(12,(.sl 1 (List.map (rL 1 (rI .u8)) b))),(11,(.sl 1 (List.map (rL 1 (rI .u8)) a)))] ?_
  refine Be [(.sl 1 (List.map (rL 1 (rI .u8)) a)),(.sl 1 (List.map (rL 1 (rI .u8)) b))] O (Cu (tj:=10) O O) O O ((Aaz a b) _) (fun v _=>Bh Tryz.func18 hI) fun r _=>Ae (.bool r) O (Bw (t:=true) O O)<|Bj<|Cc [(14,(.bool r))] (FI O)<|hJ r _ _ ⟨O,O⟩
 refine A8 (t:=10) hb1 O<|Al 4 [] [(14,(.bool false))] ?_
 refine Bj<|Cc [(14,(.bool false))] (FI O)<|hJ false _ _ ⟨O,O⟩
theorem T9 (a:Int)(b:Int)(c:Replica)(d:List Int):CP Tryz.prog 3 [(.int .i64 a),(.int .i64 b),(.agg (Ap c)),(.sl 1 (List.map (rI .u8) d))] (Kx a b c d) (fun(x:Bool)=>(AV.bool x)):=by
 refine C7 (n:=148) 7 Tryz.func3 O (by decide) O O fun h0 ids hI=>B0 (Ax (Kx.eq_1 _ _ _ _) ?_)
 refine Ac<|Aa<|Cy (v:=(.agg (Ap c))) (j:=0) hI O O O O O O O fun g=>Ae (.bool false) O Au<|Af<|Az ?_
 refine Ac<|Ac<|Aa<|Be [] O O O O ((Acv) _) (fun v _=>Bh Tryz.func3 hI) fun r _=>Ae (.bool (!r)) O (P3 O)<|Af<|Mq O (fun hc=>?_) (fun hc=>?_)
 ·refine Bd<|Ac<|Ac<|Aa<|Al 2 [0] [(28,(.sl 2 (List.map Ah c.Log)))] ?_
  refine Be [(.sl 2 (List.map Ah c.Log))] O O O O ((Adj c.Log) _) (fun v _=>Bh Tryz.func3 hI) fun r1 _=>Al 2 [] [(31,(.bool (!r1)))] ?_
  refine B7 5 [(0,(.I a)),(1,(.I b)),(3,(.sl 1 (List.map (rI .u8) d))),(6,(.q ids 0 g)),(36,(.bool ((!r1)||(decide ((c.Votes.length:Int) > 10)))))] ?_ fun hJ=>Bz (!r1) (fun hb1=>?_) (fun hb1=>?_)
  ·refine Ae (.bool ((!r1)||(decide ((c.Votes.length:Int) > 10)))) O Ab<|B7 5 [(0,(.I a)),(1,(.I b)),(3,(.sl 1 (List.map (rI .u8) d))),(6,(.q ids 0 g)),(42,(.bool (((!r1)||(decide ((c.Votes.length:Int) > 10)))||(decide ((c.Match.length:Int) > 10)))))] ?_ fun hJ1=>Bz ((!r1)||(decide ((c.Votes.length:Int) > 10))) (fun hb3=>?_) (fun hb3=>?_)
   ·refine Ae (.bool (((!r1)||(decide ((c.Votes.length:Int) > 10)))||(decide ((c.Match.length:Int) > 10)))) O Ab<|B7 4 [(0,(.I a)),(1,(.I b)),(3,(.sl 1 (List.map (rI .u8) d))),(6,(.q ids 0 g)),(47,(.bool ((((!r1)||(decide ((c.Votes.length:Int) > 10)))||(decide ((c.Match.length:Int) > 10)))||(decide ((d.length:Int) > 100)))))] ?_ fun hJ2=>Bz (((!r1)||(decide ((c.Votes.length:Int) > 10)))||(decide ((c.Match.length:Int) > 10))) (fun hb5=>?_) (fun hb5=>?_)
    ·refine Af<|Cp O (fun hc1=>?_) (fun hc1=>?_)
     ·refine Ac<|Aa<|Ae (.bool true) O Au<|Af<|B3 (a:=true) (vs:=[(.bool true)]) Tryz.func3 hI O (.same _)
     refine Bd<|Ac<|Aa<|Al 2 [] [(50,(.I b)),(49,(.I a))] ?_
     refine Be [(.I a),(.I b)] O O O O ((Ps a b) _) (fun v _=>Bh Tryz.func3 hI) fun r2 _=>Al 3 [] [(53,(.I r2.2)),(52,(.agg (Ap r2.1)))] ?_
     refine B9 (j:=1) hI O O O O As O fun g1=>A4 (A6 (v:=(.agg (Ap r2.1))) hI O O O O As O O O O O)<|Ae (.I r2.2) O Au<|Af<|Az ?_
     refine Ac<|Aa<|Al 2 [] [(56,(.I b)),(55,(.I a))] ?_
     refine Be [(.I a),(.I b)] O O O O ((Aee a b) _) (fun v _=>Bh Tryz.func3 hI) fun r3 _=>Al 3 [] [(59,(.I r3.2)),(58,(.agg (Ap r3.1)))] ?_
     refine B9 (j:=2) hI O O O O As O fun g2=>A4 (A6 (v:=(.agg (Ap r3.1))) hI O O O O As O O O O O)<|Ae (.I r3.2) O Au<|Af<|Az ?_
     refine Ac<|Aa<|Al 1 [0] [(61,(.agg (Ap c)))] ?_
     refine Be [(.agg (Ap c))] O O O O ((Pj c) _) (fun v _=>Bh Tryz.func3 hI) fun r4 _=>Al 4 [] [(65,(.I r4.2.2)),(64,(.sl 10 (List.map Ak r4.2.1))),(63,(.agg (Ap r4.1)))] ?_
     refine B9 (j:=3) hI O O O O As O fun g3=>A4 (A6 (v:=(.agg (Ap r4.1))) hI O O O O As O O O O O)<|Al 2 [] [(15,(.I r4.2.2)),(14,(.sl 10 (List.map Ak r4.2.1)))] ?_
     refine Af<|Az ?_
     refine Ac<|Aa<|Al 1 [0] [(67,(.agg (Ap c)))] ?_
     refine Be [(.agg (Ap c))] O O O O ((Z8 c) _) (fun v _=>Bh Tryz.func3 hI) fun r5 _=>Al 4 [] [(71,(.I r5.2.2)),(70,(.sl 10 (List.map Ak r5.2.1))),(69,(.agg (Ap r5.1)))] ?_
     refine B9 (j:=4) hI O O O O As O fun g4=>A4 (A6 (v:=(.agg (Ap r5.1))) hI O O O O As O O O O O)<|Al 2 [] [(18,(.I r5.2.2)),(17,(.sl 10 (List.map Ak r5.2.1)))] ?_
     refine Af<|Az ?_
     refine Ac<|Aa<|Al 2 [0] [(74,(.sl 1 (List.map (rI .u8) d))),(73,(.agg (Ap c)))] ?_
     refine Be [(.agg (Ap c)),(.sl 1 (List.map (rI .u8) d))] O O O O ((Pe c d) _) (fun v _=>Bh Tryz.func3 hI) fun r6 _=>Al 4 [] [(78,(.I r6.2.2)),(77,(.sl 10 (List.map Ak r6.2.1))),(76,(.agg (Ap r6.1)))] ?_
     refine B9 (j:=5) hI O O O O As O fun g5=>A4 (A6 (v:=(.agg (Ap r6.1))) hI O O O O As O O O O O)<|Al 2 [] [(21,(.I r6.2.2)),(20,(.sl 10 (List.map Ak r6.2.1)))] ?_
     refine Af<|Az ?_
     refine Ac<|Aa<|Al 2 [0] [(81,(.sl 1 (List.map (rI .u8) d))),(80,(.agg (Ap c)))] ?_
     refine Be [(.agg (Ap c)),(.sl 1 (List.map (rI .u8) d))] O O O O ((Zq c d) _) (fun v _=>Bh Tryz.func3 hI) fun r7 _=>Al 4 [] [(85,(.I r7.2.2)),(84,(.sl 10 (List.map Ak r7.2.1))),(83,(.agg (Ap r7.1)))] ?_
     refine B9 (j:=6) hI O O O O As O fun g6=>A4 (A6 (v:=(.agg (Ap r7.1))) hI O O O O As O O O O O)<|Al 2 [] [(24,(.I r7.2.2)),(23,(.sl 10 (List.map Ak r7.2.1)))] ?_
     refine Af<|Az ?_
     refine Ac<|Ac<|Aa<|Al 2 [1,2] [(87,(.agg (Ap r3.1))),(86,(.agg (Ap r2.1)))] ?_
     refine Be [(.agg (Ap r2.1)),(.agg (Ap r3.1))] O O O O ((Qv r2.1 r3.1) _) (fun v _=>Bh Tryz.func3 hI) fun r8 _=>Al 2 [] [(90,(.bool (!r8)))] ?_
     refine B7 4 [(6,(.q ids 0 g)),(13,(.q ids 3 g3)),(14,(.sl 10 (List.map Ak r4.2.1))),(15,(.I r4.2.2)),(16,(.q ids 4 g4)),(17,(.sl 10 (List.map Ak r5.2.1))),(18,(.I r5.2.2)),(19,(.q ids 5 g5)),(20,(.sl 10 (List.map Ak r6.2.1))),(21,(.I r6.2.2)),(22,(.q ids 6 g6)),(23,(.sl 10 (List.map Ak r7.2.1))),(24,(.I r7.2.2)),(94,(.bool ((!r8)||(r2.2 != r3.2))))] ?_ fun hJ3=>Bz (!r8) (fun hb7=>?_) (fun hb7=>?_)
     ·refine Ae (.bool ((!r8)||(r2.2 != r3.2))) O Ab<|Dj 5 ((fun(b1:Bool)=>(if b1 then R.ok true else(E7 r4.2.1 r5.2.1).bind fun r10=>R.ok (!r10)).bind (fun(b2:Bool)=>(if(b2||(r4.2.2 != r5.2.2)) then R.ok true else(Hj r6.1 r7.1).bind fun r11=>R.ok (!r11)).bind (fun(b3:Bool)=>(if b3 then R.ok true else(E7 r6.2.1 r7.2.1).bind fun r12=>R.ok (!r12)).bind (fun(b4:Bool)=>if(b4||(r6.2.2 != r7.2.2)) then(.ok false) else((C5 c).bind fun r13=>(Ha c).bind fun r14=>if(r13==r14) then((Eg c).bind fun r15=>(Iw c).bind fun r16=>(Hj r15 r16).bind fun r17=>if r17 then((Cs c).bind fun r18=>(Gk c).bind fun r19=>(Kd r18 r19).bind fun r20=>.ok r20) else(.ok false)) else(.ok false)))))):Bool→R Bool) (fun(b1:Bool) (fr:Nat→AV) (h:Ai)=>fr=A0 [(6,(.q ids 0 g)),(14,(.sl 10 (List.map Ak r4.2.1))),(15,(.I r4.2.2)),(17,(.sl 10 (List.map Ak r5.2.1))),(18,(.I r5.2.2)),(19,(.q ids 5 g5)),(20,(.sl 10 (List.map Ak r6.2.1))),(21,(.I r6.2.2)),(22,(.q ids 6 g6)),(23,(.sl 10 (List.map Ak r7.2.1))),(24,(.I r7.2.2)),(100,(.bool b1))]∧h=hp h0 ids [(some (.rows g 9 [(Ap c)])),(some (.rows g1 9 [(Ap r2.1)])),(some (.rows g2 9 [(Ap r3.1)])),(some (.rows g3 9 [(Ap r4.1)])),(some (.rows g4 9 [(Ap r5.1)])),(some (.rows g5 9 [(Ap r6.1)])),(some (.rows g6 9 [(Ap r7.1)]))]) ?_ fun hJ4=>Dw (fun hb9=>?_) (fun hb9=>?_)
      ·rintro b1 fr h ⟨rfl,rfl⟩
       refine Ae (.bool b1) O Ab<|Dj 5 ((fun(b2:Bool)=>(if(b2||(r4.2.2 != r5.2.2)) then R.ok true else(Hj r6.1 r7.1).bind fun r11=>R.ok (!r11)).bind (fun(b3:Bool)=>(if b3 then R.ok true else(E7 r6.2.1 r7.2.1).bind fun r12=>R.ok (!r12)).bind (fun(b4:Bool)=>if(b4||(r6.2.2 != r7.2.2)) then(.ok false) else((C5 c).bind fun r13=>(Ha c).bind fun r14=>if(r13==r14) then((Eg c).bind fun r15=>(Iw c).bind fun r16=>(Hj r15 r16).bind fun r17=>if r17 then((Cs c).bind fun r18=>(Gk c).bind fun r19=>(Kd r18 r19).bind fun r20=>.ok r20) else(.ok false)) else(.ok false))))):Bool→R Bool) (fun(b2:Bool) (fr:Nat→AV) (h:Ai)=>fr=A0 [(6,(.q ids 0 g)),(15,(.I r4.2.2)),(18,(.I r5.2.2)),(19,(.q ids 5 g5)),(20,(.sl 10 (List.map Ak r6.2.1))),(21,(.I r6.2.2)),(22,(.q ids 6 g6)),(23,(.sl 10 (List.map Ak r7.2.1))),(24,(.I r7.2.2)),(106,(.bool b2))]∧h=hp h0 ids [(some (.rows g 9 [(Ap c)])),(some (.rows g1 9 [(Ap r2.1)])),(some (.rows g2 9 [(Ap r3.1)])),(some (.rows g3 9 [(Ap r4.1)])),(some (.rows g4 9 [(Ap r5.1)])),(some (.rows g5 9 [(Ap r6.1)])),(some (.rows g6 9 [(Ap r7.1)]))]) ?_ fun hJ5=>Dw (fun hb11=>?_) (fun hb11=>?_)
       ·rintro b2 fr h ⟨rfl,rfl⟩
        refine Ae (.bool b2) O Ab<|B7 4 [(6,(.q ids 0 g)),(19,(.q ids 5 g5)),(20,(.sl 10 (List.map Ak r6.2.1))),(21,(.I r6.2.2)),(22,(.q ids 6 g6)),(23,(.sl 10 (List.map Ak r7.2.1))),(24,(.I r7.2.2)),(111,(.bool (b2||(r4.2.2 != r5.2.2))))] ?_ fun hJ6=>Bz b2 (fun hb13=>?_) (fun hb13=>?_)
        ·refine Ae (.bool (b2||(r4.2.2 != r5.2.2))) O Ab<|Dj 5 ((fun(b3:Bool)=>(if b3 then R.ok true else(E7 r6.2.1 r7.2.1).bind fun r12=>R.ok (!r12)).bind (fun(b4:Bool)=>if(b4||(r6.2.2 != r7.2.2)) then(.ok false) else((C5 c).bind fun r13=>(Ha c).bind fun r14=>if(r13==r14) then((Eg c).bind fun r15=>(Iw c).bind fun r16=>(Hj r15 r16).bind fun r17=>if r17 then((Cs c).bind fun r18=>(Gk c).bind fun r19=>(Kd r18 r19).bind fun r20=>.ok r20) else(.ok false)) else(.ok false)))):Bool→R Bool) (fun(b3:Bool) (fr:Nat→AV) (h:Ai)=>fr=A0 [(6,(.q ids 0 g)),(20,(.sl 10 (List.map Ak r6.2.1))),(21,(.I r6.2.2)),(23,(.sl 10 (List.map Ak r7.2.1))),(24,(.I r7.2.2)),(117,(.bool b3))]∧h=hp h0 ids [(some (.rows g 9 [(Ap c)])),(some (.rows g1 9 [(Ap r2.1)])),(some (.rows g2 9 [(Ap r3.1)])),(some (.rows g3 9 [(Ap r4.1)])),(some (.rows g4 9 [(Ap r5.1)])),(some (.rows g5 9 [(Ap r6.1)])),(some (.rows g6 9 [(Ap r7.1)]))]) ?_ fun hJ7=>Dw (fun hb15=>?_) (fun hb15=>?_)
         ·rintro b3 fr h ⟨rfl,rfl⟩
          refine Ae (.bool b3) O Ab<|Dj 5 ((fun(b4:Bool)=>if(b4||(r6.2.2 != r7.2.2)) then(.ok false) else((C5 c).bind fun r13=>(Ha c).bind fun r14=>if(r13==r14) then((Eg c).bind fun r15=>(Iw c).bind fun r16=>(Hj r15 r16).bind fun r17=>if r17 then((Cs c).bind fun r18=>(Gk c).bind fun r19=>(Kd r18 r19).bind fun r20=>.ok r20) else(.ok false)) else(.ok false))):Bool→R Bool) (fun(b4:Bool) (fr:Nat→AV) (h:Ai)=>fr=A0 [(6,(.q ids 0 g)),(21,(.I r6.2.2)),(24,(.I r7.2.2)),(123,(.bool b4))]∧h=hp h0 ids [(some (.rows g 9 [(Ap c)])),(some (.rows g1 9 [(Ap r2.1)])),(some (.rows g2 9 [(Ap r3.1)])),(some (.rows g3 9 [(Ap r4.1)])),(some (.rows g4 9 [(Ap r5.1)])),(some (.rows g5 9 [(Ap r6.1)])),(some (.rows g6 9 [(Ap r7.1)]))]) ?_ fun hJ8=>Dw (fun hb17=>?_) (fun hb17=>?_)
          ·rintro b4 fr h ⟨rfl,rfl⟩
           refine Ae (.bool b4) O Ab<|B7 4 [(6,(.q ids 0 g)),(128,(.bool (b4||(r6.2.2 != r7.2.2))))] ?_ fun hJ9=>Bz b4 (fun hb19=>?_) (fun hb19=>?_)
           ·refine Af<|Cp O (fun hc2=>?_) (fun hc2=>?_)
            ·refine Ac<|Aa<|Ae (.bool false) O Au<|Af<|B3 (a:=false) (vs:=[(.bool false)]) Tryz.func3 hI O (.same _)
            refine Bd<|Ac<|B4 Da [[],[0],[],[0,1,2],[0,1,2,3],[0,1,2,3,4],[0,1,2,3,4,5],[0,1,2,3,4,5,6],[0,1,2,3,4,5],[0,1,2,3,4,5,6,7,8],[0,1,2,3,4,5,6,7,8,9],[0,1,2,3,4,5,6,7,8,9,10],[0,1,2,3,4,5,6,7,8,9,10,11],[0,1,2,3,4,5,6,7,8,9,10,11,12],[0,1,2,3,4,5,6,7,8,9,10,11,12,13],[0,1,2,3,4,5,6,7,8,9,10,11,12],[0,1,2,3,4,5,6,7,8,9,10,11,12,13,14,15],[0,1,2,3,4,5,6,7,8,9,10,11,12,13,14,15,16],[0,1,2,3,4,5,6,7,8,9,10,11,12,13,14,15,16,17],[0,1,2,3,4,5,6,7,8,9,10,11,12,13,14,15,16,17,17,18,18]] [(false,0),(false,2),(true,1),(true,3),(false,4),(false,5),(false,6),(false,8),(true,7),(true,9),(true,10),(false,11),(false,12),(false,13),(false,15),(true,14),(true,16),(true,17),(false,18),(false,19)] (by kernel_rfl)<|Z (.agg (Ap c)) O O (An (Aq hI O O O As O))<|Z (.agg (Ap c)) O O (An (Aq hI O O O As O))<|Dy [(.agg (Ap c))] O O O O O ((J8 c) _) (fun v _ _ _=>Bh Tryz.func3 hI) (Ad O (An (Aq hI O O O As O)) (Y O At)) fun r13 _=>Dy [(.agg (Ap c))] O O O O O ((R8 c) _) (fun v _ _ _=>Bh Tryz.func3 hI) (Y O (Y O At)) fun r14 _=>?_
            refine Z (.bool (r13==r14)) O O (Bf O O O)<|Z (.bool (r13==r14)) O O Ab<|Ge (fun hb20=>?_) (fun hb20=>?_)
            ·refine Ay (tj:=134) (.agg (Ap c)) O O (congrArg AV.bool hb20) O (An (Aq hI O O O As O))<|Ay (tj:=134) (.agg (Ap c)) O O (congrArg AV.bool hb20) O (An (Aq hI O O O As O))<|Dy [(.agg (Ap c))] O (Cu (tj:=134) O (congrArg AV.bool hb20)) O O O ((Sp c) _) (fun v _ _ _=>Bh Tryz.func3 hI) (Wj (tj:=134) O O (congrArg AV.bool hb20) (An (Aq hI O O O As O)) (Y O (Y O (Y O (Y O (Y O At)))))) fun r15 _=>Dy [(.agg (Ap c))] O (Cu (tj:=134) O (congrArg AV.bool hb20)) O O O ((Z1 c) _) (fun v _ _ _=>Bh Tryz.func3 hI) (Y O (Y O (Y O (Y O (Y O (Y O At)))))) fun r16 _=>Dy [(.agg (Ap r15)),(.agg (Ap r16))] O (Cu (tj:=134) O (congrArg AV.bool hb20)) O O O ((Qv r15 r16) _) (fun v _ _ _=>Bh Tryz.func3 hI) (Y O (Y O (Y O (Y O (Y O (Y O At)))))) fun r17 _=>Z (.bool r17) O O (Bw (t:=true) (congrArg AV.bool hb20) O)<|Z (.bool r17) O O Ab ?_
             refine Ge (fun hb21=>?_) (fun hb21=>?_)
             ·refine Ay (tj:=141) (.agg (Ap c)) O O (congrArg AV.bool hb21) O (An (Aq hI O O O As O))<|Ay (tj:=141) (.agg (Ap c)) O O (congrArg AV.bool hb21) O (An (Aq hI O O O As O))<|Dy [(.agg (Ap c))] O (Cu (tj:=141) O (congrArg AV.bool hb21)) O O O ((N2 c) _) (fun v _ _ _=>Bh Tryz.func3 hI) (Wj (tj:=141) O O (congrArg AV.bool hb21) (An (Aq hI O O O As O)) (Y O (Y O (Y O (Y O (Y O (Y O (Y O (Y O (Y O At)))))))))) fun r18 _=>Dy [(.agg (Ap c))] O (Cu (tj:=141) O (congrArg AV.bool hb21)) O O O ((Yg c) _) (fun v _ _ _=>Bh Tryz.func3 hI) (Y O (Y O (Y O (Y O (Y O (Y O (Y O (Y O (Y O (Y O At)))))))))) fun r19 _=>Dy [(.sl 1 (List.map (rL 1 (rI .u8)) r18)),(.sl 1 (List.map (rL 1 (rI .u8)) r19))] O (Cu (tj:=141) O (congrArg AV.bool hb21)) O O O ((Ab2 r18 r19) _) (fun v _ _ _=>Bh Tryz.func3 hI) (Y O (Y O (Y O (Y O (Y O (Y O (Y O (Y O (Y O (Y O At)))))))))) fun r20 _=>Z (.bool r20) O O (Bw (t:=true) (congrArg AV.bool hb21) O)<|Z (.bool r20) O O Au ?_
              refine Bb<|B3 (a:=r20) (vs:=[(.bool r20)]) Tryz.func3 hI O (.same _)
             refine A2 (tj:=141) (b:=false) O O (congrArg AV.bool hb21) O O<|A2 (tj:=141) (b:=false) O O (congrArg AV.bool hb21) O O<|Ow (tj:=141) (b:=false) O O (congrArg AV.bool hb21) O O<|Ow (tj:=141) (b:=false) O O (congrArg AV.bool hb21) O O<|Ow (tj:=141) (b:=false) O O (congrArg AV.bool hb21) O O<|Z (.bool false) O O (Bw (t:=false) (congrArg AV.bool hb21) O)<|Z (.bool false) O O Au ?_
             refine Bb<|B3 (a:=false) (vs:=[(.bool false)]) Tryz.func3 hI O (.same _)
            refine A2 (tj:=134) (b:=false) O O (congrArg AV.bool hb20) O O<|A2 (tj:=134) (b:=false) O O (congrArg AV.bool hb20) O O<|Ow (tj:=134) (b:=false) O O (congrArg AV.bool hb20) O O<|Ow (tj:=134) (b:=false) O O (congrArg AV.bool hb20) O O<|Ow (tj:=134) (b:=false) O O (congrArg AV.bool hb20) O O<|Z (.bool false) O O (Bw (t:=false) (congrArg AV.bool hb20) O)<|Z (.bool false) O O Ab ?_
            refine A2 (tj:=141) (b:=false) O O O O O<|A2 (tj:=141) (b:=false) O O O O O<|Ow (tj:=141) (b:=false) O O O O O<|Ow (tj:=141) (b:=false) O O O O O<|Ow (tj:=141) (b:=false) O O O O O<|Z (.bool false) O O (Bw (t:=false) O O)<|Z (.bool false) O O Au ?_
            refine Bb<|B3 (a:=false) (vs:=[(.bool false)]) Tryz.func3 hI O (.same _)
           ·refine A8 (t:=124) hb19 O<|Al 4 [] [(128,(.bool true))] ?_
            exact Bl hJ9 (.cons O (.cons (Ig hb19) .nil))
           refine A8 (t:=124) hb19 O<|Al 4 [] [(128,(.bool (r6.2.2 != r7.2.2)))] ?_
           exact Bl hJ9 (.cons O (.cons (Ii hb19) .nil))
          ·refine A8 (t:=118) hb17 O<|Al 5 [] [(123,(.bool true))] ?_
           refine Bj<|Cc [(6,(.q ids 0 g)),(21,(.I r6.2.2)),(24,(.I r7.2.2)),(123,(.bool true))] (FI O)<|hJ8 true _ _ ⟨O,O⟩
          refine A8 (t:=118) hb17 O<|Al 2 [] [(120,(.sl 10 (List.map Ak r7.2.1))),(119,(.sl 10 (List.map Ak r6.2.1)))] ?_
          refine Be [(.sl 10 (List.map Ak r6.2.1)),(.sl 10 (List.map Ak r7.2.1))] O (Cu (tj:=118) O O) O O ((Q7 r6.2.1 r7.2.1) _) (fun v _=>Bh Tryz.func3 hI) fun r12 _=>Al 2 [] [(123,(.bool (!r12)))] ?_
          refine Bj<|Cc [(6,(.q ids 0 g)),(21,(.I r6.2.2)),(24,(.I r7.2.2)),(123,(.bool (!r12)))] (FI O)<|hJ8 (!r12) _ _ ⟨O,O⟩
         ·refine A8 (t:=112) hb15 O<|Al 5 [] [(117,(.bool true))] ?_
          refine Bj<|Cc [(6,(.q ids 0 g)),(20,(.sl 10 (List.map Ak r6.2.1))),(21,(.I r6.2.2)),(23,(.sl 10 (List.map Ak r7.2.1))),(24,(.I r7.2.2)),(117,(.bool true))] (FI O)<|hJ7 true _ _ ⟨O,O⟩
         refine A8 (t:=112) hb15 O<|Al 2 [5,6] [(114,(.agg (Ap r7.1))),(113,(.agg (Ap r6.1)))] ?_
         refine Be [(.agg (Ap r6.1)),(.agg (Ap r7.1))] O (Cu (tj:=112) O O) O O ((Qv r6.1 r7.1) _) (fun v _=>Bh Tryz.func3 hI) fun r11 _=>Al 2 [] [(117,(.bool (!r11)))] ?_
         refine Bj<|Cc [(6,(.q ids 0 g)),(20,(.sl 10 (List.map Ak r6.2.1))),(21,(.I r6.2.2)),(23,(.sl 10 (List.map Ak r7.2.1))),(24,(.I r7.2.2)),(117,(.bool (!r11)))] (FI O)<|hJ7 (!r11) _ _ ⟨O,O⟩
        ·refine A8 (t:=107) hb13 O<|Al 4 [] [(111,(.bool true))] ?_
         exact Bl hJ6 (.cons O (.cons O (.cons O (.cons O (.cons O (.cons O (.cons O (.cons (Ig hb13) .nil))))))))
        refine A8 (t:=107) hb13 O<|Al 4 [] [(111,(.bool (r4.2.2 != r5.2.2)))] ?_
        exact Bl hJ6 (.cons O (.cons O (.cons O (.cons O (.cons O (.cons O (.cons O (.cons (Ii hb13) .nil))))))))
       ·refine A8 (t:=101) hb11 O<|Al 5 [] [(106,(.bool true))] ?_
        refine Bj<|Cc [(6,(.q ids 0 g)),(15,(.I r4.2.2)),(18,(.I r5.2.2)),(19,(.q ids 5 g5)),(20,(.sl 10 (List.map Ak r6.2.1))),(21,(.I r6.2.2)),(22,(.q ids 6 g6)),(23,(.sl 10 (List.map Ak r7.2.1))),(24,(.I r7.2.2)),(106,(.bool true))] (FI O)<|hJ5 true _ _ ⟨O,O⟩
       refine A8 (t:=101) hb11 O<|Al 2 [] [(103,(.sl 10 (List.map Ak r5.2.1))),(102,(.sl 10 (List.map Ak r4.2.1)))] ?_
       refine Be [(.sl 10 (List.map Ak r4.2.1)),(.sl 10 (List.map Ak r5.2.1))] O (Cu (tj:=101) O O) O O ((Q7 r4.2.1 r5.2.1) _) (fun v _=>Bh Tryz.func3 hI) fun r10 _=>Al 2 [] [(106,(.bool (!r10)))] ?_
       refine Bj<|Cc [(6,(.q ids 0 g)),(15,(.I r4.2.2)),(18,(.I r5.2.2)),(19,(.q ids 5 g5)),(20,(.sl 10 (List.map Ak r6.2.1))),(21,(.I r6.2.2)),(22,(.q ids 6 g6)),(23,(.sl 10 (List.map Ak r7.2.1))),(24,(.I r7.2.2)),(106,(.bool (!r10)))] (FI O)<|hJ5 (!r10) _ _ ⟨O,O⟩
      ·refine A8 (t:=95) hb9 O<|Al 5 [] [(100,(.bool true))] ?_
       refine Bj<|Cc [(6,(.q ids 0 g)),(14,(.sl 10 (List.map Ak r4.2.1))),(15,(.I r4.2.2)),(17,(.sl 10 (List.map Ak r5.2.1))),(18,(.I r5.2.2)),(19,(.q ids 5 g5)),(20,(.sl 10 (List.map Ak r6.2.1))),(21,(.I r6.2.2)),(22,(.q ids 6 g6)),(23,(.sl 10 (List.map Ak r7.2.1))),(24,(.I r7.2.2)),(100,(.bool true))] (FI O)<|hJ4 true _ _ ⟨O,O⟩
      refine A8 (t:=95) hb9 O<|Al 2 [3,4] [(97,(.agg (Ap r5.1))),(96,(.agg (Ap r4.1)))] ?_
      refine Be [(.agg (Ap r4.1)),(.agg (Ap r5.1))] O (Cu (tj:=95) O O) O O ((Qv r4.1 r5.1) _) (fun v _=>Bh Tryz.func3 hI) fun r9 _=>Al 2 [] [(100,(.bool (!r9)))] ?_
      refine Bj<|Cc [(6,(.q ids 0 g)),(14,(.sl 10 (List.map Ak r4.2.1))),(15,(.I r4.2.2)),(17,(.sl 10 (List.map Ak r5.2.1))),(18,(.I r5.2.2)),(19,(.q ids 5 g5)),(20,(.sl 10 (List.map Ak r6.2.1))),(21,(.I r6.2.2)),(22,(.q ids 6 g6)),(23,(.sl 10 (List.map Ak r7.2.1))),(24,(.I r7.2.2)),(100,(.bool (!r9)))] (FI O)<|hJ4 (!r9) _ _ ⟨O,O⟩
     ·refine A8 (t:=90) hb7 O<|Al 4 [] [(94,(.bool true))] ?_
      exact Bl hJ3 (.cons O (.cons O (.cons O (.cons O (.cons O (.cons O (.cons O (.cons O (.cons O (.cons O (.cons O (.cons O (.cons O (.cons (Ig hb7) .nil))))))))))))))
     refine A8 (t:=90) hb7 O<|Al 4 [] [(94,(.bool (r2.2 != r3.2)))] ?_
     exact Bl hJ3 (.cons O (.cons O (.cons O (.cons O (.cons O (.cons O (.cons O (.cons O (.cons O (.cons O (.cons O (.cons O (.cons O (.cons (Ii hb7) .nil))))))))))))))
    ·refine A8 (t:=43) hb5 O<|Al 4 [] [(47,(.bool true))] ?_
     exact Bl hJ2 (.cons O (.cons O (.cons O (.cons O (.cons (Ig hb5) .nil)))))
    refine A8 (t:=43) hb5 O<|Cg (tj:=43) (.sl 1 (List.map (rI .u8) d)) O O O Ab<|Cg (tj:=43) (.I (d.length:Int)) O O O (Bm (Bo D6))<|Al 2 [] [(47,(.bool (decide ((d.length:Int) > 100))))] ?_
    exact Bl hJ2 (.cons O (.cons O (.cons O (.cons O (.cons (Ii hb5) .nil)))))
   ·refine A8 (t:=37) hb3 O<|Al 5 [] [(42,(.bool true))] ?_
    exact Bl hJ1 (.cons O (.cons O (.cons O (.cons O (.cons (Ig hb3) .nil)))))
   refine A8 (t:=37) hb3 O<|Al 2 [0] [(39,(.sl 1 (List.map (rI .i64) c.Match)))] ?_
   refine Cg (tj:=37) (.I (c.Match.length:Int)) O O O (Bm (Bo Bt))<|Al 2 [] [(42,(.bool (decide ((c.Match.length:Int) > 10))))] ?_
   exact Bl hJ1 (.cons O (.cons O (.cons O (.cons O (.cons (Ii hb3) .nil)))))
  ·refine A8 (t:=31) hb1 O<|Al 5 [] [(36,(.bool true))] ?_
   exact Bl hJ (.cons O (.cons O (.cons O (.cons O (.cons (Ig hb1) .nil)))))
  refine A8 (t:=31) hb1 O<|Al 2 [0] [(33,(.sl 1 (List.map rB c.Votes)))] ?_
  refine Cg (tj:=31) (.I (c.Votes.length:Int)) O O O (Bm (Bo Cn))<|Al 2 [] [(36,(.bool (decide ((c.Votes.length:Int) > 10))))] ?_
  exact Bl hJ (.cons O (.cons O (.cons O (.cons O (.cons (Ii hb1) .nil)))))
 refine Ac<|Aa<|Ae (.bool false) O Au<|Af<|B3 (a:=false) (vs:=[(.bool false)]) Tryz.func3 hI O (.same _)
end Go.Am
namespace Go.Proofs.YtgigefcfankeeaaGreat.laws
open Go Go.Am Go.ChangeShapes Go.WideShapes Go.ChangeAt Go.RowKit
set_option maxRecDepth 100000
set_option linter.unusedVariables false
set_option linter.unusedSimpArgs false
theorem own:ownKnob Tryz.prog.godebug=none:=by kernel_rfl
theorem Aka:laidOutB Tryz.prog=true:=by kernel_rfl
theorem rd3:Tryz.prog.readableRec 3=true∧3<Tryz.prog.types.size:=by decide +kernel
theorem Ams:Tryz.prog.readableRec 26=true∧26<Tryz.prog.types.size:=by decide +kernel
theorem Amp:Tryz.prog.readableRec 27=true∧27<Tryz.prog.types.size:=by decide +kernel
theorem Ai5 {H:Type}:Bulk (H:=H) Rows.uptoBulk Rows.uptoBulkAll:=⟨fun d=>by cases d with | lit l=>cases l <;> simp [Rows.uptoBulk] | _=>simp [Rows.uptoBulk],fun l=>by simp [Rows.uptoBulk],fun e s=>by simp only [Rows.uptoBulk]; omega,fun l=>by simp [Rows.uptoBulk],by simp [Rows.uptoBulkAll],fun d l=>by simp [Rows.uptoBulkAll]⟩
theorem Y9:N5 Tryz.prog 3 (Gb .i64):=Acp Tryz.underlying3
theorem on5:N5 Tryz.prog 5 (Gb .u8):=Acp Tryz.underlying5
theorem Alc:N5 Tryz.prog 27 (O8 1 (Gb .u8)):=Ws Tryz.underlying27 (by kernel_rfl) (by decide) (fun a=>Ih a) on5
theorem Amk:N5 Tryz.prog 51 Ra:=Ael (T:=(Pw (Gb .i64) (Pw (O8 1 (Gb .u8)) Agm))) (tot:=2) Tryz.underlying51 (by kernel_rfl) (Ni (c:=1) rfl rfl (by kernel_rfl) rfl Y9 (Ni (c:=1) rfl rfl (by kernel_rfl) rfl Alc (Aib rfl))) (fun p=>⟨p.1,p.2.1⟩) (fun _=>rfl) (fun _ h=>h) (fun _=>Nat.le_refl _)
theorem Amj:N5 Tryz.prog 22 (O8 2 Ra):=Ws Tryz.underlying22 (by kernel_rfl) (by decide) (fun a=>Kk a) Amk
theorem on4:N5 Tryz.prog 4 Yl:=Agn Tryz.underlying4
theorem Aml:N5 Tryz.prog 23 (O8 1 Yl):=Ws Tryz.underlying23 (by kernel_rfl) (by decide) (fun a=>Qf a) on4
theorem Amt:N5 Tryz.prog 24 (O8 1 (Gb .i64)):=Ws Tryz.underlying24 (by kernel_rfl) (by decide) (fun a=>Ih a) Y9
theorem Amh:N5 Tryz.prog 26 T0:=Ael (T:=(Pw (Gb .i64) (Pw (Gb .i64) (Pw (Gb .i64) (Pw (Gb .i64) (Pw (O8 2 Ra) (Pw (Gb .i64) (Pw (Gb .i64) (Pw (O8 1 Yl) (Pw (O8 1 (Gb .i64)) Agm)))))))))) (tot:=9) Tryz.underlying26 (by kernel_rfl) (Ni (c:=1) rfl rfl (by kernel_rfl) rfl Y9 (Ni (c:=1) rfl rfl (by kernel_rfl) rfl Y9 (Ni (c:=1) rfl rfl (by kernel_rfl) rfl Y9 (Ni (c:=1) rfl rfl (by kernel_rfl) rfl Y9 (Ni (c:=1) rfl rfl (by kernel_rfl) rfl Amj (Ni (c:=1) rfl rfl (by kernel_rfl) rfl Y9 (Ni (c:=1) rfl rfl (by kernel_rfl) rfl Y9 (Ni (c:=1) rfl rfl (by kernel_rfl) rfl Aml (Ni (c:=1) rfl rfl (by kernel_rfl) rfl Amt (Aib rfl)))))))))) (fun p=>⟨p.1,p.2.1,p.2.2.1,p.2.2.2.1,p.2.2.2.2.1,p.2.2.2.2.2.1,p.2.2.2.2.2.2.1,p.2.2.2.2.2.2.2.1,p.2.2.2.2.2.2.2.2.1⟩) (fun _=>rfl) (fun _ h=>h) (fun _=>Nat.le_refl _)
end Go.Proofs.YtgigefcfankeeaaGreat.laws
