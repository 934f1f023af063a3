/- Written by shrink.py from texts of ours: comments struck, what is not reached left out, names short. -/
import Derived.Test.YtgigefcfankeeaaGreatU7
import Derived.Test.YtgigefcfankeeaaGreatU4
import Derived.Test.YtgigefcfankeeaaGreatRows
import Derived.KernelRfl
namespace Go.Am
open Go Go.Proofs
set_option maxRecDepth 100000
set_option maxHeartbeats 4000000
set_option linter.unusedSimpArgs false
set_option linter.unusedVariables false
theorem Tg (r:Replica):CP Tryz.prog 29 [(.agg (Ao r))] (Kc r) (fun(x:Replica)=>(AV.agg (Ao x))):=by
 refine Da (n:=17) 4 Tryz.func29 O (by decide) O O fun h0 ids hI=>B4 (Ax (Kc.eq_1 _) ?_)
 refine Ab<|Z<|C1 (v:=(.agg (Ao r))) (j:=0) hI O O O O O O O fun g=>Cc (j:=1) hI O O O O Ar O fun g1=>Ae<|Az ?_
 refine Ab<|Z<|Ad (.I 0) O At<|Ae<|Ab<|Ab<|Z ?_
 refine Ak 2 [0] [(5,(.I r.Many))] ?_
 refine Bh [(.I r.Many),(.I 0),(.I 5)] O O O O ((Ff r.Many 0 5) _) (fun v _=>Bk Tryz.func29 hI) fun r1 _=>Ae<|Cs O (fun hc=>?_) (fun hc=>?_)
 ·refine Z<|Ak 3 [0] [(3,(.I r.Many))] ?_
  refine Ae<|Ab<|Z<|Ad (.ptr (ix ids 0) g 0 5) O (Ai (Af (c:=0) (off:=5) (i:=5) Ar O Av O))<|A4 (A6 (v:=(.I 0)) hI O O O O Av O O O O O)<|Ae<|Az ?_
  refine Ab<|Z<|Ad (.I r.Many) O Aa<|Ha fun hl=>P1 (y:=(false:Bool)) (e:=rB) (st:=1) (j:=2) hI O O O O Cr Gq O O hl.1 hl.2.1 hl.2.2 O O O O O fun v g2 vH=>Ad (.ptr (ix ids 0) g 0 7) O (Ai (Af (c:=0) (off:=7) (i:=7) Ar O Cr O))<|A4 (Ca vH hI O O O O Cr O O O) ?_
  refine Ae<|Az ?_
  refine Ab<|Z<|Ad (.I r.Many) O Aa<|Ha fun hl1=>P1 (y:=(0:Int)) (e:=(rI .i64)) (st:=1) (j:=3) hI O O O O Bw Av O O hl1.1 hl1.2.1 hl1.2.2 O O O O O fun v1 g3 vH1=>Ad (.ptr (ix ids 0) g 0 8) O (Ai (Af (c:=0) (off:=8) (i:=8) Ar O Bw O))<|A4 (Ca vH1 hI O O O O Bw O O O) ?_
  refine Ae<|Az ?_
  refine Ab<|Z<|Ak 1 [0] [(16,(.agg [(.I r.ID),(.I r.Many),(.I r.Term),(.I r.Vote),(.sl 2 (List.map Ag r.Log)),(.I 0),(.I r.Commit),v,v1]))] ?_
  refine A4 (A6 (v:=(.agg [(.I r.ID),(.I r.Many),(.I r.Term),(.I r.Vote),(.sl 2 (List.map Ag r.Log)),(.I 0),(.I r.Commit),v,v1])) hI O O O O Ar O O O O (An O (An O (An O (An O (An O (An O (An O (An (Bc.flat vH) (An (Bc.flat vH1) Dr))))))))))<|Ae<|Az ?_
  exact B6 (a:=({ ID:=r.ID,Many:=r.Many,Term:=r.Term,Vote:=r.Vote,Log:=r.Log,Role:=0,Commit:=r.Commit,Votes:=(List.replicate (Int.toNat r.Many) false),Match:=(List.replicate (Int.toNat r.Many) (0:Int)) }:Replica)) (vs:=[(.agg [(.I r.ID),(.I r.Many),(.I r.Term),(.I r.Vote),(.sl 2 (List.map Ag r.Log)),(.I 0),(.I r.Commit),v,v1])]) Tryz.func29 hI (B2 (Ap hI O O O Ar O) Cg) (.aggL (.cons (.same _) (.cons (.same _) (.cons (.same _) (.cons (.same _) (.cons (.same _) (.cons (.same _) (.cons (.same _) (.cons (Dg vH (hI.at O O) (hI.out O) (fun x=>Qi x)) (.cons (Dg vH1 (hI.at O O) (hI.out O) (fun x=>Il x)) .nil))))))))))
 refine Bg<|Ab<|Z<|Ad (.ptr (ix ids 0) g 0 5) O (Ai (Af (c:=0) (off:=5) (i:=5) Ar O Av O))<|A4 (A6 (v:=(.I 0)) hI O O O O Av O O O O O)<|Ae<|Az ?_
 refine Ab<|Z<|Ad (.I 0) O Aa<|Ha fun hl2=>P1 (y:=(false:Bool)) (e:=rB) (st:=1) (j:=2) hI O O O O Cr Gq O O hl2.1 hl2.2.1 hl2.2.2 O O O O O fun v2 g4 vH2=>Ad (.ptr (ix ids 0) g 0 7) O (Ai (Af (c:=0) (off:=7) (i:=7) Ar O Cr O))<|A4 (Ca vH2 hI O O O O Cr O O O) ?_
 refine Ae<|Az ?_
 refine Ab<|Z<|Ad (.I 0) O Aa<|Ha fun hl3=>P1 (y:=(0:Int)) (e:=(rI .i64)) (st:=1) (j:=3) hI O O O O Bw Av O O hl3.1 hl3.2.1 hl3.2.2 O O O O O fun v3 g5 vH3=>Ad (.ptr (ix ids 0) g 0 8) O (Ai (Af (c:=0) (off:=8) (i:=8) Ar O Bw O))<|A4 (Ca vH3 hI O O O O Bw O O O) ?_
 refine Ae<|Az ?_
 refine Ab<|Z<|Ak 1 [0] [(16,(.agg [(.I r.ID),(.I r.Many),(.I r.Term),(.I r.Vote),(.sl 2 (List.map Ag r.Log)),(.I 0),(.I r.Commit),v2,v3]))] ?_
 refine A4 (A6 (v:=(.agg [(.I r.ID),(.I r.Many),(.I r.Term),(.I r.Vote),(.sl 2 (List.map Ag r.Log)),(.I 0),(.I r.Commit),v2,v3])) hI O O O O Ar O O O O (An O (An O (An O (An O (An O (An O (An O (An (Bc.flat vH2) (An (Bc.flat vH3) Dr))))))))))<|Ae<|Az ?_
 exact B6 (a:=({ ID:=r.ID,Many:=r.Many,Term:=r.Term,Vote:=r.Vote,Log:=r.Log,Role:=0,Commit:=r.Commit,Votes:=(List.replicate (Int.toNat 0) false),Match:=(List.replicate (Int.toNat 0) (0:Int)) }:Replica)) (vs:=[(.agg [(.I r.ID),(.I r.Many),(.I r.Term),(.I r.Vote),(.sl 2 (List.map Ag r.Log)),(.I 0),(.I r.Commit),v2,v3])]) Tryz.func29 hI (B2 (Ap hI O O O Ar O) Cg) (.aggL (.cons (.same _) (.cons (.same _) (.cons (.same _) (.cons (.same _) (.cons (.same _) (.cons (.same _) (.cons (.same _) (.cons (Dg vH2 (hI.at O O) (hI.out O) (fun x=>Qi x)) (.cons (Dg vH3 (hI.at O O) (hI.out O) (fun x=>Il x)) .nil))))))))))
theorem Ado (id:Int)(many:Int):CP Tryz.prog 7 [(.int .i64 id),(.int .i64 many)] (Sl id many) (fun(p:(Replica×Int))=>AV.tup [(.agg (Ao p.1)),(.int .i64 p.2)]):=by
 refine Da (n:=21) 1 Tryz.func7 O (by decide) O O fun h0 ids hI=>B4 (Ax (Sl.eq_1 _ _) ?_)
 refine Ab<|Z<|Cc (j:=0) hI O O O O Ar O fun g=>Ad (.I 0) O At<|Ae<|Az ?_
 refine Ab<|Ab<|Z<|Ad (.I many) O Aa<|Bh [(.I many),(.I 1),(.I 5)] O O O O ((Ff many 1 5) _) (fun v _=>Bk Tryz.func7 hI) fun r _=>Ak 2 [] [(9,(.bool (!r)))] ?_
 refine Dj 6 ((fun(b:Bool)=>if b then(.ok (({ ID:=0,Many:=0,Term:=0,Vote:=0,Log:=[],Role:=0,Commit:=0,Votes:=[],Match:=[] }:Replica),470)) else((Kc ({ ID:=id,Many:=many,Term:=0,Vote:=(-1),Log:=[],Role:=0,Commit:=0,Votes:=[],Match:=[] }:Replica)).bind fun r2=>.ok (r2,0))):Bool→R (Replica×Int)) (fun(b:Bool) (fr:Nat→AV) (h:Ah)=>fr=A0 [(0,(.I id)),(1,(.I many)),(4,(.q ids 0 g)),(15,(.bool b))]∧h=hp h0 ids [(some (.rows g 9 [[(.I 0),(.I 0),(.I 0),(.I 0),.emp,(.I 0),(.I 0),.emp,.emp]]))]) ?_ fun hJ=>Dy (fun hb1=>?_) (fun hb1=>?_)
 ·rintro b fr h ⟨rfl,rfl⟩
  refine Ae<|Cs O (fun hc=>?_) (fun hc=>?_)
  ·refine Ab<|Z<|Ad (.agg [(.I 0),(.I 0),(.I 0),(.I 0),.emp,(.I 0),(.I 0),.emp,.emp]) O (Dw (Hn Ar Adg O))<|A4 (A6 (v:=(.agg [(.I 0),(.I 0),(.I 0),(.I 0),.emp,(.I 0),(.I 0),.emp,.emp])) hI O O O O Ar O O O O O)<|Ad (.I 470) O At<|Ae<|B6 (a:=(({ ID:=0,Many:=0,Term:=0,Vote:=0,Log:=[],Role:=0,Commit:=0,Votes:=[],Match:=[] }:Replica),470)) (vs:=[(.agg [(.I 0),(.I 0),(.I 0),(.I 0),.emp,(.I 0),(.I 0),.emp,.emp]),(.I 470)]) Tryz.func7 hI (B2 (Ap hI O O O Ar O) (C2 Cg)) (.tupL (.cons (.aggL (.cons (.same _) (.cons (.same _) (.cons (.same _) (.cons (.same _) (.cons (.emp _) (.cons (.same _) (.cons (.same _) (.cons (.emp _) (.cons (.emp _) .nil)))))))))) (.cons (.same _) .nil)))
  refine Bg<|Ab<|Z<|Ak 3 [] [(19,(.agg [(.I id),(.I many),(.I 0),(.I (-1)),.emp,(.I 0),(.I 0),.emp,.emp]))] ?_
  refine Bh [(.agg [(.I id),(.I many),(.I 0),(.I (-1)),.emp,(.I 0),(.I 0),.emp,.emp])] O O O O (fun hb=>Bx.weak (.cons (.aggL (.cons (.same _) (.cons (.same _) (.cons (.same _) (.cons (.same _) (.cons (.emp _) (.cons (.same _) (.cons (.same _) (.cons (.emp _) (.cons (.emp _) .nil)))))))))) .nil) ((Tg ({ ID:=id,Many:=many,Term:=0,Vote:=(-1),Log:=[],Role:=0,Commit:=0,Votes:=[],Match:=[] }:Replica)) _ hb)) (fun v _=>Bk Tryz.func7 hI) fun r2 _=>A4 (A6 (v:=(.agg (Ao r2))) hI O O O O Ar O O O O O)<|Ad (.I 0) O At<|Ae<|Az ?_
  exact B6 (a:=(r2,0)) (vs:=[(.agg (Ao r2)),(.I 0)]) Tryz.func7 hI (B2 (Ap hI O O O Ar O) (C2 Cg)) (.tupL (.cons (.same _) (.cons (.same _) .nil)))
 ·refine Ba (t:=9) hb1 O<|Ak 6 [] [(15,(.bool true))] ?_
  refine Bm<|Cf [(0,(.I id)),(1,(.I many)),(4,(.q ids 0 g)),(15,(.bool true))] (FI O)<|hJ true _ _ ⟨O,O⟩
 refine Ba (t:=9) hb1 O<|Ak 3 [] [(12,(.I (IntKind.wrap .i64 (many - 1)))),(10,(.I id))] ?_
 refine Bh [(.I id),(.I 0),(.I (IntKind.wrap .i64 (many - 1)))] O (Cx (tj:=9) O O) O O ((Ff id 0 (IntKind.wrap .i64 (many - 1))) _) (fun v _=>Bk Tryz.func7 hI) fun r1 _=>Ak 2 [] [(15,(.bool (!r1)))] ?_
 refine Bm<|Cf [(0,(.I id)),(1,(.I many)),(4,(.q ids 0 g)),(15,(.bool (!r1)))] (FI O)<|hJ (!r1) _ _ ⟨O,O⟩
theorem Ab1 (l:List Record)(term:Int):CP Tryz.prog 48 [(.sl 2 (List.map Ag l)),(.int .i64 term)] (Mr l term) (fun(x:Bool)=>(AV.bool x)):=by
 refine Da (n:=38) 0 Tryz.func48 O (by decide) O O fun h0 ids hI=>B4 (Ax (Mr.eq_1 _ _) ?_)
 refine Ab<|Z<|Ad (.bool false) O At<|Ae<|Ab<|Ab<|Z ?_
 refine Ad (.I 0) O At<|Ae<|Bq<|Fw [(0,(.sl 2 (List.map Ag l))),(1,(.I term)),(5,(.I 0))] (FI O)<|Mw (P:=Tryz.prog) l (fun j a=>fun _=>Pw l term j a) ((Ga (fun _=>.ok true) (fun r=>.ok r)):(Unit ⊕ Bool)→R Bool) (fun j=>fun _=>fun(fr:Nat→AV) (h:Ah)=>fr=A0 [(0,(.sl 2 (List.map Ag l))),(1,(.I term)),(5,(.I (j:Int)))]∧h=hp h0 ids []) () ?_ ?_ ?_
 ·exact⟨O,O⟩
 ·rintro j a ha W hW _ fr h ⟨rfl,rfl⟩
  refine Ax (m':=Pw l term j a) O (Ax (Pw.eq_1 _ _ _ _) ?_)
  refine Ab<|Ab<|Z<|Ak 2 [] [(7,(.sl 2 (List.map Ag l))),(6,(.I (j:Int)))] ?_
  refine Ad (.I (l.length:Int)) O (Bp (Br Bd))<|Ad (.bool (decide ((j:Int)<(l.length:Int)))) O (Bi O O O)<|Ae<|K1 (t:=0) (L:=l) O fun hlim=>H0 O (Int.ofNat_lt.2 (B8 ha))<|Bg<|Ab ?_
  refine Bq<|Ab<|Dp (fun x=>Nj x) (fun x=>fun(fr:Nat→AV) (h:Ah)=>fr=A0 [(0,(.sl 2 (List.map Ag l))),(1,(.I term)),(5,(.I (j:Int))),(37,(.bool x))]∧h=hp h0 ids []) ?_ fun hJ=>?_
  ·rintro x fr h ⟨rfl,rfl⟩
   refine Ax (Nj.eq_1 _)<|Cs O (fun hc=>?_) (fun hc=>?_)
   ·refine Ab<|Z<|Ad (.bool false) O At<|Ae<|Oz<|Mf<|B6 (a:=false) (vs:=[(.bool false)]) Tryz.func48 hI O (.same _)
   refine Bg<|Bs<|Z<|Ak 3 [] [(5,(.I (IntKind.wrap .i64 ((j:Int)+1))))] ?_
   refine Ae<|Bn (O1 (hW () _ _ ⟨O,O⟩)) (.cons O (.cons O (.cons (If (B8 ha) hlim) .nil)))
  refine B7 Db [[],[],[0,1],[0,1,2],[0,1,2,3],[],[0,1,2,3,4,5],[0,1,2,3,4,5,6],[0,1,2,3,4,5,6,7],[0,1,2,3,4,5,6,7,8],[0,1,2,3,4,5,6,7,8,9],[0,1,2,3,4,5,6,7,8,9,10],[0,1,2,3,4,5,6,7,8,9,10,11],[0,1,2,3,4,5,6,7,8,9,10,11],[0,1,2,3,4,5,6,7,8,9,10,11,13],[0,1,2,3,4,5,6,7,8,9,10,11,12,13,14],[0,1,2,3,4,5,6,7,8,9,10,11,12,13,14,15],[0,1,2,3,4,5,6,7,8,9,10,11,12,13,14,15,16],[0,1,2,3,4,5,6,7,8,9,10,11],[0,1,2,3,4,5,6,7,8,9,10,11],[0,1,2,3,4,5,6,7,8,9,10,11,18,19],[0,1,2,3,4,5,6,7,8,9,10,11,18,19,20],[0,1,2,3,4,5,6,7,8,9,10,11,18,19,20,21],[0,1,2,3,4,5,6,7,8,9,10,11,12,13,14,15,16,17,18,19,20,21,22],[0,1,2,3,4,5,6,7,8,9,10,11,12,13,14,15,16,17,18,19,20,21,22,23],[0,1,2,3,4,5,6,7,8,9,10,11,12,13,14,15,16,17,18,19,20,21,22,23,24]] [(false,0),(false,1),(false,2),(false,3),(false,4),(false,5),(true,6),(false,7),(false,8),(false,9),(false,10),(false,11),(false,12),(false,13),(false,14),(false,15),(false,16),(false,17),(false,18),(false,19),(false,20),(false,21),(false,22),(false,23),(false,24),(false,25)] (by kernel_rfl)<|Y (.sl 2 (List.map Ag l)) O O Aa<|Y (.I (j:Int)) O O Aa<|Y (.cp (Ag a) 0) O O (By (Kx Bd C6 O ha))<|Y (.cp (Ag a) 0) O O (Ai (Ok (c:=0) (off:=0) (i:=0) C6 O Av O))<|Y (.I a.Term) O O (Al (Ek Av O))<|Y (.I term) O O Aa ?_
  refine D1 [(.I a.Term),(.I 1),(.I term)] O O O O O ((Ff a.Term 1 term) _) (fun v _ _ _=>Bk Tryz.func48 hI) (A9 O (A8 O As)) fun r _=>Y (.bool (!r)) O O (P5 O)<|Y (.bool (!r)) O O Aa<|Gl (fun hb=>?_) (fun hb=>?_)
  ·refine A2 (tj:=20) (b:=true) O O (congrArg AV.bool hb) O O<|A2 (tj:=20) (b:=true) O O (congrArg AV.bool hb) O O<|A2 (tj:=20) (b:=true) O O (congrArg AV.bool hb) O O<|Ci (tj:=23) O O O O<|Ci (tj:=23) O O O O<|Ci (tj:=23) O O O O<|Ci (tj:=23) O O O O ?_
   refine Ci (tj:=23) O O O O<|Ci (tj:=23) O O O O<|Ci (tj:=23) O O O O<|Ci (tj:=23) O O O O<|Ci (tj:=23) O O O O<|Ci (tj:=23) O O O O<|Ci (tj:=23) O O O O ?_
   refine Ci (tj:=23) O O O O<|A2 (tj:=20) (b:=true) O O (congrArg AV.bool hb) O O<|Y (.bool true) O O (Bz (t:=true) (congrArg AV.bool hb) O)<|Be<|Bn (hJ true _ _ ⟨O,O⟩)
  refine Ay (tj:=20) (.I (j:Int)) O O (congrArg AV.bool hb) O Aa<|Ay (tj:=20) (.bool (decide ((j:Int) > 0))) O O (congrArg AV.bool hb) O (Bi O O O)<|Ay (tj:=20) (.bool (decide ((j:Int) > 0))) O O (congrArg AV.bool hb) O Aa<|Gl (fun hb1=>?_) (fun hb1=>?_)
  ·refine Ay (tj:=23) (.sl 2 (List.map Ag l)) O O (congrArg AV.bool hb1) O Aa<|Ay (tj:=23) (.I (j:Int)) O O (congrArg AV.bool hb1) O Aa<|Ay (tj:=23) (.I (IntKind.wrap .i64 ((j:Int) - 1))) O O (congrArg AV.bool hb1) O (Bi O O O)<|G1 fun a1 hz hx1=>Ay (tj:=23) (.cp (Ag a1) 0) O O (congrArg AV.bool hb1) O (By (Fa Bd C6 O hz hx1))<|Ay (tj:=23) (.cp (Ag a1) 0) O O (congrArg AV.bool hb1) O (Ai (Ok (c:=0) (off:=0) (i:=0) C6 O Av O))<|Ay (tj:=23) (.I a1.Term) O O (congrArg AV.bool hb1) O (Al (Ek Av O)) ?_
   refine Ay (tj:=23) (.sl 2 (List.map Ag l)) O O (congrArg AV.bool hb1) O Aa<|Ay (tj:=23) (.I (j:Int)) O O (congrArg AV.bool hb1) O Aa<|Ay (tj:=23) (.cp (Ag a) 0) O O (congrArg AV.bool hb1) O (By (Kx Bd C6 O ha))<|Ay (tj:=23) (.cp (Ag a) 0) O O (congrArg AV.bool hb1) O (Ai (Ok (c:=0) (off:=0) (i:=0) C6 O Av O))<|Ay (tj:=23) (.I a.Term) O O (congrArg AV.bool hb1) O (Al (Ek Av O))<|Ay (tj:=23) (.bool (decide (a1.Term > a.Term))) O O (congrArg AV.bool hb1) O (Bi O O O)<|Ay (tj:=20) (.bool (decide (a1.Term > a.Term))) O O (congrArg AV.bool hb) O (Bz (t:=true) (congrArg AV.bool hb1) O) ?_
   refine Y (.bool (decide (a1.Term > a.Term))) O O (Bz (t:=false) (congrArg AV.bool hb) O)<|Be<|Bn (hJ (decide (a1.Term > a.Term)) _ _ ⟨O,O⟩)
  refine A2 (tj:=23) (b:=false) O O (congrArg AV.bool hb1) O O<|A2 (tj:=23) (b:=false) O O (congrArg AV.bool hb1) O O<|A2 (tj:=23) (b:=false) O O (congrArg AV.bool hb1) O O<|A2 (tj:=23) (b:=false) O O (congrArg AV.bool hb1) O O<|A2 (tj:=23) (b:=false) O O (congrArg AV.bool hb1) O O<|A2 (tj:=23) (b:=false) O O (congrArg AV.bool hb1) O O<|A2 (tj:=23) (b:=false) O O (congrArg AV.bool hb1) O O ?_
  refine A2 (tj:=23) (b:=false) O O (congrArg AV.bool hb1) O O<|A2 (tj:=23) (b:=false) O O (congrArg AV.bool hb1) O O<|A2 (tj:=23) (b:=false) O O (congrArg AV.bool hb1) O O<|A2 (tj:=23) (b:=false) O O (congrArg AV.bool hb1) O O<|A2 (tj:=23) (b:=false) O O (congrArg AV.bool hb1) O O<|Ay (tj:=20) (.bool false) O O (congrArg AV.bool hb) O (Bz (t:=false) (congrArg AV.bool hb1) O)<|Y (.bool false) O O (Bz (t:=false) (congrArg AV.bool hb) O) ?_
  refine Be<|Bn (hJ false _ _ ⟨O,O⟩)
 rintro _ fr h ⟨rfl,rfl⟩
 refine Ax (O0 _ _ _)<|Ab<|Ab<|Z<|Ak 2 [] [(7,(.sl 2 (List.map Ag l))),(6,(.I (l.length:Int)))] ?_
 refine Ad (.I (l.length:Int)) O (Bp (Br Bd))<|Ad (.bool (decide ((l.length:Int)<(l.length:Int)))) O (Bi O O O)<|Ae<|Hy O (Int.lt_irrefl _)<|Ed O<|Ab<|Z ?_
 refine Ad (.bool true) O At<|Ae<|B6 (a:=true) (vs:=[(.bool true)]) Tryz.func48 hI O (.same _)
theorem R9 (a:Replica):CP Tryz.prog 15 [(.agg (Ao a))] (G7 a) (fun(x:Int)=>(AV.int .i64 x)):=by
 refine Da (n:=131) 1 Tryz.func15 O (by decide) O O fun h0 ids hI=>B4 (Ax (G7.eq_1 _) ?_)
 refine Ab<|Z<|C1 (v:=(.agg (Ao a))) (j:=0) hI O O O O O O O fun g=>Ad (.I 0) O At<|Ae<|Az ?_
 refine Ab<|Ab<|Z<|Ak 2 [0] [(5,(.I a.Many))] ?_
 refine Bh [(.I a.Many),(.I 1),(.I 5)] O O O O ((Ff a.Many 1 5) _) (fun v _=>Bk Tryz.func15 hI) fun r _=>Ak 2 [] [(8,(.bool (!r)))] ?_
 refine Dj 8 ((fun(b:Bool)=>(if b then R.ok true else(C9 a.Term 0 1048576).bind fun r2=>R.ok (!r2)).bind (fun(b1:Bool)=>(if b1 then R.ok true else(C9 a.Vote (-1) (IntKind.wrap .i64 (a.Many - 1))).bind fun r3=>R.ok (!r3)).bind (fun(b2:Bool)=>(if b2 then R.ok true else(Mr a.Log a.Term).bind fun r4=>R.ok (!r4)).bind (fun(b3:Bool)=>(if b3 then R.ok true else(C9 a.Role 0 2).bind fun r5=>R.ok (!r5)).bind (fun(b4:Bool)=>(if b4 then R.ok true else(C9 a.Commit 0 (a.Log.length:Int)).bind fun r6=>R.ok (!r6)).bind (fun(b5:Bool)=>if((b5||((a.Votes.length:Int) != a.Many))||((a.Match.length:Int) != a.Many)) then(.ok 470) else((loop (fun x=>D0 a x) 0).bind (Ga (fun _=>Fd a) (fun r=>.ok r))))))))):Bool→R Int) (fun(b:Bool) (fr:Nat→AV) (h:Ah)=>fr=A0 [(1,(.q ids 0 g)),(16,(.bool b))]∧h=hp h0 ids [(some (.rows g 9 [(Ao a)]))]) ?_ fun hJ=>Dy (fun hb1=>?_) (fun hb1=>?_)
 ·rintro b fr h ⟨rfl,rfl⟩
  refine Ad (.bool b) O Aa<|Dj 5 ((fun(b1:Bool)=>(if b1 then R.ok true else(C9 a.Vote (-1) (IntKind.wrap .i64 (a.Many - 1))).bind fun r3=>R.ok (!r3)).bind (fun(b2:Bool)=>(if b2 then R.ok true else(Mr a.Log a.Term).bind fun r4=>R.ok (!r4)).bind (fun(b3:Bool)=>(if b3 then R.ok true else(C9 a.Role 0 2).bind fun r5=>R.ok (!r5)).bind (fun(b4:Bool)=>(if b4 then R.ok true else(C9 a.Commit 0 (a.Log.length:Int)).bind fun r6=>R.ok (!r6)).bind (fun(b5:Bool)=>if((b5||((a.Votes.length:Int) != a.Many))||((a.Match.length:Int) != a.Many)) then(.ok 470) else((loop (fun x=>D0 a x) 0).bind (Ga (fun _=>Fd a) (fun r=>.ok r)))))))):Bool→R Int) (fun(b1:Bool) (fr:Nat→AV) (h:Ah)=>fr=A0 [(1,(.q ids 0 g)),(22,(.bool b1))]∧h=hp h0 ids [(some (.rows g 9 [(Ao a)]))]) ?_ fun hJ1=>Dy (fun hb3=>?_) (fun hb3=>?_)
  ·rintro b1 fr h ⟨rfl,rfl⟩
   refine Ad (.bool b1) O Aa<|Dj 8 ((fun(b2:Bool)=>(if b2 then R.ok true else(Mr a.Log a.Term).bind fun r4=>R.ok (!r4)).bind (fun(b3:Bool)=>(if b3 then R.ok true else(C9 a.Role 0 2).bind fun r5=>R.ok (!r5)).bind (fun(b4:Bool)=>(if b4 then R.ok true else(C9 a.Commit 0 (a.Log.length:Int)).bind fun r6=>R.ok (!r6)).bind (fun(b5:Bool)=>if((b5||((a.Votes.length:Int) != a.Many))||((a.Match.length:Int) != a.Many)) then(.ok 470) else((loop (fun x=>D0 a x) 0).bind (Ga (fun _=>Fd a) (fun r=>.ok r))))))):Bool→R Int) (fun(b2:Bool) (fr:Nat→AV) (h:Ah)=>fr=A0 [(1,(.q ids 0 g)),(31,(.bool b2))]∧h=hp h0 ids [(some (.rows g 9 [(Ao a)]))]) ?_ fun hJ2=>Dy (fun hb5=>?_) (fun hb5=>?_)
   ·rintro b2 fr h ⟨rfl,rfl⟩
    refine Ad (.bool b2) O Aa<|Dj 7 ((fun(b3:Bool)=>(if b3 then R.ok true else(C9 a.Role 0 2).bind fun r5=>R.ok (!r5)).bind (fun(b4:Bool)=>(if b4 then R.ok true else(C9 a.Commit 0 (a.Log.length:Int)).bind fun r6=>R.ok (!r6)).bind (fun(b5:Bool)=>if((b5||((a.Votes.length:Int) != a.Many))||((a.Match.length:Int) != a.Many)) then(.ok 470) else((loop (fun x=>D0 a x) 0).bind (Ga (fun _=>Fd a) (fun r=>.ok r)))))):Bool→R Int) (fun(b3:Bool) (fr:Nat→AV) (h:Ah)=>fr=A0 [(1,(.q ids 0 g)),(39,(.bool b3))]∧h=hp h0 ids [(some (.rows g 9 [(Ao a)]))]) ?_ fun hJ3=>Dy (fun hb7=>?_) (fun hb7=>?_)
    ·rintro b3 fr h ⟨rfl,rfl⟩
     refine Ad (.bool b3) O Aa<|Dj 5 ((fun(b4:Bool)=>(if b4 then R.ok true else(C9 a.Commit 0 (a.Log.length:Int)).bind fun r6=>R.ok (!r6)).bind (fun(b5:Bool)=>if((b5||((a.Votes.length:Int) != a.Many))||((a.Match.length:Int) != a.Many)) then(.ok 470) else((loop (fun x=>D0 a x) 0).bind (Ga (fun _=>Fd a) (fun r=>.ok r))))):Bool→R Int) (fun(b4:Bool) (fr:Nat→AV) (h:Ah)=>fr=A0 [(1,(.q ids 0 g)),(45,(.bool b4))]∧h=hp h0 ids [(some (.rows g 9 [(Ao a)]))]) ?_ fun hJ4=>Dy (fun hb9=>?_) (fun hb9=>?_)
     ·rintro b4 fr h ⟨rfl,rfl⟩
      refine Ad (.bool b4) O Aa<|Dj 8 ((fun(b5:Bool)=>if((b5||((a.Votes.length:Int) != a.Many))||((a.Match.length:Int) != a.Many)) then(.ok 470) else((loop (fun x=>D0 a x) 0).bind (Ga (fun _=>Fd a) (fun r=>.ok r)))):Bool→R Int) (fun(b5:Bool) (fr:Nat→AV) (h:Ah)=>fr=A0 [(1,(.q ids 0 g)),(54,(.bool b5))]∧h=hp h0 ids [(some (.rows g 9 [(Ao a)]))]) ?_ fun hJ5=>Dy (fun hb11=>?_) (fun hb11=>?_)
      ·rintro b5 fr h ⟨rfl,rfl⟩
       refine Ad (.bool b5) O Aa<|Cb 7 [(1,(.q ids 0 g)),(62,(.bool (b5||((a.Votes.length:Int) != a.Many))))] ?_ fun hJ6=>B3 b5 (fun hb13=>?_) (fun hb13=>?_)
       ·refine Ad (.bool (b5||((a.Votes.length:Int) != a.Many))) O Aa<|Cb 7 [(1,(.q ids 0 g)),(70,(.bool ((b5||((a.Votes.length:Int) != a.Many))||((a.Match.length:Int) != a.Many))))] ?_ fun hJ7=>B3 (b5||((a.Votes.length:Int) != a.Many)) (fun hb15=>?_) (fun hb15=>?_)
        ·refine Ae<|Cs O (fun hc=>?_) (fun hc=>?_)
         ·refine Ab<|Z<|Ad (.I 470) O At<|Ae<|B6 (a:=470) (vs:=[(.I 470)]) Tryz.func15 hI O (.same _)
         refine Bg<|Ab<|Ab<|Z<|Ad (.I 0) O At<|Ae<|Dp (π:=Unit) (fun _=>Fd a) (fun _=>fun(fr:Nat→AV) (h:Ah)=>fr=A0 [(1,(.q ids 0 g))]∧h=hp h0 ids [(some (.rows g 9 [(Ao a)]))]) ?_ fun hJ12=>?_
         ·rintro _ fr h ⟨rfl,rfl⟩
          refine Ax (Fd.eq_1 _)<|Ab<|Ab<|Z<|Ak 4 [0] [(110,(.bool (a.Role != 0)))] ?_
          refine Dj 20 ((fun(b6:Bool)=>if b6 then(.ok 470) else(.ok 0)):Bool→R Int) (fun(b6:Bool) (fr:Nat→AV) (h:Ah)=>fr=A0 [(130,(.bool b6))]∧h=hp h0 ids [(some (.rows g 9 [(Ao a)]))]) ?_ fun hJ9=>Dy (fun hb20=>?_) (fun hb20=>?_)
          ·rintro b6 fr h ⟨rfl,rfl⟩
           refine Ae<|Cs O (fun hc3=>?_) (fun hc3=>?_)
           ·refine Ab<|Z<|Ad (.I 470) O At<|Ae<|B6 (a:=470) (vs:=[(.I 470)]) Tryz.func15 hI O (.same _)
           refine Bg<|Ab<|Z<|Ad (.I 0) O At<|Ae<|B6 (a:=0) (vs:=[(.I 0)]) Tryz.func15 hI O (.same _)
          ·refine Ba (t:=110) hb20 O<|Ak 6 [0,0] [(116,(.bool (a.Vote != a.ID)))] ?_
           refine Cb 4 [(1,(.q ids 0 g)),(110,(.bool true)),(120,(.bool ((a.Vote != a.ID)||(decide (a.Term<1)))))] ?_ fun hJ10=>B3 (a.Vote != a.ID) (fun hb22=>?_) (fun hb22=>?_)
           ·refine Cj (tj:=110) (.bool ((a.Vote != a.ID)||(decide (a.Term<1)))) O O O Aa<|Dj 8 ((fun(b7:Bool)=>R.ok b7):Bool→R Bool) (fun(b7:Bool) (fr:Nat→AV) (h:Ah)=>fr=A0 [(110,(.bool true)),(129,(.bool b7))]∧h=hp h0 ids [(some (.rows g 9 [(Ao a)]))]) ?_ fun hJ11=>Dy (fun hb24=>?_) (fun hb24=>?_)
            ·rintro b7 fr h ⟨rfl,rfl⟩
             refine Ad (.bool b7) O (Bz (t:=true) O O)<|Bm<|Cf [(130,(.bool b7))] (FI O)<|hJ9 b7 _ _ ⟨O,O⟩
            ·refine Ba (t:=121) hb24 O<|Ak 8 [] [(129,(.bool true))] ?_
             refine Bm<|Cf [(110,(.bool true)),(129,(.bool true))] (FI O)<|hJ11 true _ _ ⟨O,O⟩
            refine Ba (t:=121) hb24 O<|Ak 4 [0,0] [(125,(.I a.ID)),(123,(.sl 1 (List.map rB a.Votes)))] ?_
            refine G4 fun a3 hz2 hx3=>Cj (tj:=121) (.cp [(.bool a3)] 0) O O O (By (Fa Cr Gq O hz2 hx3))<|Ak 3 [] [(129,(.bool (!a3)))] ?_
            refine Bm<|Cf [(110,(.bool true)),(129,(.bool (!a3)))] (FI O)<|hJ11 (!a3) _ _ ⟨O,O⟩
           ·refine Ba (t:=116) hb22 O<|Ak 4 [] [(120,(.bool true))] ?_
            exact Bo hJ10 (.cons O (.cons O (.cons (Ij hb22) .nil)))
           refine Ba (t:=116) hb22 O<|Ak 4 [0] [(120,(.bool (decide (a.Term<1))))] ?_
           exact Bo hJ10 (.cons O (.cons O (.cons (Im hb22) .nil)))
          refine Ba (t:=110) hb20 O<|Ak 20 [] [(130,(.bool false))] ?_
          refine Bm<|Cf [(130,(.bool false))] (FI O)<|hJ9 false _ _ ⟨O,O⟩
         refine Bq<|Fw [(1,(.q ids 0 g)),(3,(.I 0))] (FI O)<|I1 (P:=Tryz.prog) (fun x=>D0 a x) ((Ga (fun _=>Fd a) (fun r=>.ok r)):(Unit ⊕ Int)→R Int) (fun x=>fun(fr:Nat→AV) (h:Ah)=>fr=A0 [(1,(.q ids 0 g)),(3,(.I x))]∧h=hp h0 ids [(some (.rows g 9 [(Ao a)]))]) 0 ?_ ?_
         ·exact⟨O,O⟩
         rintro vW hW x fr h ⟨rfl,rfl⟩
         refine Ax (m':=D0 a x) O (Ax (D0.eq_1 _ _) ?_)
         refine Ab<|Ab<|Z<|Ak 4 [0] [(74,(.bool (decide (x<a.Many))))] ?_
         refine Ae<|Gg O (fun hc1=>?_) (fun hc1=>?_)
         ·refine Bg<|Ab<|Bq<|Ab<|Dp (fun x1=>Gm x x1) (fun x1=>fun(fr:Nat→AV) (h:Ah)=>fr=A0 [(1,(.q ids 0 g)),(3,(.I x)),(106,(.bool x1))]∧h=hp h0 ids [(some (.rows g 9 [(Ao a)]))]) ?_ fun hJ8=>?_
          ·rintro x1 fr h ⟨rfl,rfl⟩
           refine Ax (Gm.eq_1 _ _)<|Cs O (fun hc2=>?_) (fun hc2=>?_)
           ·refine Ab<|Z<|Ad (.I 470) O At<|Ae<|H4<|Mf<|B6 (a:=470) (vs:=[(.I 470)]) Tryz.func15 hI O (.same _)
           refine Bg<|Bs<|Z<|Ak 3 [] [(3,(.I (IntKind.wrap .i64 (x+1))))] ?_
           refine Ae<|Bn (Gs (hW (IntKind.wrap .i64 (x+1)) _ _ ⟨O,O⟩))
          refine B7 Db [[],[0],[],[0,1,2],[0,1,2,3],[],[5],[5,6],[0,1,2,3,4,5,6,7],[0,1,2,3,4,5,6,7,8],[0,1,2,3,4,5,6,7,8,9],[0,1,2,3,4,5,6,7,8,9,10],[0,1,2,3,4,5,6,7,8,9,10,11],[0,1,2,3,4,5,6,7,8,9,10,11,12],[0,1,2,3,4,5,6,7,8,9,10,11,12,13],[0,1,2,3,4,5,6,7,8,9,10,11,12,13,14],[0,1,2,3,4,5,6,7,8,9,10,11,12,13,14,15],[0,1,2,3,4,5,6,7,8,9,10,11,12,13,14],[0,1,2,3,4,5,6,7,8,9,10,11,12,13,14,15,16,17],[0,1,2,3,4,5,6,7,8,9,10,11,12,13,14,15,16,17,18],[0,1,2,3,4,5,6,7,8,9,10,11,12,13,14,15,16,17,18,19],[0,1,2,3,4,5,6,7,8,9,10,11,12,13,14,15,16,17,18,19,20],[0,1,2,3,4,5,6,7,8,9,10,11,12,13,14,15,16,17,18,19,20,21],[0,1,2,3,4,5,6,7,8,9,10,11,12,13,14,15,16,17,18,19,20],[0,1,2,3,4,5,6,7,8,9,10,11,12,13,14,15,16,17,18,19,20,21,22,23],[0,1,2,3,4,5,6,7,8,9,10,11,12,13,14,15,16,17,18,19,20,21,22,23,24],[0,1,2,3,4,5,6,7,8,9,10,11,12,13,14,15,16,17,18,19,20,21,22,23,24,25],[0,1,2,3,4,5,6,7,8,9,10,11,12,13,14,15,16,17,18,19,20,21,22,23,24,25,26],[0,1,2,3,4,5,6,7,8,9,10,11,12,13,14,15,16,17,18,19,20,21,22,23,24,25,26,27],[0,1,2,3,4,5,6,7,8,9,10,11,12,13,14,15,16,17,18,19,20,21,22,23,24,25,26,27,28]] [(false,0),(false,1),(false,2),(false,3),(false,4),(false,5),(false,6),(false,7),(true,8),(false,9),(false,10),(false,11),(false,12),(false,13),(false,14),(false,15),(false,16),(false,17),(false,18),(false,19),(false,20),(false,21),(false,22),(false,23),(false,24),(false,25),(false,26),(false,27),(false,28),(false,29)] (by kernel_rfl)<|Y (.ptr (ix ids 0) g 0 8) O O (Ai (Af (c:=0) (off:=8) (i:=8) Ar O Bw O))<|Y (.sl 1 (List.map (rI .i64) a.Match)) O O (Al (Ap hI O O O Bw O))<|Y (.I x) O O Aa<|G1 fun a1 hz hx1=>Y (.cp [(.I a1)] 0) O O (By (Fa Bw Av O hz hx1))<|Y (.I a1) O O (Al (Ek Av O)) ?_
          refine Y (.ptr (ix ids 0) g 0 4) O O (Ai (Af (c:=0) (off:=4) (i:=4) Ar O Bd O))<|Y (.sl 2 (List.map Ag a.Log)) O O (Al (Ap hI O O O Bd O))<|Y (.I (a.Log.length:Int)) O O (Bp (Br Bd))<|D1 [(.I a1),(.I 0),(.I (a.Log.length:Int))] O O O O O ((Ff a1 0 (a.Log.length:Int)) _) (fun v _ _ _=>Bk Tryz.func15 hI) (Bb O As) fun r7 _=>Y (.bool (!r7)) O O (P5 O)<|Y (.bool (!r7)) O O Aa<|Gl (fun hb16=>?_) (fun hb16=>?_)
          ·refine A2 (tj:=87) (b:=true) O O (congrArg AV.bool hb16) O O<|A2 (tj:=87) (b:=true) O O (congrArg AV.bool hb16) O O<|A2 (tj:=87) (b:=true) O O (congrArg AV.bool hb16) O O<|A2 (tj:=87) (b:=true) O O (congrArg AV.bool hb16) O O<|Ci (tj:=91) O O O O<|Ci (tj:=91) O O O O<|Ci (tj:=91) O O O O ?_
           refine Ci (tj:=91) O O O O<|Ci (tj:=91) O O O O<|Ci (tj:=91) O O O O<|Ci (tj:=97) O O O O<|Ci (tj:=97) O O O O<|Ci (tj:=97) O O O O<|Ci (tj:=97) O O O O ?_
           refine Ci (tj:=97) O O O O<|Ci (tj:=97) O O O O<|Ci (tj:=91) O O O O<|A2 (tj:=87) (b:=true) O O (congrArg AV.bool hb16) O O<|Y (.bool true) O O (Bz (t:=true) (congrArg AV.bool hb16) O)<|Be<|Bn (hJ8 true _ _ ⟨O,O⟩)
          refine Ay (tj:=87) (.ptr (ix ids 0) g 0 5) O O (congrArg AV.bool hb16) O (Ai (Af (c:=0) (off:=5) (i:=5) Ar O Av O))<|Ay (tj:=87) (.I a.Role) O O (congrArg AV.bool hb16) O (Al (Ap hI O O O Av O))<|Ay (tj:=87) (.bool (a.Role==0)) O O (congrArg AV.bool hb16) O (Bi O O O)<|Ay (tj:=87) (.bool (a.Role==0)) O O (congrArg AV.bool hb16) O Aa<|Gl (fun hb17=>?_) (fun hb17=>?_)
          ·refine Ay (tj:=91) (.ptr (ix ids 0) g 0 7) O O (congrArg AV.bool hb17) O (Ai (Af (c:=0) (off:=7) (i:=7) Ar O Cr O))<|Ay (tj:=91) (.sl 1 (List.map rB a.Votes)) O O (congrArg AV.bool hb17) O (Al (Ap hI O O O Cr O))<|Ay (tj:=91) (.I x) O O (congrArg AV.bool hb17) O Aa<|G1 fun a2 hz1 hx2=>Ay (tj:=91) (.cp [(.bool a2)] 0) O O (congrArg AV.bool hb17) O (By (Fa Cr Gq O hz1 hx2))<|Ay (tj:=91) (.bool a2) O O (congrArg AV.bool hb17) O (Al (Ek Gq O))<|Ay (tj:=91) (.bool a2) O O (congrArg AV.bool hb17) O Aa ?_
           refine Gl (fun hb18=>?_) (fun hb18=>?_)
           ·refine A2 (tj:=97) (b:=true) O O (congrArg AV.bool hb18) O O<|A2 (tj:=97) (b:=true) O O (congrArg AV.bool hb18) O O<|A2 (tj:=97) (b:=true) O O (congrArg AV.bool hb18) O O<|A2 (tj:=97) (b:=true) O O (congrArg AV.bool hb18) O O<|A2 (tj:=97) (b:=true) O O (congrArg AV.bool hb18) O O<|A2 (tj:=97) (b:=true) O O (congrArg AV.bool hb18) O O<|Ay (tj:=91) (.bool true) O O (congrArg AV.bool hb17) O (Bz (t:=true) (congrArg AV.bool hb18) O) ?_
            refine Ay (tj:=87) (.bool true) O O (congrArg AV.bool hb16) O (Bz (t:=true) (congrArg AV.bool hb17) O)<|Y (.bool true) O O (Bz (t:=false) (congrArg AV.bool hb16) O)<|Be<|Bn (hJ8 true _ _ ⟨O,O⟩)
           refine Ay (tj:=97) (.ptr (ix ids 0) g 0 8) O O (congrArg AV.bool hb18) O (Ai (Af (c:=0) (off:=8) (i:=8) Ar O Bw O))<|Ay (tj:=97) (.sl 1 (List.map (rI .i64) a.Match)) O O (congrArg AV.bool hb18) O (Al (Ap hI O O O Bw O))<|Ay (tj:=97) (.I x) O O (congrArg AV.bool hb18) O Aa<|Ay (tj:=97) (.cp [(.I a1)] 0) O O (congrArg AV.bool hb18) O (By (Fa Bw Av O hz hx1))<|Ay (tj:=97) (.I a1) O O (congrArg AV.bool hb18) O (Al (Ek Av O))<|Ay (tj:=97) (.bool (a1 != 0)) O O (congrArg AV.bool hb18) O (Bi O O O)<|Ay (tj:=91) (.bool (a1 != 0)) O O (congrArg AV.bool hb17) O (Bz (t:=false) (congrArg AV.bool hb18) O) ?_
           refine Ay (tj:=87) (.bool (a1 != 0)) O O (congrArg AV.bool hb16) O (Bz (t:=true) (congrArg AV.bool hb17) O)<|Y (.bool (a1 != 0)) O O (Bz (t:=false) (congrArg AV.bool hb16) O)<|Be<|Bn (hJ8 (a1 != 0) _ _ ⟨O,O⟩)
          refine A2 (tj:=91) (b:=false) O O (congrArg AV.bool hb17) O O<|A2 (tj:=91) (b:=false) O O (congrArg AV.bool hb17) O O<|A2 (tj:=91) (b:=false) O O (congrArg AV.bool hb17) O O<|A2 (tj:=91) (b:=false) O O (congrArg AV.bool hb17) O O<|A2 (tj:=91) (b:=false) O O (congrArg AV.bool hb17) O O<|A2 (tj:=91) (b:=false) O O (congrArg AV.bool hb17) O O<|Ci (tj:=97) O O O O ?_
          refine Ci (tj:=97) O O O O<|Ci (tj:=97) O O O O<|Ci (tj:=97) O O O O<|Ci (tj:=97) O O O O<|Ci (tj:=97) O O O O<|A2 (tj:=91) (b:=false) O O (congrArg AV.bool hb17) O O<|Ay (tj:=87) (.bool false) O O (congrArg AV.bool hb16) O (Bz (t:=false) (congrArg AV.bool hb17) O) ?_
          refine Y (.bool false) O O (Bz (t:=false) (congrArg AV.bool hb16) O)<|Be<|Bn (hJ8 false _ _ ⟨O,O⟩)
         refine Ed O<|H4<|Abh<|Bn (hJ12 () _ _ ⟨O,O⟩)
        ·refine Ba (t:=63) hb15 O<|Ak 7 [] [(70,(.bool true))] ?_
         exact Bo hJ7 (.cons O (.cons (Ij hb15) .nil))
        refine Ba (t:=63) hb15 O<|Ak 2 [0] [(65,(.sl 1 (List.map (rI .i64) a.Match)))] ?_
        refine Cj (tj:=63) (.I (a.Match.length:Int)) O O O (Bp (Br Bw))<|Ak 4 [0] [(70,(.bool ((a.Match.length:Int) != a.Many)))] ?_
        exact Bo hJ7 (.cons O (.cons (Im hb15) .nil))
       ·refine Ba (t:=55) hb13 O<|Ak 7 [] [(62,(.bool true))] ?_
        exact Bo hJ6 (.cons O (.cons (Ij hb13) .nil))
       refine Ba (t:=55) hb13 O<|Ak 2 [0] [(57,(.sl 1 (List.map rB a.Votes)))] ?_
       refine Cj (tj:=55) (.I (a.Votes.length:Int)) O O O (Bp (Br Cr))<|Ak 4 [0] [(62,(.bool ((a.Votes.length:Int) != a.Many)))] ?_
       exact Bo hJ6 (.cons O (.cons (Im hb13) .nil))
      ·refine Ba (t:=46) hb11 O<|Ak 8 [] [(54,(.bool true))] ?_
       refine Bm<|Cf [(1,(.q ids 0 g)),(54,(.bool true))] (FI O)<|hJ5 true _ _ ⟨O,O⟩
      refine Ba (t:=46) hb11 O<|Ak 4 [0,0] [(50,(.sl 2 (List.map Ag a.Log))),(48,(.I a.Commit))] ?_
      refine Cj (tj:=46) (.I (a.Log.length:Int)) O O O (Bp (Br Bd))<|Bh [(.I a.Commit),(.I 0),(.I (a.Log.length:Int))] O (Cx (tj:=46) O O) O O ((Ff a.Commit 0 (a.Log.length:Int)) _) (fun v _=>Bk Tryz.func15 hI) fun r6 _=>Ak 2 [] [(54,(.bool (!r6)))] ?_
      refine Bm<|Cf [(1,(.q ids 0 g)),(54,(.bool (!r6)))] (FI O)<|hJ5 (!r6) _ _ ⟨O,O⟩
     ·refine Ba (t:=40) hb9 O<|Ak 5 [] [(45,(.bool true))] ?_
      refine Bm<|Cf [(1,(.q ids 0 g)),(45,(.bool true))] (FI O)<|hJ4 true _ _ ⟨O,O⟩
     refine Ba (t:=40) hb9 O<|Ak 2 [0] [(42,(.I a.Role))] ?_
     refine Bh [(.I a.Role),(.I 0),(.I 2)] O (Cx (tj:=40) O O) O O ((Ff a.Role 0 2) _) (fun v _=>Bk Tryz.func15 hI) fun r5 _=>Ak 2 [] [(45,(.bool (!r5)))] ?_
     refine Bm<|Cf [(1,(.q ids 0 g)),(45,(.bool (!r5)))] (FI O)<|hJ4 (!r5) _ _ ⟨O,O⟩
    ·refine Ba (t:=32) hb7 O<|Ak 7 [] [(39,(.bool true))] ?_
     refine Bm<|Cf [(1,(.q ids 0 g)),(39,(.bool true))] (FI O)<|hJ3 true _ _ ⟨O,O⟩
    refine Ba (t:=32) hb7 O<|Ak 4 [0,0] [(36,(.I a.Term)),(34,(.sl 2 (List.map Ag a.Log)))] ?_
    refine Bh [(.sl 2 (List.map Ag a.Log)),(.I a.Term)] O (Cx (tj:=32) O O) O O ((Ab1 a.Log a.Term) _) (fun v _=>Bk Tryz.func15 hI) fun r4 _=>Ak 2 [] [(39,(.bool (!r4)))] ?_
    refine Bm<|Cf [(1,(.q ids 0 g)),(39,(.bool (!r4)))] (FI O)<|hJ3 (!r4) _ _ ⟨O,O⟩
   ·refine Ba (t:=23) hb5 O<|Ak 8 [] [(31,(.bool true))] ?_
    refine Bm<|Cf [(1,(.q ids 0 g)),(31,(.bool true))] (FI O)<|hJ2 true _ _ ⟨O,O⟩
   refine Ba (t:=23) hb5 O<|Ak 5 [0,0] [(28,(.I (IntKind.wrap .i64 (a.Many - 1)))),(25,(.I a.Vote))] ?_
   refine Bh [(.I a.Vote),(.I (-1)),(.I (IntKind.wrap .i64 (a.Many - 1)))] O (Cx (tj:=23) O O) O O ((Ff a.Vote (-1) (IntKind.wrap .i64 (a.Many - 1))) _) (fun v _=>Bk Tryz.func15 hI) fun r3 _=>Ak 2 [] [(31,(.bool (!r3)))] ?_
   refine Bm<|Cf [(1,(.q ids 0 g)),(31,(.bool (!r3)))] (FI O)<|hJ2 (!r3) _ _ ⟨O,O⟩
  ·refine Ba (t:=17) hb3 O<|Ak 5 [] [(22,(.bool true))] ?_
   refine Bm<|Cf [(1,(.q ids 0 g)),(22,(.bool true))] (FI O)<|hJ1 true _ _ ⟨O,O⟩
  refine Ba (t:=17) hb3 O<|Ak 2 [0] [(19,(.I a.Term))] ?_
  refine Bh [(.I a.Term),(.I 0),(.I 1048576)] O (Cx (tj:=17) O O) O O ((Ff a.Term 0 1048576) _) (fun v _=>Bk Tryz.func15 hI) fun r2 _=>Ak 2 [] [(22,(.bool (!r2)))] ?_
  refine Bm<|Cf [(1,(.q ids 0 g)),(22,(.bool (!r2)))] (FI O)<|hJ1 (!r2) _ _ ⟨O,O⟩
 ·refine Ba (t:=8) hb1 O<|Ak 8 [] [(16,(.bool true))] ?_
  refine Bm<|Cf [(1,(.q ids 0 g)),(16,(.bool true))] (FI O)<|hJ true _ _ ⟨O,O⟩
 refine Ba (t:=8) hb1 O<|Ak 5 [0,0] [(13,(.I (IntKind.wrap .i64 (a.Many - 1)))),(10,(.I a.ID))] ?_
 refine Bh [(.I a.ID),(.I 0),(.I (IntKind.wrap .i64 (a.Many - 1)))] O (Cx (tj:=8) O O) O O ((Ff a.ID 0 (IntKind.wrap .i64 (a.Many - 1))) _) (fun v _=>Bk Tryz.func15 hI) fun r1 _=>Ak 2 [] [(16,(.bool (!r1)))] ?_
 refine Bm<|Cf [(1,(.q ids 0 g)),(16,(.bool (!r1)))] (FI O)<|hJ (!r1) _ _ ⟨O,O⟩
theorem Xn (r:Replica)(h0:Ah)(o0:Nat)(o1:Nat)(hI0:Ids h0 [o0,o1] 2):J6 r≠.bad→Bx Tryz.prog 29 [(.agg (Ao r))] (hp h0 [o0,o1] [none,none]) (El (fun a_ v h' => ∃ (v5:AV),∃ (g6:Nat),∃ (v6:AV),∃ (g7:Nat),Bc v5 o0 g6 a_.1.length∧Bc v6 o1 g7 a_.2.length∧v=(.agg [(.int .i64 r.ID),(.int .i64 r.Many),(.int .i64 r.Term),(.int .i64 r.Vote),(.sl 2 (List.map Ag r.Log)),(.int .i64 0),(.int .i64 r.Commit),v5,v6])∧h'=hp h0 [o0,o1] [A5 v5 g6 1 (List.map rB a_.1),A5 v6 g7 1 (List.map (rI .i64) a_.2)]) h0 (J6 r)):=by
 refine Co (n:=17) 2 Tryz.func29 O (by decide) O O hI0 O fun ids he hI=>?_
 clear hI0
 obtain rfl:ix ids 0=o0:=he 0 rfl
 obtain rfl:ix ids 1=o1:=he 1 rfl
 clear he
 refine B4 (Ax (J6.eq_1 _) ?_)
 refine Az ?_
 refine Ab<|Z<|C1 (v:=(.agg (Ao r))) (j:=2) hI O O O O O O O fun g=>Cc (j:=3) hI O O O O Ar O fun g1=>Ae<|Az ?_
 refine Ab<|Z<|Ad (.I 0) O At<|Ae<|Ab<|Ab<|Z ?_
 refine Ak 2 [2] [(5,(.I r.Many))] ?_
 refine Bh [(.I r.Many),(.I 0),(.I 5)] O O O O ((Ff r.Many 0 5) _) (fun v _=>Cd (K:=2) (N:=2) Tryz.func29 hI) fun r1 _=>Ae<|Cs O (fun hc=>?_) (fun hc=>?_)
 ·refine Z<|Ak 3 [2] [(3,(.I r.Many))] ?_
  refine Ae<|Ab<|Z<|Ad (.ptr (ix ids 2) g 0 5) O (Ai (Af (c:=0) (off:=5) (i:=5) Ar O Av O))<|A4 (A6 (v:=(.I 0)) hI O O O O Av O O O O O)<|Ae<|Az ?_
  refine Ab<|Z<|Ad (.I r.Many) O Aa<|Ha fun hl=>P1 (y:=(false:Bool)) (e:=rB) (st:=1) (j:=0) hI O O O O Cr Gq O O hl.1 hl.2.1 hl.2.2 O O O O O fun v1 g2 vH=>Ad (.ptr (ix ids 2) g 0 7) O (Ai (Af (c:=0) (off:=7) (i:=7) Ar O Cr O))<|A4 (Ca vH hI O O O O Cr O O O) ?_
  refine Ae<|Az ?_
  refine Ab<|Z<|Ad (.I r.Many) O Aa<|Ha fun hl1=>P1 (y:=(0:Int)) (e:=(rI .i64)) (st:=1) (j:=1) hI O O O O Bw Av O O hl1.1 hl1.2.1 hl1.2.2 O O O O O fun v2 g3 vH1=>Ad (.ptr (ix ids 2) g 0 8) O (Ai (Af (c:=0) (off:=8) (i:=8) Ar O Bw O))<|A4 (Ca vH1 hI O O O O Bw O O O) ?_
  refine Ae<|Az ?_
  refine Ab<|Z<|Ak 1 [2] [(16,(.agg [(.I r.ID),(.I r.Many),(.I r.Term),(.I r.Vote),(.sl 2 (List.map Ag r.Log)),(.I 0),(.I r.Commit),v1,v2]))] ?_
  refine A4 (A6 (v:=(.agg [(.I r.ID),(.I r.Many),(.I r.Term),(.I r.Vote),(.sl 2 (List.map Ag r.Log)),(.I 0),(.I r.Commit),v1,v2])) hI O O O O Ar O O O O (An O (An O (An O (An O (An O (An O (An O (An (Bc.flat vH) (An (Bc.flat vH1) Dr))))))))))<|Ae<|Az ?_
  exact Es (K:=2) (N:=2) (a:=((List.replicate (Int.toNat r.Many) false),(List.replicate (Int.toNat r.Many) (0:Int)))) (vs:=[(.agg [(.I r.ID),(.I r.Many),(.I r.Term),(.I r.Vote),(.sl 2 (List.map Ag r.Log)),(.I 0),(.I r.Commit),v1,v2])]) [A5 v1 g2 1 (List.map rB (List.replicate (Int.toNat r.Many) false)),A5 v2 g3 1 (List.map (rI .i64) (List.replicate (Int.toNat r.Many) (0:Int)))] Tryz.func29 hI O (B2 (Ap hI O O O Ar O) Cg) O (.keep (.keep (.drop (.drop .nil)))) (.same _) ⟨v1,g2,v2,g3,vH,vH1,O,O⟩
 refine Bg<|Ab<|Z<|Ad (.ptr (ix ids 2) g 0 5) O (Ai (Af (c:=0) (off:=5) (i:=5) Ar O Av O))<|A4 (A6 (v:=(.I 0)) hI O O O O Av O O O O O)<|Ae<|Az ?_
 refine Ab<|Z<|Ad (.I 0) O Aa<|Ha fun hl2=>P1 (y:=(false:Bool)) (e:=rB) (st:=1) (j:=0) hI O O O O Cr Gq O O hl2.1 hl2.2.1 hl2.2.2 O O O O O fun v3 g4 vH2=>Ad (.ptr (ix ids 2) g 0 7) O (Ai (Af (c:=0) (off:=7) (i:=7) Ar O Cr O))<|A4 (Ca vH2 hI O O O O Cr O O O) ?_
 refine Ae<|Az ?_
 refine Ab<|Z<|Ad (.I 0) O Aa<|Ha fun hl3=>P1 (y:=(0:Int)) (e:=(rI .i64)) (st:=1) (j:=1) hI O O O O Bw Av O O hl3.1 hl3.2.1 hl3.2.2 O O O O O fun v4 g5 vH3=>Ad (.ptr (ix ids 2) g 0 8) O (Ai (Af (c:=0) (off:=8) (i:=8) Ar O Bw O))<|A4 (Ca vH3 hI O O O O Bw O O O) ?_
 refine Ae<|Az ?_
 refine Ab<|Z<|Ak 1 [2] [(16,(.agg [(.I r.ID),(.I r.Many),(.I r.Term),(.I r.Vote),(.sl 2 (List.map Ag r.Log)),(.I 0),(.I r.Commit),v3,v4]))] ?_
 refine A4 (A6 (v:=(.agg [(.I r.ID),(.I r.Many),(.I r.Term),(.I r.Vote),(.sl 2 (List.map Ag r.Log)),(.I 0),(.I r.Commit),v3,v4])) hI O O O O Ar O O O O (An O (An O (An O (An O (An O (An O (An O (An (Bc.flat vH2) (An (Bc.flat vH3) Dr))))))))))<|Ae<|Az ?_
 exact Es (K:=2) (N:=2) (a:=((List.replicate (Int.toNat 0) false),(List.replicate (Int.toNat 0) (0:Int)))) (vs:=[(.agg [(.I r.ID),(.I r.Many),(.I r.Term),(.I r.Vote),(.sl 2 (List.map Ag r.Log)),(.I 0),(.I r.Commit),v3,v4])]) [A5 v3 g4 1 (List.map rB (List.replicate (Int.toNat 0) false)),A5 v4 g5 1 (List.map (rI .i64) (List.replicate (Int.toNat 0) (0:Int)))] Tryz.func29 hI O (B2 (Ap hI O O O Ar O) Cg) O (.keep (.keep (.drop (.drop .nil)))) (.same _) ⟨v3,g4,v4,g5,vH2,vH3,O,O⟩
theorem Yh (rID:Int)(rMany:Int)(rTerm:Int)(rVote:Int)(rLog:List Record)(rRole:Int)(rCommit:Int)(rVotes:List Bool)(l:List Int)(h0:Ah)(o0:Nat)(v1:AV)(g:Nat)(vH:Bc v1 o0 g l.length)(hI0:Ids h0 [o0] 1):Kp rID rMany rTerm rVote rLog rRole rCommit rVotes l≠.bad→Bx Tryz.prog 40 [(.agg [(.int .i64 rID),(.int .i64 rMany),(.int .i64 rTerm),(.int .i64 rVote),(.sl 2 (List.map Ag rLog)),(.int .i64 rRole),(.int .i64 rCommit),(.sl 1 (List.map rB rVotes)),v1])] (hp h0 [o0] [A5 v1 g 1 (List.map (rI .i64) l)]) (El (fun a_ v h' => ∃ (v6:AV),∃ (g7:Nat),Bc v6 o0 g7 a_.2.length∧v=(.agg [(.int .i64 rID),(.int .i64 rMany),(.int .i64 rTerm),(.int .i64 rVote),(.sl 2 (List.map Ag rLog)),(.int .i64 rRole),(.int .i64 a_.1),(.sl 1 (List.map rB rVotes)),v6])∧h'=hp h0 [o0] [A5 v6 g7 1 (List.map (rI .i64) a_.2)]) h0 (Kp rID rMany rTerm rVote rLog rRole rCommit rVotes l)):=by
 refine Co (n:=51) 2 Tryz.func40 O (by decide) O O hI0 O fun ids he hI=>?_
 clear hI0
 obtain rfl:ix ids 0=o0:=he 0 rfl
 clear he
 refine B4 (Ax (Kp.eq_1 _ _ _ _ _ _ _ _ _) ?_)
 refine Az ?_
 refine Ab<|Z<|C1 (v:=(.agg [(.I rID),(.I rMany),(.I rTerm),(.I rVote),(.sl 2 (List.map Ag rLog)),(.I rRole),(.I rCommit),(.sl 1 (List.map rB rVotes)),v1])) (j:=1) hI O O O O O O (An O (An O (An O (An O (An O (An O (An O (An O (An (Bc.flat vH) Dr))))))))) fun g1=>Cc (j:=2) hI O O O O Ar O fun g2=>Ae<|Az ?_
 refine Ab<|Ab<|Z<|Ak 2 [1] [(7,(.sl 2 (List.map Ag rLog)))] ?_
 refine Ad (.I (rLog.length:Int)) O (Bp (Br Bd))<|Ad (.I (rLog.length:Int)) O At<|Ae<|Dp (fun l4=>Ml rCommit l4) (fun l4=>fun(fr:Nat→AV) (h:Ah) => ∃ (v5:AV),∃ (g6:Nat),Bc v5 (ix ids 0) g6 l4.length∧fr=A0 [(1,(.q ids 1 g1)),(2,(.q ids 2 g2))]∧h=hp h0 ids [(A5 v5 g6 1 (List.map (rI .i64) l4)),(some (.rows g1 9 [[(.I rID),(.I rMany),(.I rTerm),(.I rVote),(.sl 2 (List.map Ag rLog)),(.I rRole),(.I rCommit),(.sl 1 (List.map rB rVotes)),v5]])),(some (.rows g2 9 [[(.I 0),(.I 0),(.I 0),(.I 0),.emp,(.I 0),(.I 0),.emp,.emp]]))]) ?_ fun hJ2=>?_
 ·rintro l4 fr h ⟨v5,g6,vH4,rfl,rfl⟩
  refine Ax (Ml.eq_1 _ _)<|Ab<|Z<|Ak 1 [1] [(50,(.agg [(.I rID),(.I rMany),(.I rTerm),(.I rVote),(.sl 2 (List.map Ag rLog)),(.I rRole),(.I rCommit),(.sl 1 (List.map rB rVotes)),v5]))] ?_
  refine A4 (A6 (v:=(.agg [(.I rID),(.I rMany),(.I rTerm),(.I rVote),(.sl 2 (List.map Ag rLog)),(.I rRole),(.I rCommit),(.sl 1 (List.map rB rVotes)),v5])) hI O O O O Ar O O O O (An O (An O (An O (An O (An O (An O (An O (An O (An (Bc.flat vH4) Dr))))))))))<|Ae<|Az ?_
  exact Es (K:=1) (N:=2) (a:=(rCommit,l4)) (vs:=[(.agg [(.I rID),(.I rMany),(.I rTerm),(.I rVote),(.sl 2 (List.map Ag rLog)),(.I rRole),(.I rCommit),(.sl 1 (List.map rB rVotes)),v5])]) [A5 v5 g6 1 (List.map (rI .i64) l4)] Tryz.func40 hI O (B2 (Ap hI O O O Ar O) Cg) O (.keep (.drop (.drop .nil))) (.same _) ⟨v5,g6,vH4,O,O⟩
 refine Bq<|Fw [(1,(.q ids 1 g1)),(2,(.q ids 2 g2)),(3,(.I (rLog.length:Int)))] (FI O)<|I1 (P:=Tryz.prog) (D4 fun n l1=>Eu rMany rTerm rLog rCommit n l1) ((Ga (fun l4=>Ml rCommit l4) (fun r=>.ok r)):((List Int) ⊕ (Int×(List Int)))→R (Int×(List Int))) (D4 fun n l1=>fun(fr:Nat→AV) (h:Ah) => ∃ (v2:AV),∃ (g3:Nat),Bc v2 (ix ids 0) g3 l1.length∧fr=A0 [(1,(.q ids 1 g1)),(2,(.q ids 2 g2)),(3,(.I n))]∧h=hp h0 ids [(A5 v2 g3 1 (List.map (rI .i64) l1)),(some (.rows g1 9 [[(.I rID),(.I rMany),(.I rTerm),(.I rVote),(.sl 2 (List.map Ag rLog)),(.I rRole),(.I rCommit),(.sl 1 (List.map rB rVotes)),v2]])),(some (.rows g2 9 [[(.I 0),(.I 0),(.I 0),(.I 0),.emp,(.I 0),(.I 0),.emp,.emp]]))]) ((rLog.length:Int),l) ?_ ?_
 ·exact⟨v1,g,vH,O,O⟩
 rintro vW hW ⟨n,l1⟩ fr h ⟨v2,g3,vH1,rfl,rfl⟩
 refine Ax (m':=Eu rMany rTerm rLog rCommit n l1) O (Ax (Eu.eq_1 _ _ _ _ _ _) ?_)
 refine Ab<|Ab<|Z<|Ak 4 [1] [(12,(.bool (decide (n > rCommit))))] ?_
 refine Ae<|Gg O (fun hc=>?_) (fun hc=>?_)
 ·refine Bg<|Ab<|Bq<|Ab<|Z<|Ad (.I 0) O At<|Ae ?_
  refine Ab<|Ab<|Z<|Ad (.I 0) O At<|Ae<|Dp (D4 fun many1 l3=>Kn rMany rTerm rLog n many1 l3) (D4 fun many1 l3=>fun(fr:Nat→AV) (h:Ah) => ∃ (v4:AV),∃ (g5:Nat),Bc v4 (ix ids 0) g5 l3.length∧fr=A0 [(1,(.q ids 1 g1)),(2,(.q ids 2 g2)),(3,(.I n)),(4,(.I many1))]∧h=hp h0 ids [(A5 v4 g5 1 (List.map (rI .i64) l3)),(some (.rows g1 9 [[(.I rID),(.I rMany),(.I rTerm),(.I rVote),(.sl 2 (List.map Ag rLog)),(.I rRole),(.I rCommit),(.sl 1 (List.map rB rVotes)),v4]])),(some (.rows g2 9 [[(.I 0),(.I 0),(.I 0),(.I 0),.emp,(.I 0),(.I 0),.emp,.emp]]))]) ?_ fun hJ1=>?_
  ·rintro⟨many1,l3⟩ fr h ⟨v4,g5,vH3,rfl,rfl⟩
   refine Ax (Kn.eq_1 _ _ _ _ _ _)<|Ab<|Dp (fun x=>I5 n l3 x) (fun x=>fun(fr:Nat→AV) (h:Ah)=>fr=A0 [(1,(.q ids 1 g1)),(2,(.q ids 2 g2)),(3,(.I n)),(46,(.bool x))]∧h=hp h0 ids [(A5 v4 g5 1 (List.map (rI .i64) l3)),(some (.rows g1 9 [[(.I rID),(.I rMany),(.I rTerm),(.I rVote),(.sl 2 (List.map Ag rLog)),(.I rRole),(.I rCommit),(.sl 1 (List.map rB rVotes)),v4]])),(some (.rows g2 9 [[(.I 0),(.I 0),(.I 0),(.I 0),.emp,(.I 0),(.I 0),.emp,.emp]]))]) ?_ fun hJ=>?_
   ·rintro x fr h ⟨rfl,rfl⟩
    refine Ax (I5.eq_1 _ _ _)<|Cs O (fun hc3=>?_) (fun hc3=>?_)
    ·refine Ab<|Z<|Ak 2 [] [(48,(.ptr (ix ids 1) g1 0 6)),(47,(.I n))] ?_
     refine A4 (A6 (v:=(.I n)) hI O O O O Av O O O O O)<|Ae<|Az ?_
     refine Ab<|Z<|Ak 1 [1] [(49,(.agg [(.I rID),(.I rMany),(.I rTerm),(.I rVote),(.sl 2 (List.map Ag rLog)),(.I rRole),(.I n),(.sl 1 (List.map rB rVotes)),v4]))] ?_
     refine A4 (A6 (v:=(.agg [(.I rID),(.I rMany),(.I rTerm),(.I rVote),(.sl 2 (List.map Ag rLog)),(.I rRole),(.I n),(.sl 1 (List.map rB rVotes)),v4])) hI O O O O Ar O O O O (An O (An O (An O (An O (An O (An O (An O (An O (An (Bc.flat vH3) Dr))))))))))<|Ae<|Az ?_
     refine H4<|Mf<|Es (K:=1) (N:=2) (a:=(n,l3)) (vs:=[(.agg [(.I rID),(.I rMany),(.I rTerm),(.I rVote),(.sl 2 (List.map Ag rLog)),(.I rRole),(.I n),(.sl 1 (List.map rB rVotes)),v4])]) [A5 v4 g5 1 (List.map (rI .i64) l3)] Tryz.func40 hI O (B2 (Ap hI O O O Ar O) Cg) O (.keep (.drop (.drop .nil))) (.same _) ⟨v4,g5,vH3,O,O⟩
    refine Bg<|Bs<|Z<|Ak 3 [] [(3,(.I (IntKind.wrap .i64 (n - 1))))] ?_
    refine Ae<|Bn (Gs (hW ((IntKind.wrap .i64 (n - 1)),l3) _ _ ⟨v4,g5,vH3,O,O⟩))
   refine B7 Db [[],[0],[],[2],[0,1,2,3],[0,1,2,3,4],[0,1,2,3,4,5],[0,1,2,3,4,5,6],[0,1,2,3,4,5],[0,1,2,3,4,5,8],[0,1,2,3,4,5,6,7,8,9],[0,1,2,3,4,5,6,7,8,9,10],[0,1,2,3,4,5,6,7,8,9,10,11],[0,1,2,3,4,5],[0,1,2,3,4,5,13],[0,1,2,3,4,5,6,7,8,9,10,11,12,13,14],[0,1,2,3,4,5,6,7,8,9,10,11,12,13,14,15]] [(false,0),(false,1),(false,2),(false,3),(false,4),(false,5),(false,6),(false,7),(false,8),(false,9),(false,10),(false,11),(false,12),(false,13),(false,14),(false,15),(false,16)] (by kernel_rfl)<|Y (.I many1) O O Aa<|Y (.I (IntKind.wrap .i64 (2 * many1))) O O (Bi O O O)<|Y (.ptr (ix ids 1) g1 0 1) O O (Ai (Af (c:=0) (off:=1) (i:=1) Ar O Av O))<|Y (.I rMany) O O (Al (Ap hI O O O Av O))<|Y (.bool (decide ((IntKind.wrap .i64 (2 * many1)) > rMany))) O O (Bi O O O)<|Y (.bool (decide ((IntKind.wrap .i64 (2 * many1)) > rMany))) O O Aa ?_
   refine Gl (fun hb=>?_) (fun hb=>?_)
   ·refine Ay (tj:=35) (.ptr (ix ids 1) g1 0 4) O O (congrArg AV.bool hb) O (Ai (Af (c:=0) (off:=4) (i:=4) Ar O Bd O))<|Ay (tj:=35) (.sl 2 (List.map Ag rLog)) O O (congrArg AV.bool hb) O (Al (Ap hI O O O Bd O))<|Ay (tj:=35) (.I n) O O (congrArg AV.bool hb) O Aa<|Ay (tj:=35) (.I (IntKind.wrap .i64 (n - 1))) O O (congrArg AV.bool hb) O (Bi O O O)<|G1 fun a1 hz1 hx2=>Ay (tj:=35) (.cp (Ag a1) 0) O O (congrArg AV.bool hb) O (By (Fa Bd C6 O hz1 hx2))<|Ay (tj:=35) (.cp (Ag a1) 0) O O (congrArg AV.bool hb) O (Ai (Ok (c:=0) (off:=0) (i:=0) C6 O Av O)) ?_
    refine Ay (tj:=35) (.I a1.Term) O O (congrArg AV.bool hb) O (Al (Ek Av O))<|Ay (tj:=35) (.ptr (ix ids 1) g1 0 2) O O (congrArg AV.bool hb) O (Ai (Af (c:=0) (off:=2) (i:=2) Ar O Av O))<|Ay (tj:=35) (.I rTerm) O O (congrArg AV.bool hb) O (Al (Ap hI O O O Av O))<|Ay (tj:=35) (.bool (a1.Term==rTerm)) O O (congrArg AV.bool hb) O (Bi O O O)<|Y (.bool (a1.Term==rTerm)) O O (Bz (t:=true) (congrArg AV.bool hb) O)<|Be<|Bn (hJ (a1.Term==rTerm) _ _ ⟨O,O⟩)
   refine A2 (tj:=35) (b:=false) O O (congrArg AV.bool hb) O O<|A2 (tj:=35) (b:=false) O O (congrArg AV.bool hb) O O<|A2 (tj:=35) (b:=false) O O (congrArg AV.bool hb) O O<|A2 (tj:=35) (b:=false) O O (congrArg AV.bool hb) O O<|A2 (tj:=35) (b:=false) O O (congrArg AV.bool hb) O O<|A2 (tj:=35) (b:=false) O O (congrArg AV.bool hb) O O<|A2 (tj:=35) (b:=false) O O (congrArg AV.bool hb) O O ?_
   refine A2 (tj:=35) (b:=false) O O (congrArg AV.bool hb) O O<|A2 (tj:=35) (b:=false) O O (congrArg AV.bool hb) O O<|A2 (tj:=35) (b:=false) O O (congrArg AV.bool hb) O O<|Y (.bool false) O O (Bz (t:=false) (congrArg AV.bool hb) O)<|Be<|Bn (hJ false _ _ ⟨O,O⟩)
  refine Bq<|Fw [(1,(.q ids 1 g1)),(2,(.q ids 2 g2)),(3,(.I n)),(4,(.I 0)),(5,(.I 0))] (FI O)<|I1 (P:=Tryz.prog) (Lv fun many i l2=>Fb rMany n many i l2) ((D4 fun many1 l3=>Kn rMany rTerm rLog n many1 l3):(Int×(List Int))→R ((Int×(List Int)) ⊕ ((List Int) ⊕ (Int×(List Int))))) (Lv fun many i l2=>fun(fr:Nat→AV) (h:Ah) => ∃ (v3:AV),∃ (g4:Nat),Bc v3 (ix ids 0) g4 l2.length∧fr=A0 [(1,(.q ids 1 g1)),(2,(.q ids 2 g2)),(3,(.I n)),(4,(.I many)),(5,(.I i))]∧h=hp h0 ids [(A5 v3 g4 1 (List.map (rI .i64) l2)),(some (.rows g1 9 [[(.I rID),(.I rMany),(.I rTerm),(.I rVote),(.sl 2 (List.map Ag rLog)),(.I rRole),(.I rCommit),(.sl 1 (List.map rB rVotes)),v3]])),(some (.rows g2 9 [[(.I 0),(.I 0),(.I 0),(.I 0),.emp,(.I 0),(.I 0),.emp,.emp]]))]) (0,0,l1) ?_ ?_
  ·exact⟨v2,g3,vH1,O,O⟩
  rintro vW1 hW1 ⟨many,i,l2⟩ fr h ⟨v3,g4,vH2,rfl,rfl⟩
  refine Ax (m':=Fb rMany n many i l2) O (Ax (Fb.eq_1 _ _ _ _ _) ?_)
  refine Ab<|Ab<|Z<|Ak 4 [1] [(18,(.bool (decide (i<rMany))))] ?_
  refine Ae<|Gg O (fun hc1=>?_) (fun hc1=>?_)
  ·refine Bg<|Ab<|Bq<|Ab<|Z<|Ak 3 [1] [(23,(.I i)),(22,v3)] ?_
   refine G4 fun a hz hx1=>Ad (.ptr (ix ids 0) g4 i.toNat 0) O (By (J9 hI O vH2 O Bw Av O hz hx1))<|Ad (.I a) O (Al (V5 hI O vH2 O hx1 Av O))<|Ak 2 [] [(27,(.bool (decide (a≥n))))] ?_
   refine Ae<|Gg O (fun hc2=>?_) (fun hc2=>?_)
   ·refine Z<|Ak 3 [] [(4,(.I (IntKind.wrap .i64 (many+1))))] ?_
    refine Ae<|Bs<|Z<|Ak 3 [] [(5,(.I (IntKind.wrap .i64 (i+1))))] ?_
    refine Ae<|Bn (Gs (hW1 ((IntKind.wrap .i64 (many+1)),(IntKind.wrap .i64 (i+1)),l2) _ _ ⟨v3,g4,vH2,O,O⟩))
   refine Bg<|Bs<|Z<|Ak 3 [] [(5,(.I (IntKind.wrap .i64 (i+1))))] ?_
   refine Ae<|Bn (Gs (hW1 (many,(IntKind.wrap .i64 (i+1)),l2) _ _ ⟨v3,g4,vH2,O,O⟩))
  refine Ed O<|H4<|Bn (hJ1 (many,l2) _ _ ⟨v3,g4,vH2,O,O⟩)
 refine Ed O<|H4<|Abh<|Bn (hJ2 l1 _ _ ⟨v2,g3,vH1,O,O⟩)
theorem Z0 (r:Replica)(m:Message):CPO Tryz.prog 34 [(.agg (Ao r)),(.agg (Aj m))] (Nc r m) 10 Aj:=by
 refine Q9 (n:=31) 2 Tryz.func34 O (by decide) O O fun h0 ids hI=>B4 (Ax (Nc.eq_1 _ _) ?_)
 refine Ab<|Z<|C1 (v:=(.agg (Ao r))) (j:=1) hI O O O O O O O fun g=>C1 (v:=(.agg (Aj m))) (j:=2) hI O O O O O O O fun g1=>Ad .emp O At<|Ae<|Az ?_
 refine Ab<|Z<|Ui O Cw B0<|Ad .emp O At<|Ae<|Ab<|Ab ?_
 refine Z<|Ad (.I 0) O At<|Ae<|Dp (fun l1=>Mo l1) (fun l1=>fun(fr:Nat→AV) (h:Ah) => ∃ (v2:AV),∃ (g4:Nat),Bc v2 (ix ids 0) g4 l1.length∧fr=A0 [(5,v2)]∧h=hp h0 ids [(A5 v2 g4 10 (List.map Aj l1)),none,none]) ?_ fun hJ=>?_
 ·rintro l1 fr h ⟨v2,g4,vH2,rfl,rfl⟩
  refine Ax (Mo.eq_1 _)<|Ab<|Z<|Ak 2 [] [(4,v2)] ?_
  refine Ae<|P6 (a:=l1) (v:=v2) (g:=g4) Tryz.func34 hI O O vH2 O
 refine Bq<|Fw [(2,(.q ids 1 g)),(3,(.q ids 2 g1)),(5,.emp),(6,(.I 0))] (FI O)<|I1 (P:=Tryz.prog) (R1 fun i l vFrom vTo vTerm=>Ku r m i l vFrom vTo vTerm) ((fun l1=>Mo l1):(List Message)→R (List Message)) (R1 fun i l vFrom vTo vTerm=>fun(fr:Nat→AV) (h:Ah) => ∃ (v:AV),∃ (g2:Nat),Bc v (ix ids 0) g2 l.length∧fr=A0 [(2,(.q ids 1 g)),(3,(.q ids 2 g1)),(5,v),(6,(.I i))]∧h=hp h0 ids [(A5 v g2 10 (List.map Aj l)),(some (.rows g 9 [(Ao r)])),(some (.rows g1 10 [[(.I m.Kind),(.I vFrom),(.I vTo),(.I vTerm),(.I m.Last),(.I m.LastTerm),(.sl 2 (List.map Ag m.Log)),(.I m.Commit),(.I m.Match),(.bool m.Granted)]]))]) (0,[],m.From,m.To,m.Term) ?_ ?_
 ·exact⟨.emp,0,.nil,O,O⟩
 rintro vW hW ⟨i,l,vFrom,vTo,vTerm⟩ fr h ⟨v,g2,vH,rfl,rfl⟩
 refine Ax (m':=Ku r m i l vFrom vTo vTerm) O (Ax (Ku.eq_1 _ _ _ _ _ _ _) ?_)
 refine Ab<|Ab<|Z<|Ak 4 [1] [(11,(.bool (decide (i<r.Many))))] ?_
 refine Ae<|Gg O (fun hc=>?_) (fun hc=>?_)
 ·refine Bg<|Ab<|Bq<|Ab<|Z<|Ak 4 [1] [(17,(.bool (i != r.ID)))] ?_
  refine Ae<|Cs O (fun hc1=>?_) (fun hc1=>?_)
  ·refine Ab<|Z<|Ak 3 [1] [(20,(.ptr (ix ids 2) g1 0 1)),(19,(.I r.ID))] ?_
   refine A4 (A6 (v:=(.I r.ID)) hI O O O O Av O O O O O)<|Ae<|Az ?_
   refine Ab<|Z<|Ak 2 [] [(22,(.ptr (ix ids 2) g1 0 2)),(21,(.I i))] ?_
   refine A4 (A6 (v:=(.I i)) hI O O O O Av O O O O O)<|Ae<|Az ?_
   refine Ab<|Z<|Ak 3 [1] [(25,(.ptr (ix ids 2) g1 0 3)),(24,(.I r.Term))] ?_
   refine A4 (A6 (v:=(.I r.Term)) hI O O O O Av O O O O O)<|Ae<|Az ?_
   refine Z<|Ak 2 [2] [(27,(.agg [(.I m.Kind),(.I r.ID),(.I i),(.I r.Term),(.I m.Last),(.I m.LastTerm),(.sl 2 (List.map Ag m.Log)),(.I m.Commit),(.I m.Match),(.bool m.Granted)])),(26,v)] ?_
   refine Sk (e:=Aj) (L:=[({ Kind:=m.Kind,From:=r.ID,To:=i,Term:=r.Term,Last:=m.Last,LastTerm:=m.LastTerm,Log:=m.Log,Commit:=m.Commit,Match:=m.Match,Granted:=m.Granted }:Message)]) (st:=10) (rows:=[[(.I m.Kind),(.I r.ID),(.I i),(.I r.Term),(.I m.Last),(.I m.LastTerm),(.sl 2 (List.map Ag m.Log)),(.I m.Commit),(.I m.Match),(.bool m.Granted)]]) O Cw B0 O O O O O (.cons (.cons (.same _) (.cons (.same _) (.cons (.same _) (.cons (.same _) (.cons (.same _) (.cons (.same _) (.cons (.same _) (.cons (.same _) (.cons (.same _) (.cons (.same _) .nil)))))))))) .nil) (fun x=>Gd x) O O<|Ha fun hl=>Kl (e:=Aj) (L:=l) (L2:=[({ Kind:=m.Kind,From:=r.ID,To:=i,Term:=r.Term,Last:=m.Last,LastTerm:=m.LastTerm,Log:=m.Log,Commit:=m.Commit,Match:=m.Match,Granted:=m.Granted }:Message)]) (v:=v) (g:=g2) (st:=10) (j:=0) hI O O O O vH O (Fg O) Cw Cw O B0 O O O hl fun v1 g3 vH1=>Ad v1 O At<|Ae<|Az ?_
   refine Bs<|Z<|Ak 3 [] [(6,(.I (IntKind.wrap .i64 (i+1))))] ?_
   refine Ae<|Bn (Gs (hW ((IntKind.wrap .i64 (i+1)),(l++[({ Kind:=m.Kind,From:=r.ID,To:=i,Term:=r.Term,Last:=m.Last,LastTerm:=m.LastTerm,Log:=m.Log,Commit:=m.Commit,Match:=m.Match,Granted:=m.Granted }:Message)]),r.ID,i,r.Term) _ _ ⟨v1,g3,vH1,O,O⟩))
  refine Bg<|Bs<|Z<|Ak 3 [] [(6,(.I (IntKind.wrap .i64 (i+1))))] ?_
  refine Ae<|Bn (Gs (hW ((IntKind.wrap .i64 (i+1)),l,vFrom,vTo,vTerm) _ _ ⟨v,g2,vH,O,O⟩))
 refine Ed O<|H4<|Ez [(A5 v g2 10 (List.map Aj l)),none,none] hI O (.keep (.drop (.drop .nil)))<|Bn (hJ l _ _ ⟨v,g2,vH,O,O⟩)
theorem Aax (r:Replica)(m:Message):CP Tryz.prog 34 [(.agg (Ao r)),(.agg (Aj m))] (Nc r m) (fun(x:List Message)=>(AV.sl 10 (List.map Aj x))):=(Z0 r m).cp (fun x=>Gd x)
theorem Xd (r:Replica):CP Tryz.prog 41 [(.agg (Ao r))] (P8 r) (fun(x:List Message)=>(AV.sl 10 (List.map Aj x))):=by
 refine Da (n:=10) 1 Tryz.func41 O (by decide) O O fun h0 ids hI=>B4 (Ax (P8.eq_1 _) ?_)
 refine Ab<|Z<|C1 (v:=(.agg (Ao r))) (j:=0) hI O O O O O O O fun g=>Ad .emp O At<|Ae<|Az ?_
 refine Ab<|Z<|Ak 6 [0,0,0] [(8,(.agg [(.I 3),(.I 0),(.I 0),(.I 0),(.I 0),(.I 0),(.sl 2 (List.map Ag r.Log)),(.I r.Commit),(.I 0),(.bool false)])),(3,(.agg (Ao r)))] ?_
 refine Bh [(.agg (Ao r)),(.agg [(.I 3),(.I 0),(.I 0),(.I 0),(.I 0),(.I 0),(.sl 2 (List.map Ag r.Log)),(.I r.Commit),(.I 0),(.bool false)])] O O O O (fun hb=>Bx.weak (.cons (.same _) (.cons (.aggL (.cons (.same _) (.cons (.same _) (.cons (.same _) (.cons (.same _) (.cons (.same _) (.cons (.same _) (.cons (.same _) (.cons (.same _) (.cons (.same _) (.cons (.same _) .nil))))))))))) .nil)) ((Aax r ({ Kind:=3,From:=0,To:=0,Term:=0,Last:=0,LastTerm:=0,Log:=r.Log,Commit:=r.Commit,Match:=0,Granted:=false }:Message)) _ hb)) (fun v _=>Bk Tryz.func41 hI) fun r1 _=>Ad (.sl 10 (List.map Aj r1)) O At<|Ae<|B6 (a:=r1) (vs:=[(.sl 10 (List.map Aj r1))]) Tryz.func41 hI O (.same _)
theorem Aa1 (r:Replica):CP Tryz.prog 33 [(.agg (Ao r))] (Nd r) (fun(p:(Replica×(List Message)))=>AV.tup [(.agg (Ao p.1)),(.sl 10 (List.map Aj p.2))]):=by
 refine Da (n:=22) 3 Tryz.func33 O (by decide) O O fun h0 ids hI=>B4 (Ax (Nd.eq_1 _) ?_)
 refine Ab<|Z<|C1 (v:=(.agg (Ao r))) (j:=0) hI O O O O O O O fun g=>Cc (j:=1) hI O O O O Ar O fun g1=>Ad .emp O At<|Ae<|Az ?_
 refine Ab<|Z<|Ad (.ptr (ix ids 0) g 0 5) O (Ai (Af (c:=0) (off:=5) (i:=5) Ar O Av O))<|A4 (A6 (v:=(.I 2)) hI O O O O Av O O O O O)<|Ae<|Az ?_
 refine Ab<|Z<|Ak 2 [0] [(6,(.I r.Many))] ?_
 refine Ha fun hl=>P1 (y:=(0:Int)) (e:=(rI .i64)) (st:=1) (j:=2) hI O O O O Bw Av O O hl.1 hl.2.1 hl.2.2 O O O O O fun v g2 vH=>Ad (.ptr (ix ids 0) g 0 8) O (Ai (Af (c:=0) (off:=8) (i:=8) Ar O Bw O))<|A4 (Ca vH hI O O O O Bw O O O)<|Ae<|Az ?_
 refine Ab<|Z<|Ak 6 [0,0,0] [(14,(.sl 2 (List.map Ag r.Log))),(12,(.I r.ID)),(10,v)] ?_
 refine Ad (.I (r.Log.length:Int)) O (Bp (Br Bd))<|G4 fun a hz hx1=>Ad (.ptr (ix ids 2) g2 r.ID.toNat 0) O (By (J9 hI O vH O Bw Av O hz hx1))<|A4 (Rs (y:=(r.Log.length:Int)) hI O O vH O hx1 Av O O O O O O) ?_
 have vH1:=Bc.set (i:=r.ID.toNat) (y:=(r.Log.length:Int)) vH
 have hx2:=List.getElem?_set_self (a:=(r.Log.length:Int)) (B8 hx1)
 refine Ae<|Az ?_
 refine Ab<|Z<|Ak 1 [0] [(17,(.agg [(.I r.ID),(.I r.Many),(.I r.Term),(.I r.Vote),(.sl 2 (List.map Ag r.Log)),(.I 2),(.I r.Commit),(.sl 1 (List.map rB r.Votes)),v]))] ?_
 refine Cn [2] hI O O (Yh r.ID r.Many r.Term r.Vote r.Log 2 r.Commit r.Votes ((List.replicate (Int.toNat r.Many) (0:Int)).set r.ID.toNat (r.Log.length:Int)) _ (ix ids 2) v g2 vH1 (by exact hI.sub' O O)) O O O O O O (fun v _=>Bk Tryz.func33 hI) ?_
 rintro r1 _ _ _ ⟨v1,g3,vH2,rfl,rfl⟩
 refine D3 [2] hI O O O ?_
 refine C3<|A4 (A6 (v:=(.agg [(.I r.ID),(.I r.Many),(.I r.Term),(.I r.Vote),(.sl 2 (List.map Ag r.Log)),(.I 2),(.I r1.1),(.sl 1 (List.map rB r.Votes)),v1])) hI O O O O Ar O O O O (An O (An O (An O (An O (An O (An O (An O (An O (An (Bc.flat vH2) Dr))))))))))<|Ae<|Az ?_
 refine Ab<|Aay [(some (.rows g 9 [[(.I r.ID),(.I r.Many),(.I r.Term),(.I r.Vote),(.sl 2 (List.map Ag r.Log)),(.I 2),(.I r1.1),(.sl 1 (List.map rB r.Votes)),(.sl 1 (List.map (rI .i64) r1.2))]])),(some (.rows g1 9 [[(.I 0),(.I 0),(.I 0),(.I 0),.emp,(.I 0),(.I 0),.emp,.emp]])),none] [(1,(.q ids 0 g)),(2,(.q ids 1 g1))] hI O (.fz (.cons (.same _) (.cons (.same _) (.cons (.same _) (.cons (.same _) (.cons (.same _) (.cons (.same _) (.cons (.same _) (.cons (.same _) (.cons (Dg vH2 (hI.at O O) (hI.at O O) (fun x=>Il x)) .nil))))))))) O O (.keep (.drop .nil))) (.cons (.same _) (.cons (.same _) .nil))<|B7 Db [[],[],[1],[0,1,2],[0,1,2,2,3,3]] [(false,0),(false,1),(true,2),(true,3),(false,4)] (by kernel_rfl)<|Y (.agg [(.I r.ID),(.I r.Many),(.I r.Term),(.I r.Vote),(.sl 2 (List.map Ag r.Log)),(.I 2),(.I r1.1),(.sl 1 (List.map rB r.Votes)),(.sl 1 (List.map (rI .i64) r1.2))]) O O (Al (Ap hI O O O Ar O))<|Y (.agg [(.I r.ID),(.I r.Many),(.I r.Term),(.I r.Vote),(.sl 2 (List.map Ag r.Log)),(.I 2),(.I r1.1),(.sl 1 (List.map rB r.Votes)),(.sl 1 (List.map (rI .i64) r1.2))]) O O (Al (Ap hI O O O Ar O))<|D1 [(.agg [(.I r.ID),(.I r.Many),(.I r.Term),(.I r.Vote),(.sl 2 (List.map Ag r.Log)),(.I 2),(.I r1.1),(.sl 1 (List.map rB r.Votes)),(.sl 1 (List.map (rI .i64) r1.2))])] O O O O O (fun hb=>Bx.weak (.cons (.aggL (.cons (.same _) (.cons (.same _) (.cons (.same _) (.cons (.same _) (.cons (.same _) (.cons (.same _) (.cons (.same _) (.cons (.same _) (.cons (.same _) .nil)))))))))) .nil) ((Xd ({ ID:=r.ID,Many:=r.Many,Term:=r.Term,Vote:=r.Vote,Log:=r.Log,Role:=2,Commit:=r1.1,Votes:=r.Votes,Match:=r1.2 }:Replica)) _ hb)) (fun v _ _ _=>Bk Tryz.func33 hI) (Au O (Ac O (Al (Ap hI O O O Ar O)) As)) fun r2 _=>Bl O (fun _ _=>O) (fun K hK=>A3 (A6 (v:=(.agg [(.I r.ID),(.I r.Many),(.I r.Term),(.I r.Vote),(.sl 2 (List.map Ag r.Log)),(.I 2),(.I r1.1),(.sl 1 (List.map rB r.Votes)),(.sl 1 (List.map (rI .i64) r1.2))])) hI O O O O Ar O O O O O) (hK _ _ (A8 O As) ?_))
 clear hK K
 refine Y (.sl 10 (List.map Aj r2)) O O At<|Be<|Az ?_
 exact B6 (a:=(({ ID:=r.ID,Many:=r.Many,Term:=r.Term,Vote:=r.Vote,Log:=r.Log,Role:=2,Commit:=r1.1,Votes:=r.Votes,Match:=r1.2 }:Replica),r2)) (vs:=[(.agg [(.I r.ID),(.I r.Many),(.I r.Term),(.I r.Vote),(.sl 2 (List.map Ag r.Log)),(.I 2),(.I r1.1),(.sl 1 (List.map rB r.Votes)),(.sl 1 (List.map (rI .i64) r1.2))]),(.sl 10 (List.map Aj r2))]) Tryz.func33 hI (B2 (Ap hI O O O Ar O) (C2 Cg)) (.tupL (.cons (.aggL (.cons (.same _) (.cons (.same _) (.cons (.same _) (.cons (.same _) (.cons (.same _) (.cons (.same _) (.cons (.same _) (.cons (.same _) (.cons (.same _) .nil)))))))))) (.cons (.same _) .nil)))
theorem Ac0 (l:List Record):CP Tryz.prog 35 [(.sl 2 (List.map Ag l))] (Tj l) (fun(x:Int)=>(AV.int .i64 x)):=by
 refine Da (n:=13) 0 Tryz.func35 O (by decide) O O fun h0 ids hI=>B4 (Ax (Tj.eq_1 _) ?_)
 refine Ab<|Z<|Ad (.I 0) O At<|Ae<|Ab<|Ab<|Z ?_
 refine Ad (.sl 2 (List.map Ag l)) O Aa<|Ad (.I (l.length:Int)) O (Bp (Br Bd))<|Ad (.bool ((l.length:Int)==0)) O (Bi O O O)<|Ae<|Cs O (fun hc=>?_) (fun hc=>?_)
 ·refine Ab<|Z<|Ad (.I 0) O At<|Ae<|B6 (a:=0) (vs:=[(.I 0)]) Tryz.func35 hI O (.same _)
 refine Bg<|Ab<|Z<|Ak 2 [] [(7,(.sl 2 (List.map Ag l))),(6,(.sl 2 (List.map Ag l)))] ?_
 refine Ad (.I (l.length:Int)) O (Bp (Br Bd))<|Ad (.I (IntKind.wrap .i64 ((l.length:Int) - 1))) O (Bi O O O)<|G4 fun a hz hx1=>Ad (.cp (Ag a) 0) O (By (Fa Bd C6 O hz hx1))<|Ak 3 [] [(2,(.I a.Term))] ?_
 refine Ae<|B6 (a:=a.Term) (vs:=[(.I a.Term)]) Tryz.func35 hI O (.same _)
theorem Y7 (rID:Int)(rMany:Int)(rTerm:Int)(rVote:Int)(rLog:List Record)(rRole:Int)(rCommit:Int)(mKind:Int)(mFrom:Int)(mTo:Int)(mTerm:Int)(mLast:Int)(mLastTerm:Int)(mCommit:Int)(mMatch:Int)(mGranted:Bool)(l:List Bool)(l1:List Int)(h0:Ah)(o0:Nat)(o1:Nat)(v1:AV)(g:Nat)(v2:AV)(g1:Nat)(vH:Bc v1 o0 g l.length)(vH1:Bc v2 o1 g1 l1.length)(hI0:Ids h0 [o0,o1] 2):J7 rID rMany rTerm rVote rLog rRole rCommit mKind mFrom mTo mTerm mLast mLastTerm mCommit mMatch mGranted l l1≠.bad→Bx Tryz.prog 34 [(.agg [(.int .i64 rID),(.int .i64 rMany),(.int .i64 rTerm),(.int .i64 rVote),(.sl 2 (List.map Ag rLog)),(.int .i64 rRole),(.int .i64 rCommit),v1,v2]),(.agg [(.int .i64 mKind),(.int .i64 mFrom),(.int .i64 mTo),(.int .i64 mTerm),(.int .i64 mLast),(.int .i64 mLastTerm),.emp,(.int .i64 mCommit),(.int .i64 mMatch),(.bool mGranted)])] (hp h0 [o0,o1] [A5 v1 g 1 (List.map rB l),A5 v2 g1 1 (List.map (rI .i64) l1)]) (El (fun a_ v h'=>v=(.sl 10 (List.map Aj a_))∧h'=hp h0 [o0,o1] [A5 v1 g 1 (List.map rB l),A5 v2 g1 1 (List.map (rI .i64) l1)]) h0 (J7 rID rMany rTerm rVote rLog rRole rCommit mKind mFrom mTo mTerm mLast mLastTerm mCommit mMatch mGranted l l1)):=by
 refine Co (n:=31) 3 Tryz.func34 O (by decide) O O hI0 O fun ids he hI=>?_
 clear hI0
 obtain rfl:ix ids 0=o0:=he 0 rfl
 obtain rfl:ix ids 1=o1:=he 1 rfl
 clear he
 refine B4 (Ax (J7.eq_1 _ _ _ _ _ _ _ _ _ _ _ _ _ _ _ _ _ _) ?_)
 refine Az ?_
 refine Ab<|Z<|C1 (v:=(.agg [(.I rID),(.I rMany),(.I rTerm),(.I rVote),(.sl 2 (List.map Ag rLog)),(.I rRole),(.I rCommit),v1,v2])) (j:=2) hI O O O O O O (An O (An O (An O (An O (An O (An O (An O (An (Bc.flat vH) (An (Bc.flat vH1) Dr))))))))) fun g2=>C1 (v:=(.agg [(.I mKind),(.I mFrom),(.I mTo),(.I mTerm),(.I mLast),(.I mLastTerm),.emp,(.I mCommit),(.I mMatch),(.bool mGranted)])) (j:=3) hI O O O O O O O fun g3=>Ad .emp O At<|Ae<|Az ?_
 refine Ab<|Z<|Ui O Cw B0<|Ad .emp O At<|Ae<|Ab<|Ab ?_
 refine Z<|Ad (.I 0) O At<|Ae<|Dp (fun l3=>K4 l3) (fun l3=>fun(fr:Nat→AV) (h:Ah) => ∃ (v5:AV),∃ (g6:Nat),Bc v5 (ix ids 4) g6 l3.length∧fr=A0 [(5,v5)]∧h=hp h0 ids [(A5 v1 g 1 (List.map rB l)),(A5 v2 g1 1 (List.map (rI .i64) l1)),none,none,(A5 v5 g6 10 (List.map Aj l3))]) ?_ fun hJ=>?_
 ·rintro l3 fr h ⟨v5,g6,vH4,rfl,rfl⟩
  refine Ax (K4.eq_1 _)<|Ab<|Z<|Ak 2 [] [(4,v5)] ?_
  refine Ae<|Es (K:=2) (N:=3) (a:=l3) (vs:=[v5]) [A5 v1 g 1 (List.map rB l),A5 v2 g1 1 (List.map (rI .i64) l1)] Tryz.func34 hI O O O (.keep (.keep (.keep (.keep (.drop .nil))))) (Dg vH4 (hI.at O O) (hI.at O O) (fun x=>Gd x)) ⟨O,O⟩
 refine Bq<|Fw [(2,(.q ids 2 g2)),(3,(.q ids 3 g3)),(5,.emp),(6,(.I 0))] (FI O)<|I1 (P:=Tryz.prog) (R1 fun i vFrom vTo vTerm l2=>E6 rID rMany rTerm mKind mLast mLastTerm mCommit mMatch mGranted i vFrom vTo vTerm l2) ((fun l3=>K4 l3):(List Message)→R (List Message)) (R1 fun i vFrom vTo vTerm l2=>fun(fr:Nat→AV) (h:Ah) => ∃ (v3:AV),∃ (g4:Nat),Bc v3 (ix ids 4) g4 l2.length∧fr=A0 [(2,(.q ids 2 g2)),(3,(.q ids 3 g3)),(5,v3),(6,(.I i))]∧h=hp h0 ids [(A5 v1 g 1 (List.map rB l)),(A5 v2 g1 1 (List.map (rI .i64) l1)),(some (.rows g2 9 [[(.I rID),(.I rMany),(.I rTerm),(.I rVote),(.sl 2 (List.map Ag rLog)),(.I rRole),(.I rCommit),v1,v2]])),(some (.rows g3 10 [[(.I mKind),(.I vFrom),(.I vTo),(.I vTerm),(.I mLast),(.I mLastTerm),.emp,(.I mCommit),(.I mMatch),(.bool mGranted)]])),(A5 v3 g4 10 (List.map Aj l2))]) (0,mFrom,mTo,mTerm,[]) ?_ ?_
 ·exact⟨.emp,0,.nil,O,O⟩
 rintro vW hW ⟨i,vFrom,vTo,vTerm,l2⟩ fr h ⟨v3,g4,vH2,rfl,rfl⟩
 refine Ax (m':=E6 rID rMany rTerm mKind mLast mLastTerm mCommit mMatch mGranted i vFrom vTo vTerm l2) O (Ax (E6.eq_1 _ _ _ _ _ _ _ _ _ _ _ _ _ _) ?_)
 refine Ab<|Ab<|Z<|Ak 4 [2] [(11,(.bool (decide (i<rMany))))] ?_
 refine Ae<|Gg O (fun hc=>?_) (fun hc=>?_)
 ·refine Bg<|Ab<|Bq<|Ab<|Z<|Ak 4 [2] [(17,(.bool (i != rID)))] ?_
  refine Ae<|Cs O (fun hc1=>?_) (fun hc1=>?_)
  ·refine Ab<|Z<|Ak 3 [2] [(20,(.ptr (ix ids 3) g3 0 1)),(19,(.I rID))] ?_
   refine A4 (A6 (v:=(.I rID)) hI O O O O Av O O O O O)<|Ae<|Az ?_
   refine Ab<|Z<|Ak 2 [] [(22,(.ptr (ix ids 3) g3 0 2)),(21,(.I i))] ?_
   refine A4 (A6 (v:=(.I i)) hI O O O O Av O O O O O)<|Ae<|Az ?_
   refine Ab<|Z<|Ak 3 [2] [(25,(.ptr (ix ids 3) g3 0 3)),(24,(.I rTerm))] ?_
   refine A4 (A6 (v:=(.I rTerm)) hI O O O O Av O O O O O)<|Ae<|Az ?_
   refine Z<|Ak 2 [3] [(27,(.agg [(.I mKind),(.I rID),(.I i),(.I rTerm),(.I mLast),(.I mLastTerm),.emp,(.I mCommit),(.I mMatch),(.bool mGranted)])),(26,v3)] ?_
   refine Sk (e:=Aj) (L:=[({ Kind:=mKind,From:=rID,To:=i,Term:=rTerm,Last:=mLast,LastTerm:=mLastTerm,Log:=[],Commit:=mCommit,Match:=mMatch,Granted:=mGranted }:Message)]) (st:=10) (rows:=[[(.I mKind),(.I rID),(.I i),(.I rTerm),(.I mLast),(.I mLastTerm),.emp,(.I mCommit),(.I mMatch),(.bool mGranted)]]) O Cw B0 O O O O O (.cons (.cons (.same _) (.cons (.same _) (.cons (.same _) (.cons (.same _) (.cons (.same _) (.cons (.same _) (.cons (.emp _) (.cons (.same _) (.cons (.same _) (.cons (.same _) .nil)))))))))) .nil) (fun x=>Gd x) O O<|Ha fun hl=>Kl (e:=Aj) (L:=l2) (L2:=[({ Kind:=mKind,From:=rID,To:=i,Term:=rTerm,Last:=mLast,LastTerm:=mLastTerm,Log:=[],Commit:=mCommit,Match:=mMatch,Granted:=mGranted }:Message)]) (v:=v3) (g:=g4) (st:=10) (j:=4) hI O O O O vH2 O (Fg O) Cw Cw O B0 O O O hl fun v4 g5 vH3=>Ad v4 O At<|Ae<|Az ?_
   refine Bs<|Z<|Ak 3 [] [(6,(.I (IntKind.wrap .i64 (i+1))))] ?_
   refine Ae<|Bn (Gs (hW ((IntKind.wrap .i64 (i+1)),rID,i,rTerm,(l2++[({ Kind:=mKind,From:=rID,To:=i,Term:=rTerm,Last:=mLast,LastTerm:=mLastTerm,Log:=[],Commit:=mCommit,Match:=mMatch,Granted:=mGranted }:Message)])) _ _ ⟨v4,g5,vH3,O,O⟩))
  refine Bg<|Bs<|Z<|Ak 3 [] [(6,(.I (IntKind.wrap .i64 (i+1))))] ?_
  refine Ae<|Bn (Gs (hW ((IntKind.wrap .i64 (i+1)),vFrom,vTo,vTerm,l2) _ _ ⟨v3,g4,vH2,O,O⟩))
 refine Ed O<|H4<|Ez [(A5 v1 g 1 (List.map rB l)),(A5 v2 g1 1 (List.map (rI .i64) l1)),none,none,(A5 v3 g4 10 (List.map Aj l2))] hI O (.keep (.keep (.drop (.drop (.keep .nil)))))<|Bn (hJ l2 _ _ ⟨v3,g4,vH2,O,O⟩)
theorem Aaa (r:Replica):CP Tryz.prog 9 [(.agg (Ao r))] (L6 r) (fun(p:(Replica×(List Message)×Int))=>AV.tup [(.agg (Ao p.1)),(.sl 10 (List.map Aj p.2.1)),(.int .i64 p.2.2)]):=by
 refine Da (n:=53) 5 Tryz.func9 O (by decide) O O fun h0 ids hI=>B4 (Ax (L6.eq_1 _) ?_)
 refine Ab<|Z<|C1 (v:=(.agg (Ao r))) (j:=0) hI O O O O O O O fun g=>Cc (j:=1) hI O O O O Ar O fun g1=>Ak 2 [] [] ?_
 refine Ae<|Az ?_
 refine Ab<|Z<|Ak 1 [0] [(8,(.agg (Ao r)))] ?_
 refine Bh [(.agg (Ao r))] O O O O ((R9 r) _) (fun v _=>Bk Tryz.func9 hI) fun e _=>Ad (.I e) O At<|Ae<|Ab<|Ab<|Z<|Ak 2 [] [(11,(.bool (e != 0)))] ?_
 refine Ae<|Cs O (fun hc=>?_) (fun hc=>?_)
 ·refine Ab<|Z<|Ak 2 [] [(13,(.I e)),(12,(.agg [(.I 0),(.I 0),(.I 0),(.I 0),.emp,(.I 0),(.I 0),.emp,.emp]))] ?_
  refine A4 (A6 (v:=(.agg [(.I 0),(.I 0),(.I 0),(.I 0),.emp,(.I 0),(.I 0),.emp,.emp])) hI O O O O Ar O O O O O)<|Ak 2 [] [(4,(.I e)),(3,.emp)] ?_
  refine Ae<|B6 (a:=(({ ID:=0,Many:=0,Term:=0,Vote:=0,Log:=[],Role:=0,Commit:=0,Votes:=[],Match:=[] }:Replica),[],e)) (vs:=[(.agg [(.I 0),(.I 0),(.I 0),(.I 0),.emp,(.I 0),(.I 0),.emp,.emp]),.emp,(.I e)]) Tryz.func9 hI (B2 (Ap hI O O O Ar O) (C2 (C2 Cg))) (.tupL (.cons (.aggL (.cons (.same _) (.cons (.same _) (.cons (.same _) (.cons (.same _) (.cons (.emp _) (.cons (.same _) (.cons (.same _) (.cons (.emp _) (.cons (.emp _) .nil)))))))))) (.cons (.emp _) (.cons (.same _) .nil))))
 refine Bg<|Ab<|Ab<|Z<|Ak 3 [0] [(16,(.bool (r.Term==1048576)))] ?_
 refine Ae<|Cs O (fun hc1=>?_) (fun hc1=>?_)
 ·refine Ab<|Z<|Ad (.agg [(.I 0),(.I 0),(.I 0),(.I 0),.emp,(.I 0),(.I 0),.emp,.emp]) O (Dw (Hn Ar Adg O))<|A4 (A6 (v:=(.agg [(.I 0),(.I 0),(.I 0),(.I 0),.emp,(.I 0),(.I 0),.emp,.emp])) hI O O O O Ar O O O O O)<|Ak 2 [] [(4,(.I 2)),(3,.emp)] ?_
  refine Ae<|B6 (a:=(({ ID:=0,Many:=0,Term:=0,Vote:=0,Log:=[],Role:=0,Commit:=0,Votes:=[],Match:=[] }:Replica),[],2)) (vs:=[(.agg [(.I 0),(.I 0),(.I 0),(.I 0),.emp,(.I 0),(.I 0),.emp,.emp]),.emp,(.I 2)]) Tryz.func9 hI (B2 (Ap hI O O O Ar O) (C2 (C2 Cg))) (.tupL (.cons (.aggL (.cons (.same _) (.cons (.same _) (.cons (.same _) (.cons (.same _) (.cons (.emp _) (.cons (.same _) (.cons (.same _) (.cons (.emp _) (.cons (.emp _) .nil)))))))))) (.cons (.emp _) (.cons (.same _) .nil))))
 refine Bg<|Ab<|Z<|Ak 1 [0] [(18,(.agg (Ao r)))] ?_
 refine Cn [2,3] hI O O (Xn r _ (ix ids 2) (ix ids 3) (by exact hI.sub' O O)) O O O O O O (fun v _=>Bk Tryz.func9 hI) ?_
 rintro r1 _ _ _ ⟨v,g2,v1,g3,vH,vH1,rfl,rfl⟩
 refine D3 [2,3] hI O O O ?_
 refine C3<|A4 (A6 (v:=(.agg [(.I r.ID),(.I r.Many),(.I r.Term),(.I r.Vote),(.sl 2 (List.map Ag r.Log)),(.I 0),(.I r.Commit),v,v1])) hI O O O O Ar O O O O (An O (An O (An O (An O (An O (An O (An O (An (Bc.flat vH) (An (Bc.flat vH1) Dr))))))))))<|Ae<|Az ?_
 refine Ab<|Z<|Ak 4 [0] [(23,(.ptr (ix ids 0) g 0 2)),(22,(.I (IntKind.wrap .i64 (r.Term+1))))] ?_
 refine A4 (A6 (v:=(.I (IntKind.wrap .i64 (r.Term+1)))) hI O O O O Av O O O O O)<|Ae<|Az ?_
 refine Ab<|Z<|Ak 3 [0] [(26,(.ptr (ix ids 0) g 0 3)),(25,(.I r.ID))] ?_
 refine A4 (A6 (v:=(.I r.ID)) hI O O O O Av O O O O O)<|Ae<|Az ?_
 refine Ab<|Z<|Ad (.ptr (ix ids 0) g 0 5) O (Ai (Af (c:=0) (off:=5) (i:=5) Ar O Av O))<|A4 (A6 (v:=(.I 1)) hI O O O O Av O O O O O)<|Ae<|Az ?_
 refine Ab<|Z<|Ak 4 [0,0] [(31,(.I r.ID)),(29,v)] ?_
 refine G4 fun a hz hx1=>Ad (.ptr (ix ids 2) g2 r.ID.toNat 0) O (By (J9 hI O vH O Cr Gq O hz hx1))<|A4 (Rs (y:=true) hI O O vH O hx1 Gq O O O O O O) ?_
 have vH2:=Bc.set (i:=r.ID.toNat) (y:=true) vH
 have hx2:=List.getElem?_set_self (a:=true) (B8 hx1)
 refine Ae<|Az ?_
 refine Ab<|Ab<|Z<|Ak 3 [0] [(35,(.bool (r.Many==1)))] ?_
 refine Ae<|Cs O (fun hc2=>?_) (fun hc2=>?_)
 ·refine Ab<|Z<|Ak 1 [0] [(37,(.agg [(.I r.ID),(.I r.Many),(.I (IntKind.wrap .i64 (r.Term+1))),(.I r.ID),(.sl 2 (List.map Ag r.Log)),(.I 1),(.I r.Commit),v,v1]))] ?_
  refine Alf (h2:=hp h0 ids [none,(some (.rows g1 9 [[(.I 0),(.I 0),(.I 0),(.I 0),.emp,(.I 0),(.I 0),.emp,.emp]])),none,none,none]) [(2,(.q ids 1 g1)),(37,(.agg (Ao ({ ID:=r.ID,Many:=r.Many,Term:=(IntKind.wrap .i64 (r.Term+1)),Vote:=r.ID,Log:=r.Log,Role:=1,Commit:=r.Commit,Votes:=(r1.1.set r.ID.toNat true),Match:=r1.2 }:Replica))))] (Drops.sub (.drop (.keep (.drop (.drop (.keep .nil))))) hI.len) (.cons (.same _) (.cons (.aggL (.cons (.same _) (.cons (.same _) (.cons (.same _) (.cons (.same _) (.cons (.same _) (.cons (.same _) (.cons (.same _) (.cons (Dg vH2 (hI.at O O) (hI.at O O) (fun x=>Qi x)) (.cons (Dg vH1 (hI.at O O) (hI.at O O) (fun x=>Il x)) .nil)))))))))) .nil)) O O<|Bh [(.agg (Ao ({ ID:=r.ID,Many:=r.Many,Term:=(IntKind.wrap .i64 (r.Term+1)),Vote:=r.ID,Log:=r.Log,Role:=1,Commit:=r.Commit,Votes:=(r1.1.set r.ID.toNat true),Match:=r1.2 }:Replica)))] O O O O ((Aa1 ({ ID:=r.ID,Many:=r.Many,Term:=(IntKind.wrap .i64 (r.Term+1)),Vote:=r.ID,Log:=r.Log,Role:=1,Commit:=r.Commit,Votes:=(r1.1.set r.ID.toNat true),Match:=r1.2 }:Replica)) _) (fun v _=>Bk Tryz.func9 hI) fun r2 _=>Ak 3 [] [(40,(.sl 10 (List.map Aj r2.2))),(39,(.agg (Ao r2.1)))] ?_
  refine Cc (j:=4) hI O O O O Ar O fun g4=>A4 (A6 (v:=(.agg (Ao r2.1))) hI O O O O Ar O O O O O)<|Ad (.sl 10 (List.map Aj r2.2)) O At<|Ae<|Az ?_
  refine Ab<|Z<|Ak 2 [4] [(42,(.sl 10 (List.map Aj r2.2))),(41,(.agg (Ao r2.1)))] ?_
  refine A4 (A6 (v:=(.agg (Ao r2.1))) hI O O O O Ar O O O O O)<|Ak 2 [] [(4,(.I 0)),(3,(.sl 10 (List.map Aj r2.2)))] ?_
  refine Ae<|Az ?_
  exact B6 (a:=(r2.1,r2.2,0)) (vs:=[(.agg (Ao r2.1)),(.sl 10 (List.map Aj r2.2)),(.I 0)]) Tryz.func9 hI (B2 (Ap hI O O O Ar O) (C2 (C2 Cg))) (.tupL (.cons (.same _) (.cons (.same _) (.cons (.same _) .nil))))
 refine Bg<|Ab<|B7 Db [[],[],[],[2],[2,3],[],[5],[5,6],[2,3,4,5,6,7],[1,2,3,4,5,6,7,8],[0,1,2,3,4,5,6,7,8,9],[0,1,2,3,4,5,6,7,8,9,9,10,10],[0,1,2,3,4,5,6,7,8,9,10,11,11]] [(false,0),(false,1),(false,2),(false,3),(false,4),(false,5),(false,6),(true,7),(false,8),(true,9),(true,10),(false,11),(false,12)] (by kernel_rfl)<|Y (.agg [(.I r.ID),(.I r.Many),(.I (IntKind.wrap .i64 (r.Term+1))),(.I r.ID),(.sl 2 (List.map Ag r.Log)),(.I 1),(.I r.Commit),v,v1]) O O (Al (Ap hI O O O Ar O))<|Y (.agg [(.I r.ID),(.I r.Many),(.I (IntKind.wrap .i64 (r.Term+1))),(.I r.ID),(.sl 2 (List.map Ag r.Log)),(.I 1),(.I r.Commit),v,v1]) O O (Al (Ap hI O O O Ar O))<|Y (.ptr (ix ids 0) g 0 4) O O (Ai (Af (c:=0) (off:=4) (i:=4) Ar O Bd O))<|Y (.sl 2 (List.map Ag r.Log)) O O (Al (Ap hI O O O Bd O)) ?_
 refine Y (.I (r.Log.length:Int)) O O (Bp (Br Bd))<|Y (.ptr (ix ids 0) g 0 4) O O (Ai (Af (c:=0) (off:=4) (i:=4) Ar O Bd O))<|Y (.sl 2 (List.map Ag r.Log)) O O (Al (Ap hI O O O Bd O))<|D1 [(.sl 2 (List.map Ag r.Log))] O O O O O ((Ac0 r.Log) _) (fun v _ _ _=>Bk Tryz.func9 hI) (A8 O (Ac O (Bp (Br Bd)) (Ac O (Al (Ap hI O O O Bd O)) (Ac O (Ai (Af (c:=0) (off:=4) (i:=4) Ar O Bd O)) (Ac O (Al (Ap hI O O O Ar O)) (Ac O (Al (Ap hI O O O Ar O)) As)))))) fun r3 _=>Y (.agg [(.I 1),(.I 0),(.I 0),(.I 0),(.I (r.Log.length:Int)),(.I r3),.emp,(.I 0),(.I 0),(.bool false)]) O O (Dw (Hn B0 Abq O))<|Fh [2,3] hI O O (Y7 r.ID r.Many (IntKind.wrap .i64 (r.Term+1)) r.ID r.Log 1 r.Commit 1 0 0 0 (r.Log.length:Int) r3 0 0 false (r1.1.set r.ID.toNat true) r1.2 _ (ix ids 2) (ix ids 3) v g2 v1 g3 vH2 vH1 (by exact hI.sub' O O)) O O O O O O O (fun v _ _ _=>Bk Tryz.func9 hI) ?_
 rintro r4 _ _ _ ⟨rfl,rfl⟩
 refine Gf [2,3] [some (.rows g 9 [[(.I r.ID),(.I r.Many),(.I (IntKind.wrap .i64 (r.Term+1))),(.I r.ID),(.sl 2 (List.map Ag r.Log)),(.I 1),(.I r.Commit),v,v1]]),some (.rows g1 9 [[(.I 0),(.I 0),(.I 0),(.I 0),.emp,(.I 0),(.I 0),.emp,.emp]]),A5 v g2 1 (List.map rB (r1.1.set r.ID.toNat true)),A5 v1 g3 1 (List.map (rI .i64) r1.2),none] hI O O O O ⟨(A9 O (A8 O (Au O (Ac O (Al (Ap hI O O O Ar O)) As)))),?_⟩
 refine Ge<|Bl O (fun _ _=>O) (fun K hK=>A3 (A6 (v:=(.agg [(.I r.ID),(.I r.Many),(.I (IntKind.wrap .i64 (r.Term+1))),(.I r.ID),(.sl 2 (List.map Ag r.Log)),(.I 1),(.I r.Commit),v,v1])) hI O O O O Ar O O O O (An O (An O (An O (An O (An O (An O (An O (An (Bc.flat vH2) (An (Bc.flat vH1) Dr)))))))))) (hK _ _ (Bb O As) ?_))
 clear hK K
 refine Y (.sl 10 (List.map Aj r4)) O O At<|Y (.I 0) O O At<|Be<|Az ?_
 exact B6 (a:=(({ ID:=r.ID,Many:=r.Many,Term:=(IntKind.wrap .i64 (r.Term+1)),Vote:=r.ID,Log:=r.Log,Role:=1,Commit:=r.Commit,Votes:=(r1.1.set r.ID.toNat true),Match:=r1.2 }:Replica),r4,0)) (vs:=[(.agg [(.I r.ID),(.I r.Many),(.I (IntKind.wrap .i64 (r.Term+1))),(.I r.ID),(.sl 2 (List.map Ag r.Log)),(.I 1),(.I r.Commit),v,v1]),(.sl 10 (List.map Aj r4)),(.I 0)]) Tryz.func9 hI (B2 (Ap hI O O O Ar O) (C2 (C2 Cg))) (.tupL (.cons (.aggL (.cons (.same _) (.cons (.same _) (.cons (.same _) (.cons (.same _) (.cons (.same _) (.cons (.same _) (.cons (.same _) (.cons (Dg vH2 (hI.at O O) (hI.out O) (fun x=>Qi x)) (.cons (Dg vH1 (hI.at O O) (hI.out O) (fun x=>Il x)) .nil)))))))))) (.cons (.same _) (.cons (.same _) .nil))))
theorem Ye (rID:Int)(rMany:Int)(rTerm:Int)(rVote:Int)(rRole:Int)(rCommit:Int)(rVotes:List Bool)(l:List Record)(l1:List Int)(h0:Ah)(o0:Nat)(o1:Nat)(v1:AV)(g:Nat)(v2:AV)(g1:Nat)(vH:Bc v1 o0 g l.length)(vH1:Bc v2 o1 g1 l1.length)(hI0:Ids h0 [o0,o1] 2):Kq rID rMany rTerm rVote rRole rCommit rVotes l l1≠.bad→Bx Tryz.prog 40 [(.agg [(.int .i64 rID),(.int .i64 rMany),(.int .i64 rTerm),(.int .i64 rVote),v1,(.int .i64 rRole),(.int .i64 rCommit),(.sl 1 (List.map rB rVotes)),v2])] (hp h0 [o0,o1] [A5 v1 g 2 (List.map Ag l),A5 v2 g1 1 (List.map (rI .i64) l1)]) (El (fun a_ v h' => ∃ (v10:AV),∃ (g11:Nat),∃ (v11:AV),∃ (g12:Nat),Bc v10 o0 g11 a_.2.1.length∧Bc v11 o1 g12 a_.2.2.length∧v=(.agg [(.int .i64 rID),(.int .i64 rMany),(.int .i64 rTerm),(.int .i64 rVote),v10,(.int .i64 rRole),(.int .i64 a_.1),(.sl 1 (List.map rB rVotes)),v11])∧h'=hp h0 [o0,o1] [A5 v10 g11 2 (List.map Ag a_.2.1),A5 v11 g12 1 (List.map (rI .i64) a_.2.2)]) h0 (Kq rID rMany rTerm rVote rRole rCommit rVotes l l1)):=by
 refine Co (n:=51) 2 Tryz.func40 O (by decide) O O hI0 O fun ids he hI=>?_
 clear hI0
 obtain rfl:ix ids 0=o0:=he 0 rfl
 obtain rfl:ix ids 1=o1:=he 1 rfl
 clear he
 refine B4 (Ax (Kq.eq_1 _ _ _ _ _ _ _ _ _) ?_)
 refine Az ?_
 refine Ab<|Z<|C1 (v:=(.agg [(.I rID),(.I rMany),(.I rTerm),(.I rVote),v1,(.I rRole),(.I rCommit),(.sl 1 (List.map rB rVotes)),v2])) (j:=2) hI O O O O O O (An O (An O (An O (An O (An (Bc.flat vH) (An O (An O (An O (An (Bc.flat vH1) Dr))))))))) fun g2=>Cc (j:=3) hI O O O O Ar O fun g3=>Ae<|Az ?_
 refine Ab<|Ab<|Z<|Ak 2 [2] [(7,v1)] ?_
 refine Ad (.I (l.length:Int)) O (Bp (Bc.len vH Bd))<|Ad (.I (l.length:Int)) O At<|Ae<|Dp (D4 fun l7 l8=>Mg rCommit l7 l8) (D4 fun l7 l8=>fun(fr:Nat→AV) (h:Ah) => ∃ (v8:AV),∃ (g9:Nat),∃ (v9:AV),∃ (g10:Nat),Bc v8 (ix ids 0) g9 l7.length∧Bc v9 (ix ids 1) g10 l8.length∧fr=A0 [(1,(.q ids 2 g2)),(2,(.q ids 3 g3))]∧h=hp h0 ids [(A5 v8 g9 2 (List.map Ag l7)),(A5 v9 g10 1 (List.map (rI .i64) l8)),(some (.rows g2 9 [[(.I rID),(.I rMany),(.I rTerm),(.I rVote),v8,(.I rRole),(.I rCommit),(.sl 1 (List.map rB rVotes)),v9]])),(some (.rows g3 9 [[(.I 0),(.I 0),(.I 0),(.I 0),.emp,(.I 0),(.I 0),.emp,.emp]]))]) ?_ fun hJ2=>?_
 ·rintro⟨l7,l8⟩ fr h ⟨v8,g9,v9,g10,vH7,vH8,rfl,rfl⟩
  refine Ax (Mg.eq_1 _ _ _)<|Ab<|Z<|Ak 1 [2] [(50,(.agg [(.I rID),(.I rMany),(.I rTerm),(.I rVote),v8,(.I rRole),(.I rCommit),(.sl 1 (List.map rB rVotes)),v9]))] ?_
  refine A4 (A6 (v:=(.agg [(.I rID),(.I rMany),(.I rTerm),(.I rVote),v8,(.I rRole),(.I rCommit),(.sl 1 (List.map rB rVotes)),v9])) hI O O O O Ar O O O O (An O (An O (An O (An O (An (Bc.flat vH7) (An O (An O (An O (An (Bc.flat vH8) Dr))))))))))<|Ae<|Az ?_
  exact Es (K:=2) (N:=2) (a:=(rCommit,l7,l8)) (vs:=[(.agg [(.I rID),(.I rMany),(.I rTerm),(.I rVote),v8,(.I rRole),(.I rCommit),(.sl 1 (List.map rB rVotes)),v9])]) [A5 v8 g9 2 (List.map Ag l7),A5 v9 g10 1 (List.map (rI .i64) l8)] Tryz.func40 hI O (B2 (Ap hI O O O Ar O) Cg) O (.keep (.keep (.drop (.drop .nil)))) (.same _) ⟨v8,g9,v9,g10,vH7,vH8,O,O⟩
 refine Bq<|Fw [(1,(.q ids 2 g2)),(2,(.q ids 3 g3)),(3,(.I (l.length:Int)))] (FI O)<|I1 (P:=Tryz.prog) (Lv fun n l2 l3=>Ev rMany rTerm rCommit n l2 l3) ((Ga (D4 fun l7 l8=>Mg rCommit l7 l8) (fun r=>.ok r)):(((List Record)×(List Int)) ⊕ (Int×(List Record)×(List Int)))→R (Int×(List Record)×(List Int))) (Lv fun n l2 l3=>fun(fr:Nat→AV) (h:Ah) => ∃ (v3:AV),∃ (g4:Nat),∃ (v4:AV),∃ (g5:Nat),Bc v3 (ix ids 0) g4 l2.length∧Bc v4 (ix ids 1) g5 l3.length∧fr=A0 [(1,(.q ids 2 g2)),(2,(.q ids 3 g3)),(3,(.I n))]∧h=hp h0 ids [(A5 v3 g4 2 (List.map Ag l2)),(A5 v4 g5 1 (List.map (rI .i64) l3)),(some (.rows g2 9 [[(.I rID),(.I rMany),(.I rTerm),(.I rVote),v3,(.I rRole),(.I rCommit),(.sl 1 (List.map rB rVotes)),v4]])),(some (.rows g3 9 [[(.I 0),(.I 0),(.I 0),(.I 0),.emp,(.I 0),(.I 0),.emp,.emp]]))]) ((l.length:Int),l,l1) ?_ ?_
 ·exact⟨v1,g,v2,g1,vH,vH1,O,O⟩
 rintro vW hW ⟨n,l2,l3⟩ fr h ⟨v3,g4,v4,g5,vH2,vH3,rfl,rfl⟩
 refine Ax (m':=Ev rMany rTerm rCommit n l2 l3) O (Ax (Ev.eq_1 _ _ _ _ _ _) ?_)
 refine Ab<|Ab<|Z<|Ak 4 [2] [(12,(.bool (decide (n > rCommit))))] ?_
 refine Ae<|Gg O (fun hc=>?_) (fun hc=>?_)
 ·refine Bg<|Ab<|Bq<|Ab<|Z<|Ad (.I 0) O At<|Ae ?_
  refine Ab<|Ab<|Z<|Ad (.I 0) O At<|Ae<|Dp (D4 fun many1 l5=>Ko rMany rTerm n l2 many1 l5) (D4 fun many1 l5=>fun(fr:Nat→AV) (h:Ah) => ∃ (v6:AV),∃ (g7:Nat),Bc v6 (ix ids 1) g7 l5.length∧fr=A0 [(1,(.q ids 2 g2)),(2,(.q ids 3 g3)),(3,(.I n)),(4,(.I many1))]∧h=hp h0 ids [(A5 v3 g4 2 (List.map Ag l2)),(A5 v6 g7 1 (List.map (rI .i64) l5)),(some (.rows g2 9 [[(.I rID),(.I rMany),(.I rTerm),(.I rVote),v3,(.I rRole),(.I rCommit),(.sl 1 (List.map rB rVotes)),v6]])),(some (.rows g3 9 [[(.I 0),(.I 0),(.I 0),(.I 0),.emp,(.I 0),(.I 0),.emp,.emp]]))]) ?_ fun hJ1=>?_
  ·rintro⟨many1,l5⟩ fr h ⟨v6,g7,vH5,rfl,rfl⟩
   refine Ax (Ko.eq_1 _ _ _ _ _ _)<|Ab<|Dp (D4 fun x l6=>I4 n l5 x l6) (D4 fun x l6=>fun(fr:Nat→AV) (h:Ah) => ∃ (v7:AV),∃ (g8:Nat),Bc v7 (ix ids 0) g8 l6.length∧fr=A0 [(1,(.q ids 2 g2)),(2,(.q ids 3 g3)),(3,(.I n)),(46,(.bool x))]∧h=hp h0 ids [(A5 v7 g8 2 (List.map Ag l6)),(A5 v6 g7 1 (List.map (rI .i64) l5)),(some (.rows g2 9 [[(.I rID),(.I rMany),(.I rTerm),(.I rVote),v7,(.I rRole),(.I rCommit),(.sl 1 (List.map rB rVotes)),v6]])),(some (.rows g3 9 [[(.I 0),(.I 0),(.I 0),(.I 0),.emp,(.I 0),(.I 0),.emp,.emp]]))]) ?_ fun hJ=>?_
   ·rintro⟨x,l6⟩ fr h ⟨v7,g8,vH6,rfl,rfl⟩
    refine Ax (I4.eq_1 _ _ _ _)<|Cs O (fun hc3=>?_) (fun hc3=>?_)
    ·refine Ab<|Z<|Ak 2 [] [(48,(.ptr (ix ids 2) g2 0 6)),(47,(.I n))] ?_
     refine A4 (A6 (v:=(.I n)) hI O O O O Av O O O O O)<|Ae<|Az ?_
     refine Ab<|Z<|Ak 1 [2] [(49,(.agg [(.I rID),(.I rMany),(.I rTerm),(.I rVote),v7,(.I rRole),(.I n),(.sl 1 (List.map rB rVotes)),v6]))] ?_
     refine A4 (A6 (v:=(.agg [(.I rID),(.I rMany),(.I rTerm),(.I rVote),v7,(.I rRole),(.I n),(.sl 1 (List.map rB rVotes)),v6])) hI O O O O Ar O O O O (An O (An O (An O (An O (An (Bc.flat vH6) (An O (An O (An O (An (Bc.flat vH5) Dr))))))))))<|Ae<|Az ?_
     refine H4<|Mf<|Es (K:=2) (N:=2) (a:=(n,l6,l5)) (vs:=[(.agg [(.I rID),(.I rMany),(.I rTerm),(.I rVote),v7,(.I rRole),(.I n),(.sl 1 (List.map rB rVotes)),v6])]) [A5 v7 g8 2 (List.map Ag l6),A5 v6 g7 1 (List.map (rI .i64) l5)] Tryz.func40 hI O (B2 (Ap hI O O O Ar O) Cg) O (.keep (.keep (.drop (.drop .nil)))) (.same _) ⟨v7,g8,v6,g7,vH6,vH5,O,O⟩
    refine Bg<|Bs<|Z<|Ak 3 [] [(3,(.I (IntKind.wrap .i64 (n - 1))))] ?_
    refine Ae<|Bn (Gs (hW ((IntKind.wrap .i64 (n - 1)),l6,l5) _ _ ⟨v7,g8,v6,g7,vH6,vH5,O,O⟩))
   refine B7 Db [[],[0],[],[2],[0,1,2,3],[0,1,2,3,4],[0,1,2,3,4,5],[0,1,2,3,4,5,6],[0,1,2,3,4,5],[0,1,2,3,4,5,8],[0,1,2,3,4,5,6,7,8,9],[0,1,2,3,4,5,6,7,8,9,10],[0,1,2,3,4,5,6,7,8,9,10,11],[0,1,2,3,4,5],[0,1,2,3,4,5,13],[0,1,2,3,4,5,6,7,8,9,10,11,12,13,14],[0,1,2,3,4,5,6,7,8,9,10,11,12,13,14,15]] [(false,0),(false,1),(false,2),(false,3),(false,4),(false,5),(false,6),(false,7),(false,8),(false,9),(false,10),(false,11),(false,12),(false,13),(false,14),(false,15),(false,16)] (by kernel_rfl)<|Y (.I many1) O O Aa<|Y (.I (IntKind.wrap .i64 (2 * many1))) O O (Bi O O O)<|Y (.ptr (ix ids 2) g2 0 1) O O (Ai (Af (c:=0) (off:=1) (i:=1) Ar O Av O))<|Y (.I rMany) O O (Al (Ap hI O O O Av O))<|Y (.bool (decide ((IntKind.wrap .i64 (2 * many1)) > rMany))) O O (Bi O O O)<|Y (.bool (decide ((IntKind.wrap .i64 (2 * many1)) > rMany))) O O Aa ?_
   refine Gl (fun hb=>?_) (fun hb=>?_)
   ·refine Ay (tj:=35) (.ptr (ix ids 2) g2 0 4) O O (congrArg AV.bool hb) O (Ai (Af (c:=0) (off:=4) (i:=4) Ar O Bd O))<|Ay (tj:=35) v3 O O (congrArg AV.bool hb) O (Al (Ap hI O O O Bd O))<|Ay (tj:=35) (.I n) O O (congrArg AV.bool hb) O Aa<|Ay (tj:=35) (.I (IntKind.wrap .i64 (n - 1))) O O (congrArg AV.bool hb) O (Bi O O O)<|G1 fun a1 hz1 hx2=>Ay (tj:=35) (.ptr (ix ids 0) g4 (IntKind.wrap .i64 (n - 1)).toNat 0) O O (congrArg AV.bool hb) O (By (J9 hI O vH2 O Bd C6 O hz1 hx2))<|Ay (tj:=35) (.ptr (ix ids 0) g4 (IntKind.wrap .i64 (n - 1)).toNat 0) O O (congrArg AV.bool hb) O (Ai (Af (c:=0) (off:=0) (i:=0) C6 O Av O)) ?_
    refine Ay (tj:=35) (.I a1.Term) O O (congrArg AV.bool hb) O (Al (V5 hI O vH2 O hx2 Av O))<|Ay (tj:=35) (.ptr (ix ids 2) g2 0 2) O O (congrArg AV.bool hb) O (Ai (Af (c:=0) (off:=2) (i:=2) Ar O Av O))<|Ay (tj:=35) (.I rTerm) O O (congrArg AV.bool hb) O (Al (Ap hI O O O Av O))<|Ay (tj:=35) (.bool (a1.Term==rTerm)) O O (congrArg AV.bool hb) O (Bi O O O)<|Y (.bool (a1.Term==rTerm)) O O (Bz (t:=true) (congrArg AV.bool hb) O)<|Be<|Bn (hJ ((a1.Term==rTerm),l2) _ _ ⟨v3,g4,vH2,O,O⟩)
   refine A2 (tj:=35) (b:=false) O O (congrArg AV.bool hb) O O<|A2 (tj:=35) (b:=false) O O (congrArg AV.bool hb) O O<|A2 (tj:=35) (b:=false) O O (congrArg AV.bool hb) O O<|A2 (tj:=35) (b:=false) O O (congrArg AV.bool hb) O O<|A2 (tj:=35) (b:=false) O O (congrArg AV.bool hb) O O<|A2 (tj:=35) (b:=false) O O (congrArg AV.bool hb) O O<|A2 (tj:=35) (b:=false) O O (congrArg AV.bool hb) O O ?_
   refine A2 (tj:=35) (b:=false) O O (congrArg AV.bool hb) O O<|A2 (tj:=35) (b:=false) O O (congrArg AV.bool hb) O O<|A2 (tj:=35) (b:=false) O O (congrArg AV.bool hb) O O<|Y (.bool false) O O (Bz (t:=false) (congrArg AV.bool hb) O)<|Be<|Bn (hJ (false,l2) _ _ ⟨v3,g4,vH2,O,O⟩)
  refine Bq<|Fw [(1,(.q ids 2 g2)),(2,(.q ids 3 g3)),(3,(.I n)),(4,(.I 0)),(5,(.I 0))] (FI O)<|I1 (P:=Tryz.prog) (Lv fun many i l4=>Ki rMany n many i l4) ((D4 fun many1 l5=>Ko rMany rTerm n l2 many1 l5):(Int×(List Int))→R ((Int×(List Record)×(List Int)) ⊕ (((List Record)×(List Int)) ⊕ (Int×(List Record)×(List Int))))) (Lv fun many i l4=>fun(fr:Nat→AV) (h:Ah) => ∃ (v5:AV),∃ (g6:Nat),Bc v5 (ix ids 1) g6 l4.length∧fr=A0 [(1,(.q ids 2 g2)),(2,(.q ids 3 g3)),(3,(.I n)),(4,(.I many)),(5,(.I i))]∧h=hp h0 ids [(A5 v3 g4 2 (List.map Ag l2)),(A5 v5 g6 1 (List.map (rI .i64) l4)),(some (.rows g2 9 [[(.I rID),(.I rMany),(.I rTerm),(.I rVote),v3,(.I rRole),(.I rCommit),(.sl 1 (List.map rB rVotes)),v5]])),(some (.rows g3 9 [[(.I 0),(.I 0),(.I 0),(.I 0),.emp,(.I 0),(.I 0),.emp,.emp]]))]) (0,0,l3) ?_ ?_
  ·exact⟨v4,g5,vH3,O,O⟩
  rintro vW1 hW1 ⟨many,i,l4⟩ fr h ⟨v5,g6,vH4,rfl,rfl⟩
  refine Ax (m':=Ki rMany n many i l4) O (Ax (Ki.eq_1 _ _ _ _ _) ?_)
  refine Ab<|Ab<|Z<|Ak 4 [2] [(18,(.bool (decide (i<rMany))))] ?_
  refine Ae<|Gg O (fun hc1=>?_) (fun hc1=>?_)
  ·refine Bg<|Ab<|Bq<|Ab<|Z<|Ak 3 [2] [(23,(.I i)),(22,v5)] ?_
   refine G4 fun a hz hx1=>Ad (.ptr (ix ids 1) g6 i.toNat 0) O (By (J9 hI O vH4 O Bw Av O hz hx1))<|Ad (.I a) O (Al (V5 hI O vH4 O hx1 Av O))<|Ak 2 [] [(27,(.bool (decide (a≥n))))] ?_
   refine Ae<|Gg O (fun hc2=>?_) (fun hc2=>?_)
   ·refine Z<|Ak 3 [] [(4,(.I (IntKind.wrap .i64 (many+1))))] ?_
    refine Ae<|Bs<|Z<|Ak 3 [] [(5,(.I (IntKind.wrap .i64 (i+1))))] ?_
    refine Ae<|Bn (Gs (hW1 ((IntKind.wrap .i64 (many+1)),(IntKind.wrap .i64 (i+1)),l4) _ _ ⟨v5,g6,vH4,O,O⟩))
   refine Bg<|Bs<|Z<|Ak 3 [] [(5,(.I (IntKind.wrap .i64 (i+1))))] ?_
   refine Ae<|Bn (Gs (hW1 (many,(IntKind.wrap .i64 (i+1)),l4) _ _ ⟨v5,g6,vH4,O,O⟩))
  refine Ed O<|H4<|Bn (hJ1 (many,l4) _ _ ⟨v5,g6,vH4,O,O⟩)
 refine Ed O<|H4<|Abh<|Bn (hJ2 (l2,l3) _ _ ⟨v3,g4,v4,g5,vH2,vH3,O,O⟩)
theorem Z5 (r:Replica)(data:List Int):CP Tryz.prog 11 [(.agg (Ao r)),(.sl 1 (List.map (rI .u8) data))] (L7 r data) (fun(p:(Replica×(List Message)×Int))=>AV.tup [(.agg (Ao p.1)),(.sl 10 (List.map Aj p.2.1)),(.int .i64 p.2.2)]):=by
 refine Da (n:=52) 4 Tryz.func11 O (by decide) O O fun h0 ids hI=>B4 (Ax (L7.eq_1 _ _) ?_)
 refine Ab<|Z<|C1 (v:=(.agg (Ao r))) (j:=0) hI O O O O O O O fun g=>Cc (j:=1) hI O O O O Ar O fun g1=>Ak 2 [] [] ?_
 refine Ae<|Az ?_
 refine Ab<|Z<|Ak 1 [0] [(8,(.agg (Ao r)))] ?_
 refine Bh [(.agg (Ao r))] O O O O ((R9 r) _) (fun v _=>Bk Tryz.func11 hI) fun e _=>Ad (.I e) O At<|Ae<|Ab<|Ab<|Z<|Ak 2 [] [(11,(.bool (e != 0)))] ?_
 refine Ae<|Cs O (fun hc=>?_) (fun hc=>?_)
 ·refine Ab<|Z<|Ak 2 [] [(13,(.I e)),(12,(.agg [(.I 0),(.I 0),(.I 0),(.I 0),.emp,(.I 0),(.I 0),.emp,.emp]))] ?_
  refine A4 (A6 (v:=(.agg [(.I 0),(.I 0),(.I 0),(.I 0),.emp,(.I 0),(.I 0),.emp,.emp])) hI O O O O Ar O O O O O)<|Ak 2 [] [(6,(.I e)),(5,.emp)] ?_
  refine Ae<|B6 (a:=(({ ID:=0,Many:=0,Term:=0,Vote:=0,Log:=[],Role:=0,Commit:=0,Votes:=[],Match:=[] }:Replica),[],e)) (vs:=[(.agg [(.I 0),(.I 0),(.I 0),(.I 0),.emp,(.I 0),(.I 0),.emp,.emp]),.emp,(.I e)]) Tryz.func11 hI (B2 (Ap hI O O O Ar O) (C2 (C2 Cg))) (.tupL (.cons (.aggL (.cons (.same _) (.cons (.same _) (.cons (.same _) (.cons (.same _) (.cons (.emp _) (.cons (.same _) (.cons (.same _) (.cons (.emp _) (.cons (.emp _) .nil)))))))))) (.cons (.emp _) (.cons (.same _) .nil))))
 refine Bg<|Ab<|Ab<|Z<|Ak 3 [0] [(16,(.bool (r.Role != 2)))] ?_
 refine Ae<|Cs O (fun hc1=>?_) (fun hc1=>?_)
 ·refine Ab<|Z<|Ad (.agg [(.I 0),(.I 0),(.I 0),(.I 0),.emp,(.I 0),(.I 0),.emp,.emp]) O (Dw (Hn Ar Adg O))<|A4 (A6 (v:=(.agg [(.I 0),(.I 0),(.I 0),(.I 0),.emp,(.I 0),(.I 0),.emp,.emp])) hI O O O O Ar O O O O O)<|Ak 2 [] [(6,(.I 470)),(5,.emp)] ?_
  refine Ae<|B6 (a:=(({ ID:=0,Many:=0,Term:=0,Vote:=0,Log:=[],Role:=0,Commit:=0,Votes:=[],Match:=[] }:Replica),[],470)) (vs:=[(.agg [(.I 0),(.I 0),(.I 0),(.I 0),.emp,(.I 0),(.I 0),.emp,.emp]),.emp,(.I 470)]) Tryz.func11 hI (B2 (Ap hI O O O Ar O) (C2 (C2 Cg))) (.tupL (.cons (.aggL (.cons (.same _) (.cons (.same _) (.cons (.same _) (.cons (.same _) (.cons (.emp _) (.cons (.same _) (.cons (.same _) (.cons (.emp _) (.cons (.emp _) .nil)))))))))) (.cons (.emp _) (.cons (.same _) .nil))))
 refine Bg<|Ab<|Ab<|Z<|Ak 2 [0] [(19,(.sl 2 (List.map Ag r.Log)))] ?_
 refine Ad (.I (r.Log.length:Int)) O (Bp (Br Bd))<|Ad (.bool (decide ((r.Log.length:Int)≥4096))) O (Bi O O O)<|Ae<|Gg O (fun hc2=>?_) (fun hc2=>?_)
 ·refine Ab<|Z<|Ad (.agg [(.I 0),(.I 0),(.I 0),(.I 0),.emp,(.I 0),(.I 0),.emp,.emp]) O (Dw (Hn Ar Adg O))<|A4 (A6 (v:=(.agg [(.I 0),(.I 0),(.I 0),(.I 0),.emp,(.I 0),(.I 0),.emp,.emp])) hI O O O O Ar O O O O O)<|Ak 2 [] [(6,(.I 2)),(5,.emp)] ?_
  refine Ae<|B6 (a:=(({ ID:=0,Many:=0,Term:=0,Vote:=0,Log:=[],Role:=0,Commit:=0,Votes:=[],Match:=[] }:Replica),[],2)) (vs:=[(.agg [(.I 0),(.I 0),(.I 0),(.I 0),.emp,(.I 0),(.I 0),.emp,.emp]),.emp,(.I 2)]) Tryz.func11 hI (B2 (Ap hI O O O Ar O) (C2 (C2 Cg))) (.tupL (.cons (.aggL (.cons (.same _) (.cons (.same _) (.cons (.same _) (.cons (.same _) (.cons (.emp _) (.cons (.same _) (.cons (.same _) (.cons (.emp _) (.cons (.emp _) .nil)))))))))) (.cons (.emp _) (.cons (.same _) .nil))))
 refine Bg<|Ab<|Dp (fun l=>On r l) (fun l=>fun(fr:Nat→AV) (h:Ah) => ∃ (v6:AV),∃ (g8:Nat),Bc v6 (ix ids 2) g8 l.length∧fr=A0 [(2,(.q ids 0 g)),(4,(.q ids 1 g1))]∧h=hp h0 ids [(some (.rows g 9 [[(.I r.ID),(.I r.Many),(.I r.Term),(.I r.Vote),v6,(.I r.Role),(.I r.Commit),(.sl 1 (List.map rB r.Votes)),(.sl 1 (List.map (rI .i64) r.Match))]])),(some (.rows g1 9 [[(.I 0),(.I 0),(.I 0),(.I 0),.emp,(.I 0),(.I 0),.emp,.emp]])),(A5 v6 g8 2 (List.map Ag l)),none]) ?_ fun hJ=>?_
 ·rintro l fr h ⟨v6,g8,vH6,rfl,rfl⟩
  refine Ax (On.eq_1 _ _)<|Ab<|Z<|Ui O Bw Av<|Ak 2 [0] [(36,(.sl 1 (List.map (rI .i64) r.Match)))] ?_
  refine Ha fun hl6=>Kl (e:=(rI .i64)) (L:=([]:List Int)) (L2:=r.Match) (v:=.emp) (g:=0) (st:=1) (j:=3) hI O O O O .nil O (Fg O) Bw Bw O Av O O O (by simpa using hl6) fun v7 g9 vH7=>Ad (.ptr (ix ids 0) g 0 8) O (Ai (Af (c:=0) (off:=8) (i:=8) Ar O Bw O))<|A4 (Ca vH7 hI O O O O Bw O O O)<|Ae<|Az ?_
  refine Ab<|Z<|Ak 6 [0,0,0] [(44,v6),(42,(.I r.ID)),(40,v7)] ?_
  refine Ad (.I (l.length:Int)) O (Bp (Bc.len vH6 Bd))<|G4 fun a hz hx1=>Ad (.ptr (ix ids 3) g9 r.ID.toNat 0) O (By (J9 hI O vH7 O Bw Av O hz hx1))<|A4 (Rs (y:=(l.length:Int)) hI O O vH7 O hx1 Av O O O O O O) ?_
  have vH8:=Bc.set (i:=r.ID.toNat) (y:=(l.length:Int)) vH7
  have hx2:=List.getElem?_set_self (a:=(l.length:Int)) (B8 hx1)
  refine Ae<|Az ?_
  refine Ab<|Z<|Ak 1 [0] [(47,(.agg [(.I r.ID),(.I r.Many),(.I r.Term),(.I r.Vote),v6,(.I r.Role),(.I r.Commit),(.sl 1 (List.map rB r.Votes)),v7]))] ?_
  refine Cn [2,3] hI O O (Ye r.ID r.Many r.Term r.Vote r.Role r.Commit r.Votes l (r.Match.set r.ID.toNat (l.length:Int)) _ (ix ids 2) (ix ids 3) v6 g8 v7 g9 vH6 vH8 (by exact hI.sub' O O)) O O O O O O (fun v _=>Bk Tryz.func11 hI) ?_
  rintro r1 _ _ _ ⟨v8,g10,v9,g11,vH9,vH10,rfl,rfl⟩
  refine D3 [2,3] hI O O O ?_
  refine C3<|A4 (A6 (v:=(.agg [(.I r.ID),(.I r.Many),(.I r.Term),(.I r.Vote),v8,(.I r.Role),(.I r1.1),(.sl 1 (List.map rB r.Votes)),v9])) hI O O O O Ar O O O O (An O (An O (An O (An O (An (Bc.flat vH9) (An O (An O (An O (An (Bc.flat vH10) Dr))))))))))<|Ae<|Az ?_
  refine Ab<|Aay [(some (.rows g 9 [[(.I r.ID),(.I r.Many),(.I r.Term),(.I r.Vote),(.sl 2 (List.map Ag r1.2.1)),(.I r.Role),(.I r1.1),(.sl 1 (List.map rB r.Votes)),(.sl 1 (List.map (rI .i64) r1.2.2))]])),(some (.rows g1 9 [[(.I 0),(.I 0),(.I 0),(.I 0),.emp,(.I 0),(.I 0),.emp,.emp]])),none,none] [(2,(.q ids 0 g)),(4,(.q ids 1 g1))] hI O (.fz (.cons (.same _) (.cons (.same _) (.cons (.same _) (.cons (.same _) (.cons (Dg vH9 (hI.at O O) (hI.at O O) (fun x=>Kj x)) (.cons (.same _) (.cons (.same _) (.cons (.same _) (.cons (Dg vH10 (hI.at O O) (hI.at O O) (fun x=>Il x)) .nil))))))))) O O (.keep (.drop (.drop .nil)))) (.cons (.same _) (.cons (.same _) .nil))<|B7 Db [[],[],[1],[0,1,2],[0,1,2,2,3,3],[0,1,2,3,4,4]] [(false,0),(false,1),(true,2),(true,3),(false,4),(false,5)] (by kernel_rfl)<|Y (.agg [(.I r.ID),(.I r.Many),(.I r.Term),(.I r.Vote),(.sl 2 (List.map Ag r1.2.1)),(.I r.Role),(.I r1.1),(.sl 1 (List.map rB r.Votes)),(.sl 1 (List.map (rI .i64) r1.2.2))]) O O (Al (Ap hI O O O Ar O))<|Y (.agg [(.I r.ID),(.I r.Many),(.I r.Term),(.I r.Vote),(.sl 2 (List.map Ag r1.2.1)),(.I r.Role),(.I r1.1),(.sl 1 (List.map rB r.Votes)),(.sl 1 (List.map (rI .i64) r1.2.2))]) O O (Al (Ap hI O O O Ar O))<|D1 [(.agg [(.I r.ID),(.I r.Many),(.I r.Term),(.I r.Vote),(.sl 2 (List.map Ag r1.2.1)),(.I r.Role),(.I r1.1),(.sl 1 (List.map rB r.Votes)),(.sl 1 (List.map (rI .i64) r1.2.2))])] O O O O O (fun hb=>Bx.weak (.cons (.aggL (.cons (.same _) (.cons (.same _) (.cons (.same _) (.cons (.same _) (.cons (.same _) (.cons (.same _) (.cons (.same _) (.cons (.same _) (.cons (.same _) .nil)))))))))) .nil) ((Xd ({ ID:=r.ID,Many:=r.Many,Term:=r.Term,Vote:=r.Vote,Log:=r1.2.1,Role:=r.Role,Commit:=r1.1,Votes:=r.Votes,Match:=r1.2.2 }:Replica)) _ hb)) (fun v _ _ _=>Bk Tryz.func11 hI) (Au O (Ac O (Al (Ap hI O O O Ar O)) As)) fun r2 _=>Bl O (fun _ _=>O) (fun K hK=>A3 (A6 (v:=(.agg [(.I r.ID),(.I r.Many),(.I r.Term),(.I r.Vote),(.sl 2 (List.map Ag r1.2.1)),(.I r.Role),(.I r1.1),(.sl 1 (List.map rB r.Votes)),(.sl 1 (List.map (rI .i64) r1.2.2))])) hI O O O O Ar O O O O O) (hK _ _ (A8 O As) ?_))
  clear hK K
  refine Y (.sl 10 (List.map Aj r2)) O O At<|Y (.I 0) O O At<|Be<|Az ?_
  exact B6 (a:=(({ ID:=r.ID,Many:=r.Many,Term:=r.Term,Vote:=r.Vote,Log:=r1.2.1,Role:=r.Role,Commit:=r1.1,Votes:=r.Votes,Match:=r1.2.2 }:Replica),r2,0)) (vs:=[(.agg [(.I r.ID),(.I r.Many),(.I r.Term),(.I r.Vote),(.sl 2 (List.map Ag r1.2.1)),(.I r.Role),(.I r1.1),(.sl 1 (List.map rB r.Votes)),(.sl 1 (List.map (rI .i64) r1.2.2))]),(.sl 10 (List.map Aj r2)),(.I 0)]) Tryz.func11 hI (B2 (Ap hI O O O Ar O) (C2 (C2 Cg))) (.tupL (.cons (.aggL (.cons (.same _) (.cons (.same _) (.cons (.same _) (.cons (.same _) (.cons (.same _) (.cons (.same _) (.cons (.same _) (.cons (.same _) (.cons (.same _) .nil)))))))))) (.cons (.same _) (.cons (.same _) .nil))))
 refine R6 Db (.node 8 3 (.leaf [[],[],[1],[0,1,2],[],[4],[],[4,5,6],[0,1,2,3,4,5,6,7],[0,1,2,3,4,5,6,7,8],[0,1,2,3,4,5,6,7,8,9],[0,1,2,3,4,5,6,7,8,9,9,9,10]] [(false,1),(false,2),(false,4),(false,5),(false,6),(false,7),(true,0),(true,3),(true,8),(true,9),(false,10),(true,11)]) (.node 8 0 (.leaf [[],[],[1],[0,1,2,4,5,6,7,8],[],[4],[],[4,5,6],[0,4,5,6,7],[0,1,2,3,4,5,6,7,8],[0,1,2,3,4,5,6,7,8,9],[0,1,2,3,4,5,6,7,8,9,9,9,10]] [(false,1),(false,2),(false,4),(false,5),(false,6),(false,7),(true,0),(true,8),(true,3),(true,9),(false,10),(true,11)]) (.leaf [[4,5,6,7,8],[],[1],[0,1,2,4,5,6,7,8],[],[4],[],[4,5,6],[4,5,6,7],[0,1,2,3,4,5,6,7,8],[0,1,2,3,4,5,6,7,8,9],[0,1,2,3,4,5,6,7,8,9,9,9,10]] [(false,1),(false,2),(false,4),(false,5),(false,6),(false,7),(true,8),(true,0),(true,3),(true,9),(false,10),(true,11)]))) (by kernel_rfl)<|H8 ?_ ?_
 ·refine Fu<|Y (.ptr (ix ids 0) g 0 4) O O (Ai (Af (c:=0) (off:=4) (i:=4) Ar O Bd O))<|Y (.sl 2 (List.map Ag r.Log)) O O (Al (Ap hI O O O Bd O))<|Y (.ptr (ix ids 0) g 0 2) O O (Ai (Af (c:=0) (off:=2) (i:=2) Ar O Av O))<|Y (.I r.Term) O O (Al (Ap hI O O O Av O))<|Y (.sl 1 (List.map (rI .u8) data)) O O Aa<|Y (.agg [(.I r.Term),(.sl 1 (List.map (rI .u8) data))]) O O (Dw (Hn C6 T7 O)) ?_
  refine Ck O O (fun _ _=>O) (fun K hK=>Yn Bd C6 (hK _ _ (Ac O (Dw (Hn C6 T7 O)) (Ac O Aa (Ac O (Al (Ap hI O O O Av O)) (Ac O (Ai (Af (c:=0) (off:=2) (i:=2) Ar O Av O)) (Ac O (Al (Ap hI O O O Bd O)) (Ac O (Ai (Af (c:=0) (off:=4) (i:=4) Ar O Bd O)) As)))))) ?_))
  clear hK K
  refine Ce fun hl=>Ck O O (fun _ _=>O) (fun K hK=>Ee (e:=Ag) (L:=([]:List Record)) (L2:=r.Log) (v:=.emp) (g:=0) (st:=2) (j:=2) hI O O O .nil O (Fg O) Bd Bd O C6 O O O (by simpa using hl) fun v g2 vH=>hK _ _ (Ac O (Dw (Hn C6 T7 O)) (Ac O Aa (Ac O (Al (Ap hI O O O Av O)) (Ac O (Ai (Af (c:=0) (off:=2) (i:=2) Ar O Av O)) (A8 O As))))) ?_)
  clear hK K
  refine Ck O O (fun _ _=>O) (fun K hK=>Ht (e:=Ag) (L:=[({ Term:=r.Term,Data:=data }:Record)]) (st:=2) (rows:=[[(.I r.Term),(.sl 1 (List.map (rI .u8) data))]]) Bd C6 O O O O O (.cons (.cons (.same _) (.cons (.same _) .nil)) .nil) (fun x=>Kj x) O O (hK _ _ (A9 O (A8 O As)) ?_))
  clear hK K
  refine Ce fun hl1=>Ck O O (fun _ _=>O) (fun K hK=>Ee (e:=Ag) (L:=r.Log) (L2:=[({ Term:=r.Term,Data:=data }:Record)]) (v:=v) (g:=g2) (st:=2) (j:=2) hI O O O vH O (Fg O) Bd Bd O C6 O O O hl1 fun v1 g3 vH1=>hK _ _ (A9 O (A8 O As)) ?_)
  clear hK K
  refine Y (.ptr (ix ids 0) g 0 4) O O (Ai (Af (c:=0) (off:=4) (i:=4) Ar O Bd O))<|Bl O (fun _ _=>O) (fun K hK=>A3 (Ca vH1 hI O O O O Bd O O O) (hK _ _ (A9 O (A8 O (Au O As))) ?_))
  clear hK K
  refine Be<|Az ?_
  exact Bn (hJ (r.Log++[({ Term:=r.Term,Data:=data }:Record)]) _ _ ⟨v1,g3,vH1,O,O⟩)
 refine H8 ?_ ?_
 ·refine Fu<|Ce fun hl2=>Ce fun hl3=>Y (.ptr (ix ids 0) g 0 4) O O (Ai (Af (c:=0) (off:=4) (i:=4) Ar O Bd O))<|Y (.sl 2 (List.map Ag r.Log)) O O (Al (Ap hI O O O Bd O))<|Y (.ptr (ix ids 0) g 0 2) O O (Ai (Af (c:=0) (off:=2) (i:=2) Ar O Av O))<|Y (.I r.Term) O O (Al (Ap hI O O O Av O)) ?_
  refine Y (.sl 1 (List.map (rI .u8) data)) O O Aa<|Y (.agg [(.I r.Term),(.sl 1 (List.map (rI .u8) data))]) O O (Dw (Hn C6 T7 O))<|Ck O O (fun _ _=>O) (fun K hK=>Yn Bd C6 (hK _ _ (Ac O (Dw (Hn C6 T7 O)) (Ac O Aa (Ac O (Al (Ap hI O O O Av O)) (Ac O (Ai (Af (c:=0) (off:=2) (i:=2) Ar O Av O)) (Ac O (Al (Ap hI O O O Bd O)) (Ac O (Ai (Af (c:=0) (off:=4) (i:=4) Ar O Bd O)) As)))))) ?_))
  clear hK K
  refine Ck O O (fun _ _=>O) (fun K hK=>Ht (e:=Ag) (L:=[({ Term:=r.Term,Data:=data }:Record)]) (st:=2) (rows:=[[(.I r.Term),(.sl 1 (List.map (rI .u8) data))]]) Bd C6 O O O O O (.cons (.cons (.same _) (.cons (.same _) .nil)) .nil) (fun x=>Kj x) O O (hK _ _ (A9 O (Ac O (Al (Ap hI O O O Bd O)) (Ac O (Ai (Af (c:=0) (off:=4) (i:=4) Ar O Bd O)) As))) ?_))
  clear hK K
  refine Ck O O (fun _ _=>O) (fun K hK=>Ee (e:=Ag) (L:=([]:List Record)) (L2:=r.Log) (v:=.emp) (g:=0) (st:=2) (j:=2) hI O O O .nil O (Fg O) Bd Bd O C6 O O O (by simpa using hl2) fun v2 g4 vH2=>hK _ _ (A9 O (A8 O As)) ?_)
  clear hK K
  refine Ck O O (fun _ _=>O) (fun K hK=>Ee (e:=Ag) (L:=r.Log) (L2:=[({ Term:=r.Term,Data:=data }:Record)]) (v:=v2) (g:=g4) (st:=2) (j:=2) hI O O O vH2 O (Fg O) Bd Bd O C6 O O O hl3 fun v3 g5 vH3=>hK _ _ (A9 O (A8 O As)) ?_)
  clear hK K
  refine Y (.ptr (ix ids 0) g 0 4) O O (Ai (Af (c:=0) (off:=4) (i:=4) Ar O Bd O))<|Bl O (fun _ _=>O) (fun K hK=>A3 (Ca vH3 hI O O O O Bd O O O) (hK _ _ (A9 O (A8 O (Au O As))) ?_))
  clear hK K
  refine Be<|Az ?_
  exact Bn (hJ (r.Log++[({ Term:=r.Term,Data:=data }:Record)]) _ _ ⟨v3,g5,vH3,O,O⟩)
 refine Fu<|Ce fun hl4=>Ce fun hl5=>Y (.ptr (ix ids 0) g 0 4) O O (Ai (Af (c:=0) (off:=4) (i:=4) Ar O Bd O))<|Y (.sl 2 (List.map Ag r.Log)) O O (Al (Ap hI O O O Bd O))<|Y (.ptr (ix ids 0) g 0 2) O O (Ai (Af (c:=0) (off:=2) (i:=2) Ar O Av O))<|Y (.I r.Term) O O (Al (Ap hI O O O Av O)) ?_
 refine Y (.sl 1 (List.map (rI .u8) data)) O O Aa<|Y (.agg [(.I r.Term),(.sl 1 (List.map (rI .u8) data))]) O O (Dw (Hn C6 T7 O))<|Ck O O (fun _ _=>O) (fun K hK=>Ht (e:=Ag) (L:=[({ Term:=r.Term,Data:=data }:Record)]) (st:=2) (rows:=[[(.I r.Term),(.sl 1 (List.map (rI .u8) data))]]) Bd C6 O O O O O (.cons (.cons (.same _) (.cons (.same _) .nil)) .nil) (fun x=>Kj x) O O (hK _ _ (A9 O (Ac O (Al (Ap hI O O O Bd O)) (Ac O (Ai (Af (c:=0) (off:=4) (i:=4) Ar O Bd O)) As))) ?_))
 clear hK K
 refine Ck O O (fun _ _=>O) (fun K hK=>Yn Bd C6 (hK _ _ (A9 O (Ac O (Al (Ap hI O O O Bd O)) (Ac O (Ai (Af (c:=0) (off:=4) (i:=4) Ar O Bd O)) As))) ?_))
 clear hK K
 refine Ck O O (fun _ _=>O) (fun K hK=>Ee (e:=Ag) (L:=([]:List Record)) (L2:=r.Log) (v:=.emp) (g:=0) (st:=2) (j:=2) hI O O O .nil O (Fg O) Bd Bd O C6 O O O (by simpa using hl4) fun v4 g6 vH4=>hK _ _ (A9 O (A8 O As)) ?_)
 clear hK K
 refine Ck O O (fun _ _=>O) (fun K hK=>Ee (e:=Ag) (L:=r.Log) (L2:=[({ Term:=r.Term,Data:=data }:Record)]) (v:=v4) (g:=g6) (st:=2) (j:=2) hI O O O vH4 O (Fg O) Bd Bd O C6 O O O hl5 fun v5 g7 vH5=>hK _ _ (A9 O (A8 O As)) ?_)
 clear hK K
 refine Y (.ptr (ix ids 0) g 0 4) O O (Ai (Af (c:=0) (off:=4) (i:=4) Ar O Bd O))<|Bl O (fun _ _=>O) (fun K hK=>A3 (Ca vH5 hI O O O O Bd O O O) (hK _ _ (A9 O (A8 O (Au O As))) ?_))
 clear hK K
 refine Be<|Az ?_
 exact Bn (hJ (r.Log++[({ Term:=r.Term,Data:=data }:Record)]) _ _ ⟨v5,g7,vH5,O,O⟩)
theorem Acz (a:Record)(b:Record):CP Tryz.prog 64 [(.agg (Ag a)),(.agg (Ag b))] (Tr a b) (fun(x:Bool)=>(AV.bool x)):=by
 refine Da (n:=19) 2 Tryz.func64 O (by decide) O O fun h0 ids hI=>B4 (Ax (Tr.eq_1 _ _) ?_)
 refine Ab<|Z<|C1 (v:=(.agg (Ag a))) (j:=0) hI O O O O O O O fun g=>C1 (v:=(.agg (Ag b))) (j:=1) hI O O O O O O O fun g1=>Ad (.bool false) O At<|Ae<|Az ?_
 refine Ab<|Z<|Ak 6 [0,1] [(10,(.bool (a.Term==b.Term)))] ?_
 refine Cb 8 [(18,(.bool ((a.Term==b.Term)&&((C0 a.Data)==(C0 b.Data)))))] ?_ fun hJ=>B3 (a.Term==b.Term) (fun hb1=>?_) (fun hb1=>?_)
 ·refine Ad (.bool ((a.Term==b.Term)&&((C0 a.Data)==(C0 b.Data)))) O At<|Ae<|B6 (a:=((a.Term==b.Term)&&((C0 a.Data)==(C0 b.Data)))) (vs:=[(.bool ((a.Term==b.Term)&&((C0 a.Data)==(C0 b.Data))))]) Tryz.func64 hI O (.same _)
 ·refine Ba (t:=10) hb1 O<|Ak 2 [0] [(12,(.sl 1 (List.map (rI .u8) a.Data)))] ?_
  refine Cj (tj:=10) (.str (C0 a.Data)) O O O (Er (Pl D9 Ky Kd O))<|Ak 2 [1] [(15,(.sl 1 (List.map (rI .u8) b.Data)))] ?_
  refine Cj (tj:=10) (.str (C0 b.Data)) O O O (Er (Pl D9 Ky Kd O))<|Ak 2 [] [(18,(.bool ((C0 a.Data)==(C0 b.Data))))] ?_
  exact Bo hJ (.cons (G6 hb1) .nil)
 refine Ba (t:=10) hb1 O<|Ak 8 [] [(18,(.bool false))] ?_
 exact Bo hJ (.cons (G5 hb1) .nil)
theorem U8 (a:List Record)(b:List Record):CP Tryz.prog 42 [(.sl 2 (List.map Ag a)),(.sl 2 (List.map Ag b))] (Nz a b) (fun(x:Bool)=>(AV.bool x)):=by
 refine Da (n:=27) 0 Tryz.func42 O (by decide) O O fun h0 ids hI=>B4 (Ax (Nz.eq_1 _ _) ?_)
 refine Ab<|Z<|Ad (.bool false) O At<|Ae<|Ab<|Ab<|Z ?_
 refine Ad (.sl 2 (List.map Ag a)) O Aa<|Ad (.I (a.length:Int)) O (Bp (Br Bd))<|Ad (.sl 2 (List.map Ag b)) O Aa<|Ad (.I (b.length:Int)) O (Bp (Br Bd))<|Ad (.bool (decide ((a.length:Int) > (b.length:Int)))) O (Bi O O O)<|Ae<|Gg O (fun hc=>?_) (fun hc=>?_)
 ·refine Ab<|Z<|Ad (.bool false) O At<|Ae<|B6 (a:=false) (vs:=[(.bool false)]) Tryz.func42 hI O (.same _)
 refine Bg<|Ab<|Ab<|Z<|Ad (.I 0) O At<|Ae<|Bq ?_
 refine Fw [(0,(.sl 2 (List.map Ag a))),(1,(.sl 2 (List.map Ag b))),(5,(.I 0))] (FI O)<|Mw (P:=Tryz.prog) a (fun j a1=>fun _=>Mb b j a1) ((Ga (fun _=>.ok true) (fun r=>.ok r)):(Unit ⊕ Bool)→R Bool) (fun j=>fun _=>fun(fr:Nat→AV) (h:Ah)=>fr=A0 [(0,(.sl 2 (List.map Ag a))),(1,(.sl 2 (List.map Ag b))),(5,(.I (j:Int)))]∧h=hp h0 ids []) () ?_ ?_ ?_
 ·exact⟨O,O⟩
 ·rintro j a1 ha1 W hW _ fr h ⟨rfl,rfl⟩
  refine Ax (m':=Mb b j a1) O (Ax (Mb.eq_1 _ _ _) ?_)
  refine Ab<|Ab<|Z<|Ak 2 [] [(12,(.sl 2 (List.map Ag a))),(11,(.I (j:Int)))] ?_
  refine Ad (.I (a.length:Int)) O (Bp (Br Bd))<|Ad (.bool (decide ((j:Int)<(a.length:Int)))) O (Bi O O O)<|Ae<|K1 (t:=0) (L:=a) O fun hlim=>H0 O (Int.ofNat_lt.2 (B8 ha1))<|Bg<|Ab ?_
  refine Bq<|Ab<|B7 Db [[],[],[0,1],[0,1,2],[],[],[4,5],[4,5,6],[0,1,2,3,4,5,6,7],[0,1,2,3,4,5,6,7,8]] [(false,0),(false,1),(false,2),(false,3),(false,4),(false,5),(false,6),(false,7),(true,8),(false,9)] (by kernel_rfl)<|Y (.sl 2 (List.map Ag a)) O O Aa<|Y (.I (j:Int)) O O Aa<|Y (.cp (Ag a1) 0) O O (By (Kx Bd C6 O ha1))<|Y (.agg (Ag a1)) O O (Al (Ek C6 O)) ?_
  refine Y (.sl 2 (List.map Ag b)) O O Aa<|Y (.I (j:Int)) O O Aa<|G1 fun a2 hz hx1=>Y (.cp (Ag a2) 0) O O (By (Fa Bd C6 O hz hx1))<|Y (.agg (Ag a2)) O O (Al (Ek C6 O))<|D1 [(.agg (Ag a1)),(.agg (Ag a2))] O O O O O ((Acz a1 a2) _) (fun v _ _ _=>Bk Tryz.func42 hI) (Bb O As) fun r _=>Y (.bool (!r)) O O (P5 O) ?_
  refine Be<|Mt O (fun hc1=>?_) (fun hc1=>?_)
  ·refine Bg<|Bs<|Z<|Ak 3 [] [(5,(.I (IntKind.wrap .i64 ((j:Int)+1))))] ?_
   refine Ae<|Bn (O1 (hW () _ _ ⟨O,O⟩)) (.cons O (.cons O (.cons (If (B8 ha1) hlim) .nil)))
  refine Ab<|Z<|Ad (.bool false) O At<|Ae<|Oz<|Mf<|B6 (a:=false) (vs:=[(.bool false)]) Tryz.func42 hI O (.same _)
 rintro _ fr h ⟨rfl,rfl⟩
 refine Ax (O0 _ _ _)<|Ab<|Ab<|Z<|Ak 2 [] [(12,(.sl 2 (List.map Ag a))),(11,(.I (a.length:Int)))] ?_
 refine Ad (.I (a.length:Int)) O (Bp (Br Bd))<|Ad (.bool (decide ((a.length:Int)<(a.length:Int)))) O (Bi O O O)<|Ae<|Hy O (Int.lt_irrefl _)<|Ed O<|Ab<|Z ?_
 refine Ad (.bool true) O At<|Ae<|B6 (a:=true) (vs:=[(.bool true)]) Tryz.func42 hI O (.same _)
theorem Qy (a:Replica)(b:Replica):CP Tryz.prog 12 [(.agg (Ao a)),(.agg (Ao b))] (Hr a b) (fun(x:Bool)=>(AV.bool x)):=by
 refine Da (n:=118) 2 Tryz.func12 O (by decide) O O fun h0 ids hI=>B4 (Ax (Hr.eq_1 _ _) ?_)
 refine Ab<|Z<|C1 (v:=(.agg (Ao a))) (j:=0) hI O O O O O O O fun g=>C1 (v:=(.agg (Ao b))) (j:=1) hI O O O O O O O fun g1=>Ad (.bool false) O At<|Ae<|Az ?_
 refine Ab<|Ab<|Z<|Ak 6 [0,1] [(12,(.bool (a.ID != b.ID)))] ?_
 refine Cb 6 [(2,(.q ids 0 g)),(3,(.q ids 1 g1)),(18,(.bool ((a.ID != b.ID)||(a.Many != b.Many))))] ?_ fun hJ=>B3 (a.ID != b.ID) (fun hb1=>?_) (fun hb1=>?_)
 ·refine Ad (.bool ((a.ID != b.ID)||(a.Many != b.Many))) O Aa<|Cb 6 [(2,(.q ids 0 g)),(3,(.q ids 1 g1)),(25,(.bool (((a.ID != b.ID)||(a.Many != b.Many))||(a.Term != b.Term))))] ?_ fun hJ1=>B3 ((a.ID != b.ID)||(a.Many != b.Many)) (fun hb3=>?_) (fun hb3=>?_)
  ·refine Ad (.bool (((a.ID != b.ID)||(a.Many != b.Many))||(a.Term != b.Term))) O Aa<|Cb 6 [(2,(.q ids 0 g)),(3,(.q ids 1 g1)),(32,(.bool ((((a.ID != b.ID)||(a.Many != b.Many))||(a.Term != b.Term))||(a.Vote != b.Vote))))] ?_ fun hJ2=>B3 (((a.ID != b.ID)||(a.Many != b.Many))||(a.Term != b.Term)) (fun hb5=>?_) (fun hb5=>?_)
   ·refine Ad (.bool ((((a.ID != b.ID)||(a.Many != b.Many))||(a.Term != b.Term))||(a.Vote != b.Vote))) O Aa<|Cb 6 [(2,(.q ids 0 g)),(3,(.q ids 1 g1)),(39,(.bool (((((a.ID != b.ID)||(a.Many != b.Many))||(a.Term != b.Term))||(a.Vote != b.Vote))||(a.Role != b.Role))))] ?_ fun hJ3=>B3 ((((a.ID != b.ID)||(a.Many != b.Many))||(a.Term != b.Term))||(a.Vote != b.Vote)) (fun hb7=>?_) (fun hb7=>?_)
    ·refine Ad (.bool (((((a.ID != b.ID)||(a.Many != b.Many))||(a.Term != b.Term))||(a.Vote != b.Vote))||(a.Role != b.Role))) O Aa<|Cb 6 [(2,(.q ids 0 g)),(3,(.q ids 1 g1)),(46,(.bool ((((((a.ID != b.ID)||(a.Many != b.Many))||(a.Term != b.Term))||(a.Vote != b.Vote))||(a.Role != b.Role))||(a.Commit != b.Commit))))] ?_ fun hJ4=>B3 (((((a.ID != b.ID)||(a.Many != b.Many))||(a.Term != b.Term))||(a.Vote != b.Vote))||(a.Role != b.Role)) (fun hb9=>?_) (fun hb9=>?_)
     ·refine Ad (.bool ((((((a.ID != b.ID)||(a.Many != b.Many))||(a.Term != b.Term))||(a.Vote != b.Vote))||(a.Role != b.Role))||(a.Commit != b.Commit))) O Aa<|Cb 8 [(2,(.q ids 0 g)),(3,(.q ids 1 g1)),(55,(.bool (((((((a.ID != b.ID)||(a.Many != b.Many))||(a.Term != b.Term))||(a.Vote != b.Vote))||(a.Role != b.Role))||(a.Commit != b.Commit))||((a.Log.length:Int) != (b.Log.length:Int)))))] ?_ fun hJ5=>B3 ((((((a.ID != b.ID)||(a.Many != b.Many))||(a.Term != b.Term))||(a.Vote != b.Vote))||(a.Role != b.Role))||(a.Commit != b.Commit)) (fun hb11=>?_) (fun hb11=>?_)
      ·refine Ad (.bool (((((((a.ID != b.ID)||(a.Many != b.Many))||(a.Term != b.Term))||(a.Vote != b.Vote))||(a.Role != b.Role))||(a.Commit != b.Commit))||((a.Log.length:Int) != (b.Log.length:Int)))) O Aa<|Dj 7 ((fun(b1:Bool)=>if((b1||((a.Votes.length:Int) != (b.Votes.length:Int)))||((a.Match.length:Int) != (b.Match.length:Int))) then(.ok false) else((each (fun j a1=>fun _=>Ma b j a1) 0 a.Votes ()).bind (Ga (fun _=>(each (fun j1 a3=>fun _=>K0 b j1 a3) 0 a.Match ()).bind (Ga (fun _=>.ok true) (fun r=>.ok r))) (fun r=>.ok r)))):Bool→R Bool) (fun(b1:Bool) (fr:Nat→AV) (h:Ah)=>fr=A0 [(2,(.q ids 0 g)),(3,(.q ids 1 g1)),(63,(.bool b1))]∧h=hp h0 ids [(some (.rows g 9 [(Ao a)])),(some (.rows g1 9 [(Ao b)]))]) ?_ fun hJ6=>Dy (fun hb13=>?_) (fun hb13=>?_)
       ·rintro b1 fr h ⟨rfl,rfl⟩
        refine Ad (.bool b1) O Aa<|Cb 8 [(2,(.q ids 0 g)),(3,(.q ids 1 g1)),(72,(.bool (b1||((a.Votes.length:Int) != (b.Votes.length:Int)))))] ?_ fun hJ7=>B3 b1 (fun hb15=>?_) (fun hb15=>?_)
        ·refine Ad (.bool (b1||((a.Votes.length:Int) != (b.Votes.length:Int)))) O Aa<|Cb 8 [(2,(.q ids 0 g)),(3,(.q ids 1 g1)),(81,(.bool ((b1||((a.Votes.length:Int) != (b.Votes.length:Int)))||((a.Match.length:Int) != (b.Match.length:Int)))))] ?_ fun hJ8=>B3 (b1||((a.Votes.length:Int) != (b.Votes.length:Int))) (fun hb17=>?_) (fun hb17=>?_)
         ·refine Ae<|Cs O (fun hc=>?_) (fun hc=>?_)
          ·refine Ab<|Z<|Ad (.bool false) O At<|Ae<|B6 (a:=false) (vs:=[(.bool false)]) Tryz.func12 hI O (.same _)
          refine Bg<|Ab<|Ab<|Z<|Ad (.I 0) O At<|Ae<|Bq ?_
          refine Fw [(2,(.q ids 0 g)),(3,(.q ids 1 g1)),(5,(.I 0))] (FI O)<|Mw (P:=Tryz.prog) a.Votes (fun j a1=>fun _=>Ma b j a1) ((Ga (fun _=>(each (fun j1 a3=>fun _=>K0 b j1 a3) 0 a.Match ()).bind (Ga (fun _=>.ok true) (fun r=>.ok r))) (fun r=>.ok r)):(Unit ⊕ Bool)→R Bool) (fun j=>fun _=>fun(fr:Nat→AV) (h:Ah)=>fr=A0 [(2,(.q ids 0 g)),(3,(.q ids 1 g1)),(5,(.I (j:Int)))]∧h=hp h0 ids [(some (.rows g 9 [(Ao a)])),(some (.rows g1 9 [(Ao b)]))]) () ?_ ?_ ?_
          ·exact⟨O,O⟩
          ·rintro j a1 ha1 W hW _ fr h ⟨rfl,rfl⟩
           refine Ax (m':=Ma b j a1) O (Ax (Ma.eq_1 _ _ _) ?_)
           refine Ab<|Ab<|Z<|Ak 3 [0] [(84,(.sl 1 (List.map rB a.Votes))),(82,(.I (j:Int)))] ?_
           refine Ad (.I (a.Votes.length:Int)) O (Bp (Br Cr))<|Ad (.bool (decide ((j:Int)<(a.Votes.length:Int)))) O (Bi O O O)<|Ae<|K1 (t:=84) (L:=a.Votes) O fun hlim1=>H0 O (Int.ofNat_lt.2 (B8 ha1))<|Bg<|Ab ?_
           refine Bq<|Ab<|B7 Db [[],[0],[],[0,1,2],[0,1,2,3],[],[5],[],[5,6,7],[5,6,7,8],[0,1,2,3,4,5,6,7,8,9]] [(false,0),(false,1),(false,2),(false,3),(false,4),(false,5),(false,6),(false,7),(false,8),(false,9),(false,10)] (by kernel_rfl)<|Y (.ptr (ix ids 0) g 0 7) O O (Ai (Af (c:=0) (off:=7) (i:=7) Ar O Cr O))<|Y (.sl 1 (List.map rB a.Votes)) O O (Al (Ap hI O O O Cr O))<|Y (.I (j:Int)) O O Aa<|Y (.cp [(.bool a1)] 0) O O (By (Kx Cr Gq O ha1)) ?_
           refine Y (.bool a1) O O (Al (Ek Gq O))<|Y (.ptr (ix ids 1) g1 0 7) O O (Ai (Af (c:=0) (off:=7) (i:=7) Ar O Cr O))<|Y (.sl 1 (List.map rB b.Votes)) O O (Al (Ap hI O O O Cr O))<|Y (.I (j:Int)) O O Aa<|G1 fun a2 hz hx1=>Y (.cp [(.bool a2)] 0) O O (By (Fa Cr Gq O hz hx1))<|Y (.bool a2) O O (Al (Ek Gq O)) ?_
           refine Y (.bool (!(a1==a2))) O O (Bi O O (Akg Gq))<|Be<|Mt O (fun hc1=>?_) (fun hc1=>?_)
           ·refine Bg<|Bs<|Z<|Ak 3 [] [(5,(.I (IntKind.wrap .i64 ((j:Int)+1))))] ?_
            refine Ae<|Bn (O1 (hW () _ _ ⟨O,O⟩)) (.cons O (.cons O (.cons (If (B8 ha1) hlim1) .nil)))
           refine Ab<|Z<|Ad (.bool false) O At<|Ae<|Oz<|Mf<|B6 (a:=false) (vs:=[(.bool false)]) Tryz.func12 hI O (.same _)
          rintro _ fr h ⟨rfl,rfl⟩
          refine Ax (O0 _ _ _)<|Ab<|Ab<|Z<|Ak 3 [0] [(84,(.sl 1 (List.map rB a.Votes))),(82,(.I (a.Votes.length:Int)))] ?_
          refine Ad (.I (a.Votes.length:Int)) O (Bp (Br Cr))<|Ad (.bool (decide ((a.Votes.length:Int)<(a.Votes.length:Int)))) O (Bi O O O)<|Ae<|Hy O (Int.lt_irrefl _)<|Ed O<|Ab<|Ab ?_
          refine Z<|Ad (.I 0) O At<|Ae<|Bq<|Fw [(2,(.q ids 0 g)),(3,(.q ids 1 g1)),(6,(.I 0))] (FI O)<|Mw (P:=Tryz.prog) a.Match (fun j1 a3=>fun _=>K0 b j1 a3) ((Ga (fun _=>.ok true) (fun r=>.ok r)):(Unit ⊕ Bool)→R Bool) (fun j1=>fun _=>fun(fr:Nat→AV) (h:Ah)=>fr=A0 [(2,(.q ids 0 g)),(3,(.q ids 1 g1)),(6,(.I (j1:Int)))]∧h=hp h0 ids [(some (.rows g 9 [(Ao a)])),(some (.rows g1 9 [(Ao b)]))]) () ?_ ?_ ?_
          ·exact⟨O,O⟩
          ·rintro j1 a3 ha3 W hW1 _ fr h ⟨rfl,rfl⟩
           refine Ax (m':=K0 b j1 a3) O (Ax (K0.eq_1 _ _ _) ?_)
           refine Ab<|Ab<|Z<|Ak 3 [0] [(102,(.sl 1 (List.map (rI .i64) a.Match))),(100,(.I (j1:Int)))] ?_
           refine Ad (.I (a.Match.length:Int)) O (Bp (Br Bw))<|Ad (.bool (decide ((j1:Int)<(a.Match.length:Int)))) O (Bi O O O)<|Ae<|K1 (t:=102) (L:=a.Match) O fun hlim3=>H0 O (Int.ofNat_lt.2 (B8 ha3))<|Bg<|Ab ?_
           refine Bq<|Ab<|B7 Db [[],[0],[],[0,1,2],[0,1,2,3],[],[5],[],[5,6,7],[5,6,7,8],[0,1,2,3,4,5,6,7,8,9]] [(false,0),(false,1),(false,2),(false,3),(false,4),(false,5),(false,6),(false,7),(false,8),(false,9),(false,10)] (by kernel_rfl)<|Y (.ptr (ix ids 0) g 0 8) O O (Ai (Af (c:=0) (off:=8) (i:=8) Ar O Bw O))<|Y (.sl 1 (List.map (rI .i64) a.Match)) O O (Al (Ap hI O O O Bw O))<|Y (.I (j1:Int)) O O Aa<|Y (.cp [(.I a3)] 0) O O (By (Kx Bw Av O ha3)) ?_
           refine Y (.I a3) O O (Al (Ek Av O))<|Y (.ptr (ix ids 1) g1 0 8) O O (Ai (Af (c:=0) (off:=8) (i:=8) Ar O Bw O))<|Y (.sl 1 (List.map (rI .i64) b.Match)) O O (Al (Ap hI O O O Bw O))<|Y (.I (j1:Int)) O O Aa<|G1 fun a4 hz1 hx2=>Y (.cp [(.I a4)] 0) O O (By (Fa Bw Av O hz1 hx2))<|Y (.I a4) O O (Al (Ek Av O)) ?_
           refine Y (.bool (a3 != a4)) O O (Bi O O O)<|Be<|Cs O (fun hc2=>?_) (fun hc2=>?_)
           ·refine Ab<|Z<|Ad (.bool false) O At<|Ae<|Oz<|Mf<|B6 (a:=false) (vs:=[(.bool false)]) Tryz.func12 hI O (.same _)
           refine Bg<|Bs<|Z<|Ak 3 [] [(6,(.I (IntKind.wrap .i64 ((j1:Int)+1))))] ?_
           refine Ae<|Bn (O1 (hW1 () _ _ ⟨O,O⟩)) (.cons O (.cons O (.cons (If (B8 ha3) hlim3) .nil)))
          rintro _ fr h ⟨rfl,rfl⟩
          refine Ax (O0 _ _ _)<|Ab<|Ab<|Z<|Ak 3 [0] [(102,(.sl 1 (List.map (rI .i64) a.Match))),(100,(.I (a.Match.length:Int)))] ?_
          refine Ad (.I (a.Match.length:Int)) O (Bp (Br Bw))<|Ad (.bool (decide ((a.Match.length:Int)<(a.Match.length:Int)))) O (Bi O O O)<|Ae<|Hy O (Int.lt_irrefl _)<|Ed O<|Ab<|Z ?_
          refine Ad (.bool true) O At<|Ae<|B6 (a:=true) (vs:=[(.bool true)]) Tryz.func12 hI O (.same _)
         ·refine Ba (t:=73) hb17 O<|Ak 8 [] [(81,(.bool true))] ?_
          exact Bo hJ8 (.cons O (.cons O (.cons (Ij hb17) .nil)))
         refine Ba (t:=73) hb17 O<|Ak 2 [0] [(75,(.sl 1 (List.map (rI .i64) a.Match)))] ?_
         refine Cj (tj:=73) (.I (a.Match.length:Int)) O O O (Bp (Br Bw))<|Ak 2 [1] [(78,(.sl 1 (List.map (rI .i64) b.Match)))] ?_
         refine Cj (tj:=73) (.I (b.Match.length:Int)) O O O (Bp (Br Bw))<|Ak 2 [] [(81,(.bool ((a.Match.length:Int) != (b.Match.length:Int))))] ?_
         exact Bo hJ8 (.cons O (.cons O (.cons (Im hb17) .nil)))
        ·refine Ba (t:=64) hb15 O<|Ak 8 [] [(72,(.bool true))] ?_
         exact Bo hJ7 (.cons O (.cons O (.cons (Ij hb15) .nil)))
        refine Ba (t:=64) hb15 O<|Ak 2 [0] [(66,(.sl 1 (List.map rB a.Votes)))] ?_
        refine Cj (tj:=64) (.I (a.Votes.length:Int)) O O O (Bp (Br Cr))<|Ak 2 [1] [(69,(.sl 1 (List.map rB b.Votes)))] ?_
        refine Cj (tj:=64) (.I (b.Votes.length:Int)) O O O (Bp (Br Cr))<|Ak 2 [] [(72,(.bool ((a.Votes.length:Int) != (b.Votes.length:Int))))] ?_
        exact Bo hJ7 (.cons O (.cons O (.cons (Im hb15) .nil)))
       ·refine Ba (t:=56) hb13 O<|Ak 7 [] [(63,(.bool true))] ?_
        refine Bm<|Cf [(2,(.q ids 0 g)),(3,(.q ids 1 g1)),(63,(.bool true))] (FI O)<|hJ6 true _ _ ⟨O,O⟩
       refine Ba (t:=56) hb13 O<|Ak 4 [0,1] [(60,(.sl 2 (List.map Ag b.Log))),(58,(.sl 2 (List.map Ag a.Log)))] ?_
       refine Bh [(.sl 2 (List.map Ag a.Log)),(.sl 2 (List.map Ag b.Log))] O (Cx (tj:=56) O O) O O ((U8 a.Log b.Log) _) (fun v _=>Bk Tryz.func12 hI) fun r _=>Ak 2 [] [(63,(.bool (!r)))] ?_
       refine Bm<|Cf [(2,(.q ids 0 g)),(3,(.q ids 1 g1)),(63,(.bool (!r)))] (FI O)<|hJ6 (!r) _ _ ⟨O,O⟩
      ·refine Ba (t:=47) hb11 O<|Ak 8 [] [(55,(.bool true))] ?_
       exact Bo hJ5 (.cons O (.cons O (.cons (Ij hb11) .nil)))
      refine Ba (t:=47) hb11 O<|Ak 2 [0] [(49,(.sl 2 (List.map Ag a.Log)))] ?_
      refine Cj (tj:=47) (.I (a.Log.length:Int)) O O O (Bp (Br Bd))<|Ak 2 [1] [(52,(.sl 2 (List.map Ag b.Log)))] ?_
      refine Cj (tj:=47) (.I (b.Log.length:Int)) O O O (Bp (Br Bd))<|Ak 2 [] [(55,(.bool ((a.Log.length:Int) != (b.Log.length:Int))))] ?_
      exact Bo hJ5 (.cons O (.cons O (.cons (Im hb11) .nil)))
     ·refine Ba (t:=40) hb9 O<|Ak 6 [] [(46,(.bool true))] ?_
      exact Bo hJ4 (.cons O (.cons O (.cons (Ij hb9) .nil)))
     refine Ba (t:=40) hb9 O<|Ak 6 [0,1] [(46,(.bool (a.Commit != b.Commit)))] ?_
     exact Bo hJ4 (.cons O (.cons O (.cons (Im hb9) .nil)))
    ·refine Ba (t:=33) hb7 O<|Ak 6 [] [(39,(.bool true))] ?_
     exact Bo hJ3 (.cons O (.cons O (.cons (Ij hb7) .nil)))
    refine Ba (t:=33) hb7 O<|Ak 6 [0,1] [(39,(.bool (a.Role != b.Role)))] ?_
    exact Bo hJ3 (.cons O (.cons O (.cons (Im hb7) .nil)))
   ·refine Ba (t:=26) hb5 O<|Ak 6 [] [(32,(.bool true))] ?_
    exact Bo hJ2 (.cons O (.cons O (.cons (Ij hb5) .nil)))
   refine Ba (t:=26) hb5 O<|Ak 6 [0,1] [(32,(.bool (a.Vote != b.Vote)))] ?_
   exact Bo hJ2 (.cons O (.cons O (.cons (Im hb5) .nil)))
  ·refine Ba (t:=19) hb3 O<|Ak 6 [] [(25,(.bool true))] ?_
   exact Bo hJ1 (.cons O (.cons O (.cons (Ij hb3) .nil)))
  refine Ba (t:=19) hb3 O<|Ak 6 [0,1] [(25,(.bool (a.Term != b.Term)))] ?_
  exact Bo hJ1 (.cons O (.cons O (.cons (Im hb3) .nil)))
 ·refine Ba (t:=12) hb1 O<|Ak 6 [] [(18,(.bool true))] ?_
  exact Bo hJ (.cons O (.cons O (.cons (Ij hb1) .nil)))
 refine Ba (t:=12) hb1 O<|Ak 6 [0,1] [(18,(.bool (a.Many != b.Many)))] ?_
 exact Bo hJ (.cons O (.cons O (.cons (Im hb1) .nil)))
theorem W8 (a:Message)(b:Message):CP Tryz.prog 43 [(.agg (Aj a)),(.agg (Aj b))] (K5 a b) (fun(x:Bool)=>(AV.bool x)):=by
 refine Da (n:=82) 2 Tryz.func43 O (by decide) O O fun h0 ids hI=>B4 (Ax (K5.eq_1 _ _) ?_)
 refine Ab<|Z<|C1 (v:=(.agg (Aj a))) (j:=0) hI O O O O O O O fun g=>C1 (v:=(.agg (Aj b))) (j:=1) hI O O O O O O O fun g1=>Ad (.bool false) O At<|Ae<|Az ?_
 refine Ab<|Z<|Ak 6 [0,1] [(10,(.bool (a.Kind==b.Kind)))] ?_
 refine Cb 6 [(2,(.q ids 0 g)),(3,(.q ids 1 g1)),(16,(.bool ((a.Kind==b.Kind)&&(a.From==b.From))))] ?_ fun hJ=>B3 (a.Kind==b.Kind) (fun hb1=>?_) (fun hb1=>?_)
 ·refine Ad (.bool ((a.Kind==b.Kind)&&(a.From==b.From))) O Aa<|Cb 6 [(2,(.q ids 0 g)),(3,(.q ids 1 g1)),(23,(.bool (((a.Kind==b.Kind)&&(a.From==b.From))&&(a.To==b.To))))] ?_ fun hJ1=>B3 ((a.Kind==b.Kind)&&(a.From==b.From)) (fun hb3=>?_) (fun hb3=>?_)
  ·refine Ad (.bool (((a.Kind==b.Kind)&&(a.From==b.From))&&(a.To==b.To))) O Aa<|Cb 6 [(2,(.q ids 0 g)),(3,(.q ids 1 g1)),(30,(.bool ((((a.Kind==b.Kind)&&(a.From==b.From))&&(a.To==b.To))&&(a.Term==b.Term))))] ?_ fun hJ2=>B3 (((a.Kind==b.Kind)&&(a.From==b.From))&&(a.To==b.To)) (fun hb5=>?_) (fun hb5=>?_)
   ·refine Ad (.bool ((((a.Kind==b.Kind)&&(a.From==b.From))&&(a.To==b.To))&&(a.Term==b.Term))) O Aa<|Cb 6 [(2,(.q ids 0 g)),(3,(.q ids 1 g1)),(37,(.bool (((((a.Kind==b.Kind)&&(a.From==b.From))&&(a.To==b.To))&&(a.Term==b.Term))&&(a.Last==b.Last))))] ?_ fun hJ3=>B3 ((((a.Kind==b.Kind)&&(a.From==b.From))&&(a.To==b.To))&&(a.Term==b.Term)) (fun hb7=>?_) (fun hb7=>?_)
    ·refine Ad (.bool (((((a.Kind==b.Kind)&&(a.From==b.From))&&(a.To==b.To))&&(a.Term==b.Term))&&(a.Last==b.Last))) O Aa<|Cb 6 [(2,(.q ids 0 g)),(3,(.q ids 1 g1)),(44,(.bool ((((((a.Kind==b.Kind)&&(a.From==b.From))&&(a.To==b.To))&&(a.Term==b.Term))&&(a.Last==b.Last))&&(a.LastTerm==b.LastTerm))))] ?_ fun hJ4=>B3 (((((a.Kind==b.Kind)&&(a.From==b.From))&&(a.To==b.To))&&(a.Term==b.Term))&&(a.Last==b.Last)) (fun hb9=>?_) (fun hb9=>?_)
     ·refine Ad (.bool ((((((a.Kind==b.Kind)&&(a.From==b.From))&&(a.To==b.To))&&(a.Term==b.Term))&&(a.Last==b.Last))&&(a.LastTerm==b.LastTerm))) O Aa<|Cb 6 [(2,(.q ids 0 g)),(3,(.q ids 1 g1)),(51,(.bool (((((((a.Kind==b.Kind)&&(a.From==b.From))&&(a.To==b.To))&&(a.Term==b.Term))&&(a.Last==b.Last))&&(a.LastTerm==b.LastTerm))&&(a.Commit==b.Commit))))] ?_ fun hJ5=>B3 ((((((a.Kind==b.Kind)&&(a.From==b.From))&&(a.To==b.To))&&(a.Term==b.Term))&&(a.Last==b.Last))&&(a.LastTerm==b.LastTerm)) (fun hb11=>?_) (fun hb11=>?_)
      ·refine Ad (.bool (((((((a.Kind==b.Kind)&&(a.From==b.From))&&(a.To==b.To))&&(a.Term==b.Term))&&(a.Last==b.Last))&&(a.LastTerm==b.LastTerm))&&(a.Commit==b.Commit))) O Aa<|Cb 6 [(2,(.q ids 0 g)),(3,(.q ids 1 g1)),(58,(.bool ((((((((a.Kind==b.Kind)&&(a.From==b.From))&&(a.To==b.To))&&(a.Term==b.Term))&&(a.Last==b.Last))&&(a.LastTerm==b.LastTerm))&&(a.Commit==b.Commit))&&(a.Match==b.Match))))] ?_ fun hJ6=>B3 (((((((a.Kind==b.Kind)&&(a.From==b.From))&&(a.To==b.To))&&(a.Term==b.Term))&&(a.Last==b.Last))&&(a.LastTerm==b.LastTerm))&&(a.Commit==b.Commit)) (fun hb13=>?_) (fun hb13=>?_)
       ·refine Ad (.bool ((((((((a.Kind==b.Kind)&&(a.From==b.From))&&(a.To==b.To))&&(a.Term==b.Term))&&(a.Last==b.Last))&&(a.LastTerm==b.LastTerm))&&(a.Commit==b.Commit))&&(a.Match==b.Match))) O Aa<|Cb 6 [(2,(.q ids 0 g)),(3,(.q ids 1 g1)),(65,(.bool (((((((((a.Kind==b.Kind)&&(a.From==b.From))&&(a.To==b.To))&&(a.Term==b.Term))&&(a.Last==b.Last))&&(a.LastTerm==b.LastTerm))&&(a.Commit==b.Commit))&&(a.Match==b.Match))&&(a.Granted==b.Granted))))] ?_ fun hJ7=>B3 ((((((((a.Kind==b.Kind)&&(a.From==b.From))&&(a.To==b.To))&&(a.Term==b.Term))&&(a.Last==b.Last))&&(a.LastTerm==b.LastTerm))&&(a.Commit==b.Commit))&&(a.Match==b.Match)) (fun hb15=>?_) (fun hb15=>?_)
        ·refine Ad (.bool (((((((((a.Kind==b.Kind)&&(a.From==b.From))&&(a.To==b.To))&&(a.Term==b.Term))&&(a.Last==b.Last))&&(a.LastTerm==b.LastTerm))&&(a.Commit==b.Commit))&&(a.Match==b.Match))&&(a.Granted==b.Granted))) O Aa<|Cb 8 [(2,(.q ids 0 g)),(3,(.q ids 1 g1)),(74,(.bool ((((((((((a.Kind==b.Kind)&&(a.From==b.From))&&(a.To==b.To))&&(a.Term==b.Term))&&(a.Last==b.Last))&&(a.LastTerm==b.LastTerm))&&(a.Commit==b.Commit))&&(a.Match==b.Match))&&(a.Granted==b.Granted))&&((a.Log.length:Int)==(b.Log.length:Int)))))] ?_ fun hJ8=>B3 (((((((((a.Kind==b.Kind)&&(a.From==b.From))&&(a.To==b.To))&&(a.Term==b.Term))&&(a.Last==b.Last))&&(a.LastTerm==b.LastTerm))&&(a.Commit==b.Commit))&&(a.Match==b.Match))&&(a.Granted==b.Granted)) (fun hb17=>?_) (fun hb17=>?_)
         ·refine Ad (.bool ((((((((((a.Kind==b.Kind)&&(a.From==b.From))&&(a.To==b.To))&&(a.Term==b.Term))&&(a.Last==b.Last))&&(a.LastTerm==b.LastTerm))&&(a.Commit==b.Commit))&&(a.Match==b.Match))&&(a.Granted==b.Granted))&&((a.Log.length:Int)==(b.Log.length:Int)))) O Aa<|Dj 6 ((fun(b1:Bool)=>.ok b1):Bool→R Bool) (fun(b1:Bool) (fr:Nat→AV) (h:Ah)=>fr=A0 [(81,(.bool b1))]∧h=hp h0 ids [(some (.rows g 10 [(Aj a)])),(some (.rows g1 10 [(Aj b)]))]) ?_ fun hJ9=>Dy (fun hb19=>?_) (fun hb19=>?_)
          ·rintro b1 fr h ⟨rfl,rfl⟩
           refine Ad (.bool b1) O At<|Ae<|B6 (a:=b1) (vs:=[(.bool b1)]) Tryz.func43 hI O (.same _)
          ·refine Ba (t:=75) hb19 O<|Ak 4 [0,1] [(79,(.sl 2 (List.map Ag b.Log))),(77,(.sl 2 (List.map Ag a.Log)))] ?_
           refine Bh [(.sl 2 (List.map Ag a.Log)),(.sl 2 (List.map Ag b.Log))] O (Cx (tj:=75) O O) O O ((U8 a.Log b.Log) _) (fun v _=>Bk Tryz.func43 hI) fun r _=>Ad (.bool r) O (Bz (t:=true) O O)<|Bm<|Cf [(81,(.bool r))] (FI O)<|hJ9 r _ _ ⟨O,O⟩
          refine Ba (t:=75) hb19 O<|Ak 6 [] [(81,(.bool false))] ?_
          refine Bm<|Cf [(81,(.bool false))] (FI O)<|hJ9 false _ _ ⟨O,O⟩
         ·refine Ba (t:=66) hb17 O<|Ak 2 [0] [(68,(.sl 2 (List.map Ag a.Log)))] ?_
          refine Cj (tj:=66) (.I (a.Log.length:Int)) O O O (Bp (Br Bd))<|Ak 2 [1] [(71,(.sl 2 (List.map Ag b.Log)))] ?_
          refine Cj (tj:=66) (.I (b.Log.length:Int)) O O O (Bp (Br Bd))<|Ak 2 [] [(74,(.bool ((a.Log.length:Int)==(b.Log.length:Int))))] ?_
          exact Bo hJ8 (.cons O (.cons O (.cons (G6 hb17) .nil)))
         refine Ba (t:=66) hb17 O<|Ak 8 [] [(74,(.bool false))] ?_
         exact Bo hJ8 (.cons O (.cons O (.cons (G5 hb17) .nil)))
        ·refine Ba (t:=59) hb15 O<|Ak 4 [0,1] [(63,(.bool b.Granted)),(61,(.bool a.Granted))] ?_
         refine Cj (tj:=59) (.bool (a.Granted==b.Granted)) O O O (Bi O O (Alb Gq))<|Ad (.bool (a.Granted==b.Granted)) O (Bz (t:=true) O O)<|Bo hJ7 (.cons O (.cons O (.cons (G6 hb15) .nil)))
        refine Ba (t:=59) hb15 O<|Ak 6 [] [(65,(.bool false))] ?_
        exact Bo hJ7 (.cons O (.cons O (.cons (G5 hb15) .nil)))
       ·refine Ba (t:=52) hb13 O<|Ak 6 [0,1] [(58,(.bool (a.Match==b.Match)))] ?_
        exact Bo hJ6 (.cons O (.cons O (.cons (G6 hb13) .nil)))
       refine Ba (t:=52) hb13 O<|Ak 6 [] [(58,(.bool false))] ?_
       exact Bo hJ6 (.cons O (.cons O (.cons (G5 hb13) .nil)))
      ·refine Ba (t:=45) hb11 O<|Ak 6 [0,1] [(51,(.bool (a.Commit==b.Commit)))] ?_
       exact Bo hJ5 (.cons O (.cons O (.cons (G6 hb11) .nil)))
      refine Ba (t:=45) hb11 O<|Ak 6 [] [(51,(.bool false))] ?_
      exact Bo hJ5 (.cons O (.cons O (.cons (G5 hb11) .nil)))
     ·refine Ba (t:=38) hb9 O<|Ak 6 [0,1] [(44,(.bool (a.LastTerm==b.LastTerm)))] ?_
      exact Bo hJ4 (.cons O (.cons O (.cons (G6 hb9) .nil)))
     refine Ba (t:=38) hb9 O<|Ak 6 [] [(44,(.bool false))] ?_
     exact Bo hJ4 (.cons O (.cons O (.cons (G5 hb9) .nil)))
    ·refine Ba (t:=31) hb7 O<|Ak 6 [0,1] [(37,(.bool (a.Last==b.Last)))] ?_
     exact Bo hJ3 (.cons O (.cons O (.cons (G6 hb7) .nil)))
    refine Ba (t:=31) hb7 O<|Ak 6 [] [(37,(.bool false))] ?_
    exact Bo hJ3 (.cons O (.cons O (.cons (G5 hb7) .nil)))
   ·refine Ba (t:=24) hb5 O<|Ak 6 [0,1] [(30,(.bool (a.Term==b.Term)))] ?_
    exact Bo hJ2 (.cons O (.cons O (.cons (G6 hb5) .nil)))
   refine Ba (t:=24) hb5 O<|Ak 6 [] [(30,(.bool false))] ?_
   exact Bo hJ2 (.cons O (.cons O (.cons (G5 hb5) .nil)))
  ·refine Ba (t:=17) hb3 O<|Ak 6 [0,1] [(23,(.bool (a.To==b.To)))] ?_
   exact Bo hJ1 (.cons O (.cons O (.cons (G6 hb3) .nil)))
  refine Ba (t:=17) hb3 O<|Ak 6 [] [(23,(.bool false))] ?_
  exact Bo hJ1 (.cons O (.cons O (.cons (G5 hb3) .nil)))
 ·refine Ba (t:=10) hb1 O<|Ak 6 [0,1] [(16,(.bool (a.From==b.From)))] ?_
  exact Bo hJ (.cons O (.cons O (.cons (G6 hb1) .nil)))
 refine Ba (t:=10) hb1 O<|Ak 6 [] [(16,(.bool false))] ?_
 exact Bo hJ (.cons O (.cons O (.cons (G5 hb1) .nil)))
theorem Q6 (a:List Message)(b:List Message):CP Tryz.prog 13 [(.sl 10 (List.map Aj a)),(.sl 10 (List.map Aj b))] (Fc a b) (fun(x:Bool)=>(AV.bool x)):=by
 refine Da (n:=27) 0 Tryz.func13 O (by decide) O O fun h0 ids hI=>B4 (Ax (Fc.eq_1 _ _) ?_)
 refine Ab<|Z<|Ad (.bool false) O At<|Ae<|Ab<|Ab<|Z ?_
 refine Ad (.sl 10 (List.map Aj a)) O Aa<|Ad (.I (a.length:Int)) O (Bp (Br Cw))<|Ad (.sl 10 (List.map Aj b)) O Aa<|Ad (.I (b.length:Int)) O (Bp (Br Cw))<|Ad (.bool ((a.length:Int) != (b.length:Int))) O (Bi O O O)<|Ae<|Cs O (fun hc=>?_) (fun hc=>?_)
 ·refine Ab<|Z<|Ad (.bool false) O At<|Ae<|B6 (a:=false) (vs:=[(.bool false)]) Tryz.func13 hI O (.same _)
 refine Bg<|Ab<|Ab<|Z<|Ad (.I 0) O At<|Ae<|Bq ?_
 refine Fw [(0,(.sl 10 (List.map Aj a))),(1,(.sl 10 (List.map Aj b))),(5,(.I 0))] (FI O)<|Mw (P:=Tryz.prog) a (fun j a1=>fun _=>I6 b j a1) ((Ga (fun _=>.ok true) (fun r=>.ok r)):(Unit ⊕ Bool)→R Bool) (fun j=>fun _=>fun(fr:Nat→AV) (h:Ah)=>fr=A0 [(0,(.sl 10 (List.map Aj a))),(1,(.sl 10 (List.map Aj b))),(5,(.I (j:Int)))]∧h=hp h0 ids []) () ?_ ?_ ?_
 ·exact⟨O,O⟩
 ·rintro j a1 ha1 W hW _ fr h ⟨rfl,rfl⟩
  refine Ax (m':=I6 b j a1) O (Ax (I6.eq_1 _ _ _) ?_)
  refine Ab<|Ab<|Z<|Ak 2 [] [(12,(.sl 10 (List.map Aj a))),(11,(.I (j:Int)))] ?_
  refine Ad (.I (a.length:Int)) O (Bp (Br Cw))<|Ad (.bool (decide ((j:Int)<(a.length:Int)))) O (Bi O O O)<|Ae<|K1 (t:=0) (L:=a) O fun hlim=>H0 O (Int.ofNat_lt.2 (B8 ha1))<|Bg<|Ab ?_
  refine Bq<|Ab<|B7 Db [[],[],[0,1],[0,1,2],[],[],[4,5],[4,5,6],[0,1,2,3,4,5,6,7],[0,1,2,3,4,5,6,7,8]] [(false,0),(false,1),(false,2),(false,3),(false,4),(false,5),(false,6),(false,7),(true,8),(false,9)] (by kernel_rfl)<|Y (.sl 10 (List.map Aj a)) O O Aa<|Y (.I (j:Int)) O O Aa<|Y (.cp (Aj a1) 0) O O (By (Kx Cw B0 O ha1))<|Y (.agg (Aj a1)) O O (Al (Ek B0 O)) ?_
  refine Y (.sl 10 (List.map Aj b)) O O Aa<|Y (.I (j:Int)) O O Aa<|G1 fun a2 hz hx1=>Y (.cp (Aj a2) 0) O O (By (Fa Cw B0 O hz hx1))<|Y (.agg (Aj a2)) O O (Al (Ek B0 O))<|D1 [(.agg (Aj a1)),(.agg (Aj a2))] O O O O O ((W8 a1 a2) _) (fun v _ _ _=>Bk Tryz.func13 hI) (Bb O As) fun r _=>Y (.bool (!r)) O O (P5 O) ?_
  refine Be<|Mt O (fun hc1=>?_) (fun hc1=>?_)
  ·refine Bg<|Bs<|Z<|Ak 3 [] [(5,(.I (IntKind.wrap .i64 ((j:Int)+1))))] ?_
   refine Ae<|Bn (O1 (hW () _ _ ⟨O,O⟩)) (.cons O (.cons O (.cons (If (B8 ha1) hlim) .nil)))
  refine Ab<|Z<|Ad (.bool false) O At<|Ae<|Oz<|Mf<|B6 (a:=false) (vs:=[(.bool false)]) Tryz.func13 hI O (.same _)
 rintro _ fr h ⟨rfl,rfl⟩
 refine Ax (O0 _ _ _)<|Ab<|Ab<|Z<|Ak 2 [] [(12,(.sl 10 (List.map Aj a))),(11,(.I (a.length:Int)))] ?_
 refine Ad (.I (a.length:Int)) O (Bp (Br Cw))<|Ad (.bool (decide ((a.length:Int)<(a.length:Int)))) O (Bi O O O)<|Ae<|Hy O (Int.lt_irrefl _)<|Ed O<|Ab<|Z ?_
 refine Ad (.bool true) O At<|Ae<|B6 (a:=true) (vs:=[(.bool true)]) Tryz.func13 hI O (.same _)
theorem Z4 (r:Replica):CP Tryz.prog 17 [(.agg (Ao r))] (Iz r) (fun(x:Replica)=>(AV.agg (Ao x))):=by
 refine Da (n:=6) 2 Tryz.func17 O (by decide) O O fun h0 ids hI=>B4 (Ax (Iz.eq_1 _) ?_)
 refine Ab<|Z<|C1 (v:=(.agg (Ao r))) (j:=0) hI O O O O O O O fun g=>Cc (j:=1) hI O O O O Ar O fun g1=>Ae<|Az ?_
 refine Ab<|Z<|Ad (.ptr (ix ids 0) g 0 6) O (Ai (Af (c:=0) (off:=6) (i:=6) Ar O Av O))<|A4 (A6 (v:=(.I 0)) hI O O O O Av O O O O O)<|Ae<|Az ?_
 refine Ab<|Z<|Ak 1 [0] [(4,(.agg [(.I r.ID),(.I r.Many),(.I r.Term),(.I r.Vote),(.sl 2 (List.map Ag r.Log)),(.I r.Role),(.I 0),(.sl 1 (List.map rB r.Votes)),(.sl 1 (List.map (rI .i64) r.Match))]))] ?_
 refine Bh [(.agg [(.I r.ID),(.I r.Many),(.I r.Term),(.I r.Vote),(.sl 2 (List.map Ag r.Log)),(.I r.Role),(.I 0),(.sl 1 (List.map rB r.Votes)),(.sl 1 (List.map (rI .i64) r.Match))])] O O O O (fun hb=>Bx.weak (.cons (.aggL (.cons (.same _) (.cons (.same _) (.cons (.same _) (.cons (.same _) (.cons (.same _) (.cons (.same _) (.cons (.same _) (.cons (.same _) (.cons (.same _) .nil)))))))))) .nil) ((Tg ({ ID:=r.ID,Many:=r.Many,Term:=r.Term,Vote:=r.Vote,Log:=r.Log,Role:=r.Role,Commit:=0,Votes:=r.Votes,Match:=r.Match }:Replica)) _ hb)) (fun v _=>Bk Tryz.func17 hI) fun r1 _=>A4 (A6 (v:=(.agg (Ao r1))) hI O O O O Ar O O O O O)<|Ae<|Az ?_
 exact B6 (a:=r1) (vs:=[(.agg (Ao r1))]) Tryz.func17 hI (B2 (Ap hI O O O Ar O) Cg) (.same _)
theorem Xi (r:Replica):CPO Tryz.prog 20 [(.agg (Ao r))] (Gn r) 1 (rL 1 (rI .u8)):=by
 refine Q9 (n:=29) 1 Tryz.func20 O (by decide) O O fun h0 ids hI=>B4 (Ax (Gn.eq_1 _) ?_)
 refine Ab<|Z<|C1 (v:=(.agg (Ao r))) (j:=1) hI O O O O O O O fun g=>Ad .emp O At<|Ae<|Az ?_
 refine Ab<|Z<|Ui O O4 D9<|Ad .emp O At<|Ae<|Ab<|Ab ?_
 refine Z<|Ad (.I 0) O At<|Ae<|Dp (fun l1=>Mh l1) (fun l1=>fun(fr:Nat→AV) (h:Ah) => ∃ (v2:AV),∃ (g3:Nat),Bc v2 (ix ids 0) g3 l1.length∧fr=A0 [(3,v2)]∧h=hp h0 ids [(A5 v2 g3 1 (List.map (rL 1 (rI .u8)) l1)),none]) ?_ fun hJ1=>?_
 ·rintro l1 fr h ⟨v2,g3,vH2,rfl,rfl⟩
  refine Ax (Mh.eq_1 _)<|Ab<|Z<|Ak 2 [] [(2,v2)] ?_
  refine Ae<|P6 (a:=l1) (v:=v2) (g:=g3) Tryz.func20 hI O O vH2 O
 refine Bq<|Fw [(1,(.q ids 1 g)),(3,.emp),(4,(.I 0))] (FI O)<|I1 (P:=Tryz.prog) (D4 fun i l=>F4 r i l) ((fun l1=>Mh l1):(List (List Int))→R (List (List Int))) (D4 fun i l=>fun(fr:Nat→AV) (h:Ah) => ∃ (v:AV),∃ (g1:Nat),Bc v (ix ids 0) g1 l.length∧fr=A0 [(1,(.q ids 1 g)),(3,v),(4,(.I i))]∧h=hp h0 ids [(A5 v g1 1 (List.map (rL 1 (rI .u8)) l)),(some (.rows g 9 [(Ao r)]))]) (0,[]) ?_ ?_
 ·exact⟨.emp,0,.nil,O,O⟩
 rintro vW hW ⟨i,l⟩ fr h ⟨v,g1,vH,rfl,rfl⟩
 refine Ax (m':=F4 r i l) O (Ax (F4.eq_1 _ _ _) ?_)
 refine Ab<|Ab<|Z<|Ak 3 [1] [(8,(.sl 2 (List.map Ag r.Log))),(6,(.I i))] ?_
 refine Ad (.I (r.Log.length:Int)) O (Bp (Br Bd))<|Ak 2 [] [(11,(.bool (decide (i<(r.Log.length:Int)))))] ?_
 refine Cb 5 [(1,(.q ids 1 g)),(3,v),(4,(.I i)),(16,(.bool ((decide (i<(r.Log.length:Int)))&&(decide (i<r.Commit)))))] ?_ fun hJ=>B3 (decide (i<(r.Log.length:Int))) (fun hb1=>?_) (fun hb1=>?_)
 ·refine Ae<|Cs O (fun hc=>?_) (fun hc=>?_)
  ·refine Bg<|Ab<|Bq<|Z<|Ak 4 [1] [(22,(.I i)),(21,(.sl 2 (List.map Ag r.Log))),(19,v)] ?_
   refine G4 fun a hz hx1=>Ad (.cp (Ag a) 0) O (By (Fa Bd C6 O hz hx1))<|Ak 2 [] [(25,(.sl 1 (List.map (rI .u8) a.Data)))] ?_
   refine Sk (e:=(rL 1 (rI .u8))) (L:=[a.Data]) (st:=1) (rows:=[[(.sl 1 (List.map (rI .u8) a.Data))]]) O O4 D9 O O O O O (.cons (RowSim.refl _) .nil) (fun x=>Age x) O O<|Ha fun hl=>Kl (e:=(rL 1 (rI .u8))) (L:=l) (L2:=[a.Data]) (v:=v) (g:=g1) (st:=1) (j:=0) hI O O O O vH O (Fg O) O4 O4 O D9 O O O hl fun v1 g2 vH1=>Ad v1 O At<|Ae<|Az ?_
   refine Bs<|Z<|Ak 3 [] [(4,(.I (IntKind.wrap .i64 (i+1))))] ?_
   refine Ae<|Bn (Gs (hW ((IntKind.wrap .i64 (i+1)),(l++[a.Data])) _ _ ⟨v1,g2,vH1,O,O⟩))
  refine Ed O<|H4<|Ez [(A5 v g1 1 (List.map (rL 1 (rI .u8)) l)),none] hI O (.keep (.drop .nil))<|Bn (hJ1 l _ _ ⟨v,g1,vH,O,O⟩)
 ·refine Ba (t:=11) hb1 O<|Ak 5 [1] [(16,(.bool (decide (i<r.Commit)))),(15,(.bool (decide (i<r.Commit)))),(14,(.I r.Commit)),(13,(.ptr (ix ids 1) g 0 6)),(12,(.I i))] ?_
  exact Bo hJ (.cons O (.cons O (.cons O (.cons (G6 hb1) .nil))))
 refine Ba (t:=11) hb1 O<|Ak 5 [] [(16,(.bool false)),(15,.und),(14,.und),(13,.und),(12,.und)] ?_
 exact Bo hJ (.cons O (.cons O (.cons O (.cons (G5 hb1) .nil))))
theorem X5 (r:Replica):CP Tryz.prog 20 [(.agg (Ao r))] (Gn r) (fun(x:(List (List Int)))=>(AV.sl 1 (List.map (rL 1 (rI .u8)) x))):=(Xi r).cp (fun x=>Age x)
theorem Aat (a:(List (List Int)))(b:(List (List Int))):CP Tryz.prog 49 [(.sl 1 (List.map (rL 1 (rI .u8)) a)),(.sl 1 (List.map (rL 1 (rI .u8)) b))] (Ry a b) (fun(x:Bool)=>(AV.bool x)):=by
 refine Da (n:=28) 0 Tryz.func49 O (by decide) O O fun h0 ids hI=>B4 (Ax (Ry.eq_1 _ _) ?_)
 refine Ab<|Z<|Ad (.bool false) O At<|Ae<|Ab<|Ab<|Z ?_
 refine Ad (.sl 1 (List.map (rL 1 (rI .u8)) a)) O Aa<|Ad (.I (a.length:Int)) O (Bp (Br O4))<|Ad (.sl 1 (List.map (rL 1 (rI .u8)) b)) O Aa<|Ad (.I (b.length:Int)) O (Bp (Br O4))<|Ad (.bool (decide ((a.length:Int) > (b.length:Int)))) O (Bi O O O)<|Ae<|Gg O (fun hc=>?_) (fun hc=>?_)
 ·refine Ab<|Z<|Ad (.bool false) O At<|Ae<|B6 (a:=false) (vs:=[(.bool false)]) Tryz.func49 hI O (.same _)
 refine Bg<|Ab<|Ab<|Z<|Ad (.I 0) O At<|Ae<|Bq ?_
 refine Fw [(0,(.sl 1 (List.map (rL 1 (rI .u8)) a))),(1,(.sl 1 (List.map (rL 1 (rI .u8)) b))),(5,(.I 0))] (FI O)<|Mw (P:=Tryz.prog) a (fun j a1=>fun _=>Mn b j a1) ((Ga (fun _=>.ok true) (fun r=>.ok r)):(Unit ⊕ Bool)→R Bool) (fun j=>fun _=>fun(fr:Nat→AV) (h:Ah)=>fr=A0 [(0,(.sl 1 (List.map (rL 1 (rI .u8)) a))),(1,(.sl 1 (List.map (rL 1 (rI .u8)) b))),(5,(.I (j:Int)))]∧h=hp h0 ids []) () ?_ ?_ ?_
 ·exact⟨O,O⟩
 ·rintro j a1 ha1 W hW _ fr h ⟨rfl,rfl⟩
  refine Ax (m':=Mn b j a1) O (Ax (Mn.eq_1 _ _ _) ?_)
  refine Ab<|Ab<|Z<|Ak 2 [] [(12,(.sl 1 (List.map (rL 1 (rI .u8)) a))),(11,(.I (j:Int)))] ?_
  refine Ad (.I (a.length:Int)) O (Bp (Br O4))<|Ad (.bool (decide ((j:Int)<(a.length:Int)))) O (Bi O O O)<|Ae<|K1 (t:=0) (L:=a) O fun hlim=>H0 O (Int.ofNat_lt.2 (B8 ha1))<|Bg<|Ab ?_
  refine Bq<|Ab<|B7 Db [[],[],[0,1],[0,1,2],[0,1,2,3],[],[],[5,6],[5,6,7],[5,6,7,8],[0,1,2,3,4,5,6,7,8,9]] [(false,0),(false,1),(false,2),(false,3),(false,4),(false,5),(false,6),(false,7),(false,8),(false,9),(false,10)] (by kernel_rfl)<|Y (.sl 1 (List.map (rL 1 (rI .u8)) a)) O O Aa<|Y (.I (j:Int)) O O Aa<|Y (.cp [(.sl 1 (List.map (rI .u8) a1))] 0) O O (By (Kx O4 D9 O ha1))<|Y (.sl 1 (List.map (rI .u8) a1)) O O (Al (Ek D9 O)) ?_
  refine Y (.str (C0 a1)) O O (Er (Pl D9 Ky Kd O))<|Y (.sl 1 (List.map (rL 1 (rI .u8)) b)) O O Aa<|Y (.I (j:Int)) O O Aa<|G1 fun a2 hz hx1=>Y (.cp [(.sl 1 (List.map (rI .u8) a2))] 0) O O (By (Fa O4 D9 O hz hx1))<|Y (.sl 1 (List.map (rI .u8) a2)) O O (Al (Ek D9 O))<|Y (.str (C0 a2)) O O (Er (Pl D9 Ky Kd O)) ?_
  refine Y (.bool (!((C0 a1)==(C0 a2)))) O O (Bi O O O)<|Be<|Mt O (fun hc1=>?_) (fun hc1=>?_)
  ·refine Bg<|Bs<|Z<|Ak 3 [] [(5,(.I (IntKind.wrap .i64 ((j:Int)+1))))] ?_
   refine Ae<|Bn (O1 (hW () _ _ ⟨O,O⟩)) (.cons O (.cons O (.cons (If (B8 ha1) hlim) .nil)))
  refine Ab<|Z<|Ad (.bool false) O At<|Ae<|Oz<|Mf<|B6 (a:=false) (vs:=[(.bool false)]) Tryz.func49 hI O (.same _)
 rintro _ fr h ⟨rfl,rfl⟩
 refine Ax (O0 _ _ _)<|Ab<|Ab<|Z<|Ak 2 [] [(12,(.sl 1 (List.map (rL 1 (rI .u8)) a))),(11,(.I (a.length:Int)))] ?_
 refine Ad (.I (a.length:Int)) O (Bp (Br O4))<|Ad (.bool (decide ((a.length:Int)<(a.length:Int)))) O (Bi O O O)<|Ae<|Hy O (Int.lt_irrefl _)<|Ed O<|Ab<|Z ?_
 refine Ad (.bool true) O At<|Ae<|B6 (a:=true) (vs:=[(.bool true)]) Tryz.func49 hI O (.same _)
theorem Acb (a:(List (List Int)))(b:(List (List Int))):CP Tryz.prog 18 [(.sl 1 (List.map (rL 1 (rI .u8)) a)),(.sl 1 (List.map (rL 1 (rI .u8)) b))] (Kf a b) (fun(x:Bool)=>(AV.bool x)):=by
 refine Da (n:=15) 0 Tryz.func18 O (by decide) O O fun h0 ids hI=>B4 (Ax (Kf.eq_1 _ _) ?_)
 refine Ab<|Z<|Ad (.bool false) O At<|Ae<|Ab<|Z<|Ad (.sl 1 (List.map (rL 1 (rI .u8)) a)) O Aa ?_
 refine Ad (.I (a.length:Int)) O (Bp (Br O4))<|Ad (.sl 1 (List.map (rL 1 (rI .u8)) b)) O Aa<|Ad (.I (b.length:Int)) O (Bp (Br O4))<|Ak 2 [] [(10,(.bool ((a.length:Int)==(b.length:Int))))] ?_
 refine Dj 4 ((fun(b1:Bool)=>.ok b1):Bool→R Bool) (fun(b1:Bool) (fr:Nat→AV) (h:Ah)=>fr=A0 [(14,(.bool b1))]∧h=hp h0 ids []) ?_ fun hJ=>Dy (fun hb1=>?_) (fun hb1=>?_)
 ·rintro b1 fr h ⟨rfl,rfl⟩
  refine Ad (.bool b1) O At<|Ae<|B6 (a:=b1) (vs:=[(.bool b1)]) Tryz.func18 hI O (.same _)
 ·refine Ba (t:=10) hb1 O<|Ak 2 [] [(12,(.sl 1 (List.map (rL 1 (rI .u8)) b))),(11,(.sl 1 (List.map (rL 1 (rI .u8)) a)))] ?_
  refine Bh [(.sl 1 (List.map (rL 1 (rI .u8)) a)),(.sl 1 (List.map (rL 1 (rI .u8)) b))] O (Cx (tj:=10) O O) O O ((Aat a b) _) (fun v _=>Bk Tryz.func18 hI) fun r _=>Ad (.bool r) O (Bz (t:=true) O O)<|Bm<|Cf [(14,(.bool r))] (FI O)<|hJ r _ _ ⟨O,O⟩
 refine Ba (t:=10) hb1 O<|Ak 4 [] [(14,(.bool false))] ?_
 refine Bm<|Cf [(14,(.bool false))] (FI O)<|hJ false _ _ ⟨O,O⟩
theorem Ue (a:Int)(b:Int)(c:Replica)(d:List Int):CP Tryz.prog 3 [(.int .i64 a),(.int .i64 b),(.agg (Ao c)),(.sl 1 (List.map (rI .u8) d))] (Kv a b c d) (fun(x:Bool)=>(AV.bool x)):=by
 refine Da (n:=148) 7 Tryz.func3 O (by decide) O O fun h0 ids hI=>B4 (Ax (Kv.eq_1 _ _ _ _) ?_)
 refine Ab<|Z<|C1 (v:=(.agg (Ao c))) (j:=0) hI O O O O O O O fun g=>Ad (.bool false) O At<|Ae<|Az ?_
 refine Ab<|Ab<|Z<|Bh [] O O O O ((Ac2) _) (fun v _=>Bk Tryz.func3 hI) fun r _=>Ad (.bool (!r)) O (P5 O)<|Ae<|Mt O (fun hc=>?_) (fun hc=>?_)
 ·refine Bg<|Ab<|Ab<|Z<|Ak 2 [0] [(28,(.sl 2 (List.map Ag c.Log)))] ?_
  refine Bh [(.sl 2 (List.map Ag c.Log))] O O O O ((Adz c.Log) _) (fun v _=>Bk Tryz.func3 hI) fun r1 _=>Ak 2 [] [(31,(.bool (!r1)))] ?_
  refine Cb 5 [(0,(.I a)),(1,(.I b)),(3,(.sl 1 (List.map (rI .u8) d))),(6,(.q ids 0 g)),(36,(.bool ((!r1)||(decide ((c.Votes.length:Int) > 10)))))] ?_ fun hJ=>B3 (!r1) (fun hb1=>?_) (fun hb1=>?_)
  ·refine Ad (.bool ((!r1)||(decide ((c.Votes.length:Int) > 10)))) O Aa<|Cb 5 [(0,(.I a)),(1,(.I b)),(3,(.sl 1 (List.map (rI .u8) d))),(6,(.q ids 0 g)),(42,(.bool (((!r1)||(decide ((c.Votes.length:Int) > 10)))||(decide ((c.Match.length:Int) > 10)))))] ?_ fun hJ1=>B3 ((!r1)||(decide ((c.Votes.length:Int) > 10))) (fun hb3=>?_) (fun hb3=>?_)
   ·refine Ad (.bool (((!r1)||(decide ((c.Votes.length:Int) > 10)))||(decide ((c.Match.length:Int) > 10)))) O Aa<|Cb 4 [(0,(.I a)),(1,(.I b)),(3,(.sl 1 (List.map (rI .u8) d))),(6,(.q ids 0 g)),(47,(.bool ((((!r1)||(decide ((c.Votes.length:Int) > 10)))||(decide ((c.Match.length:Int) > 10)))||(decide ((d.length:Int) > 100)))))] ?_ fun hJ2=>B3 (((!r1)||(decide ((c.Votes.length:Int) > 10)))||(decide ((c.Match.length:Int) > 10))) (fun hb5=>?_) (fun hb5=>?_)
    ·refine Ae<|Cs O (fun hc1=>?_) (fun hc1=>?_)
     ·refine Ab<|Z<|Ad (.bool true) O At<|Ae<|B6 (a:=true) (vs:=[(.bool true)]) Tryz.func3 hI O (.same _)
     refine Bg<|Ab<|Z<|Ak 2 [] [(50,(.I b)),(49,(.I a))] ?_
     refine Bh [(.I a),(.I b)] O O O O ((Pz a b) _) (fun v _=>Bk Tryz.func3 hI) fun r2 _=>Ak 3 [] [(53,(.I r2.2)),(52,(.agg (Ao r2.1)))] ?_
     refine Cc (j:=1) hI O O O O Ar O fun g1=>A4 (A6 (v:=(.agg (Ao r2.1))) hI O O O O Ar O O O O O)<|Ad (.I r2.2) O At<|Ae<|Az ?_
     refine Ab<|Z<|Ak 2 [] [(56,(.I b)),(55,(.I a))] ?_
     refine Bh [(.I a),(.I b)] O O O O ((Ado a b) _) (fun v _=>Bk Tryz.func3 hI) fun r3 _=>Ak 3 [] [(59,(.I r3.2)),(58,(.agg (Ao r3.1)))] ?_
     refine Cc (j:=2) hI O O O O Ar O fun g2=>A4 (A6 (v:=(.agg (Ao r3.1))) hI O O O O Ar O O O O O)<|Ad (.I r3.2) O At<|Ae<|Az ?_
     refine Ab<|Z<|Ak 1 [0] [(61,(.agg (Ao c)))] ?_
     refine Bh [(.agg (Ao c))] O O O O ((Pf c) _) (fun v _=>Bk Tryz.func3 hI) fun r4 _=>Ak 4 [] [(65,(.I r4.2.2)),(64,(.sl 10 (List.map Aj r4.2.1))),(63,(.agg (Ao r4.1)))] ?_
     refine Cc (j:=3) hI O O O O Ar O fun g3=>A4 (A6 (v:=(.agg (Ao r4.1))) hI O O O O Ar O O O O O)<|Ak 2 [] [(15,(.I r4.2.2)),(14,(.sl 10 (List.map Aj r4.2.1)))] ?_
     refine Ae<|Az ?_
     refine Ab<|Z<|Ak 1 [0] [(67,(.agg (Ao c)))] ?_
     refine Bh [(.agg (Ao c))] O O O O ((Aaa c) _) (fun v _=>Bk Tryz.func3 hI) fun r5 _=>Ak 4 [] [(71,(.I r5.2.2)),(70,(.sl 10 (List.map Aj r5.2.1))),(69,(.agg (Ao r5.1)))] ?_
     refine Cc (j:=4) hI O O O O Ar O fun g4=>A4 (A6 (v:=(.agg (Ao r5.1))) hI O O O O Ar O O O O O)<|Ak 2 [] [(18,(.I r5.2.2)),(17,(.sl 10 (List.map Aj r5.2.1)))] ?_
     refine Ae<|Az ?_
     refine Ab<|Z<|Ak 2 [0] [(74,(.sl 1 (List.map (rI .u8) d))),(73,(.agg (Ao c)))] ?_
     refine Bh [(.agg (Ao c)),(.sl 1 (List.map (rI .u8) d))] O O O O ((Pg c d) _) (fun v _=>Bk Tryz.func3 hI) fun r6 _=>Ak 4 [] [(78,(.I r6.2.2)),(77,(.sl 10 (List.map Aj r6.2.1))),(76,(.agg (Ao r6.1)))] ?_
     refine Cc (j:=5) hI O O O O Ar O fun g5=>A4 (A6 (v:=(.agg (Ao r6.1))) hI O O O O Ar O O O O O)<|Ak 2 [] [(21,(.I r6.2.2)),(20,(.sl 10 (List.map Aj r6.2.1)))] ?_
     refine Ae<|Az ?_
     refine Ab<|Z<|Ak 2 [0] [(81,(.sl 1 (List.map (rI .u8) d))),(80,(.agg (Ao c)))] ?_
     refine Bh [(.agg (Ao c)),(.sl 1 (List.map (rI .u8) d))] O O O O ((Z5 c d) _) (fun v _=>Bk Tryz.func3 hI) fun r7 _=>Ak 4 [] [(85,(.I r7.2.2)),(84,(.sl 10 (List.map Aj r7.2.1))),(83,(.agg (Ao r7.1)))] ?_
     refine Cc (j:=6) hI O O O O Ar O fun g6=>A4 (A6 (v:=(.agg (Ao r7.1))) hI O O O O Ar O O O O O)<|Ak 2 [] [(24,(.I r7.2.2)),(23,(.sl 10 (List.map Aj r7.2.1)))] ?_
     refine Ae<|Az ?_
     refine Ab<|Ab<|Z<|Ak 2 [1,2] [(87,(.agg (Ao r3.1))),(86,(.agg (Ao r2.1)))] ?_
     refine Bh [(.agg (Ao r2.1)),(.agg (Ao r3.1))] O O O O ((Qy r2.1 r3.1) _) (fun v _=>Bk Tryz.func3 hI) fun r8 _=>Ak 2 [] [(90,(.bool (!r8)))] ?_
     refine Cb 4 [(6,(.q ids 0 g)),(13,(.q ids 3 g3)),(14,(.sl 10 (List.map Aj r4.2.1))),(15,(.I r4.2.2)),(16,(.q ids 4 g4)),(17,(.sl 10 (List.map Aj r5.2.1))),(18,(.I r5.2.2)),(19,(.q ids 5 g5)),(20,(.sl 10 (List.map Aj r6.2.1))),(21,(.I r6.2.2)),(22,(.q ids 6 g6)),(23,(.sl 10 (List.map Aj r7.2.1))),(24,(.I r7.2.2)),(94,(.bool ((!r8)||(r2.2 != r3.2))))] ?_ fun hJ3=>B3 (!r8) (fun hb7=>?_) (fun hb7=>?_)
     ·refine Ad (.bool ((!r8)||(r2.2 != r3.2))) O Aa<|Dj 5 ((fun(b1:Bool)=>(if b1 then R.ok true else(Fc r4.2.1 r5.2.1).bind fun r10=>R.ok (!r10)).bind (fun(b2:Bool)=>(if(b2||(r4.2.2 != r5.2.2)) then R.ok true else(Hr r6.1 r7.1).bind fun r11=>R.ok (!r11)).bind (fun(b3:Bool)=>(if b3 then R.ok true else(Fc r6.2.1 r7.2.1).bind fun r12=>R.ok (!r12)).bind (fun(b4:Bool)=>if(b4||(r6.2.2 != r7.2.2)) then(.ok false) else((C8 c).bind fun r13=>(G7 c).bind fun r14=>if(r13==r14) then((Ej c).bind fun r15=>(Iz c).bind fun r16=>(Hr r15 r16).bind fun r17=>if r17 then((Cv c).bind fun r18=>(Gn c).bind fun r19=>(Kf r18 r19).bind fun r20=>.ok r20) else(.ok false)) else(.ok false)))))):Bool→R Bool) (fun(b1:Bool) (fr:Nat→AV) (h:Ah)=>fr=A0 [(6,(.q ids 0 g)),(14,(.sl 10 (List.map Aj r4.2.1))),(15,(.I r4.2.2)),(17,(.sl 10 (List.map Aj r5.2.1))),(18,(.I r5.2.2)),(19,(.q ids 5 g5)),(20,(.sl 10 (List.map Aj r6.2.1))),(21,(.I r6.2.2)),(22,(.q ids 6 g6)),(23,(.sl 10 (List.map Aj r7.2.1))),(24,(.I r7.2.2)),(100,(.bool b1))]∧h=hp h0 ids [(some (.rows g 9 [(Ao c)])),(some (.rows g1 9 [(Ao r2.1)])),(some (.rows g2 9 [(Ao r3.1)])),(some (.rows g3 9 [(Ao r4.1)])),(some (.rows g4 9 [(Ao r5.1)])),(some (.rows g5 9 [(Ao r6.1)])),(some (.rows g6 9 [(Ao r7.1)]))]) ?_ fun hJ4=>Dy (fun hb9=>?_) (fun hb9=>?_)
      ·rintro b1 fr h ⟨rfl,rfl⟩
       refine Ad (.bool b1) O Aa<|Dj 5 ((fun(b2:Bool)=>(if(b2||(r4.2.2 != r5.2.2)) then R.ok true else(Hr r6.1 r7.1).bind fun r11=>R.ok (!r11)).bind (fun(b3:Bool)=>(if b3 then R.ok true else(Fc r6.2.1 r7.2.1).bind fun r12=>R.ok (!r12)).bind (fun(b4:Bool)=>if(b4||(r6.2.2 != r7.2.2)) then(.ok false) else((C8 c).bind fun r13=>(G7 c).bind fun r14=>if(r13==r14) then((Ej c).bind fun r15=>(Iz c).bind fun r16=>(Hr r15 r16).bind fun r17=>if r17 then((Cv c).bind fun r18=>(Gn c).bind fun r19=>(Kf r18 r19).bind fun r20=>.ok r20) else(.ok false)) else(.ok false))))):Bool→R Bool) (fun(b2:Bool) (fr:Nat→AV) (h:Ah)=>fr=A0 [(6,(.q ids 0 g)),(15,(.I r4.2.2)),(18,(.I r5.2.2)),(19,(.q ids 5 g5)),(20,(.sl 10 (List.map Aj r6.2.1))),(21,(.I r6.2.2)),(22,(.q ids 6 g6)),(23,(.sl 10 (List.map Aj r7.2.1))),(24,(.I r7.2.2)),(106,(.bool b2))]∧h=hp h0 ids [(some (.rows g 9 [(Ao c)])),(some (.rows g1 9 [(Ao r2.1)])),(some (.rows g2 9 [(Ao r3.1)])),(some (.rows g3 9 [(Ao r4.1)])),(some (.rows g4 9 [(Ao r5.1)])),(some (.rows g5 9 [(Ao r6.1)])),(some (.rows g6 9 [(Ao r7.1)]))]) ?_ fun hJ5=>Dy (fun hb11=>?_) (fun hb11=>?_)
       ·rintro b2 fr h ⟨rfl,rfl⟩
        refine Ad (.bool b2) O Aa<|Cb 4 [(6,(.q ids 0 g)),(19,(.q ids 5 g5)),(20,(.sl 10 (List.map Aj r6.2.1))),(21,(.I r6.2.2)),(22,(.q ids 6 g6)),(23,(.sl 10 (List.map Aj r7.2.1))),(24,(.I r7.2.2)),(111,(.bool (b2||(r4.2.2 != r5.2.2))))] ?_ fun hJ6=>B3 b2 (fun hb13=>?_) (fun hb13=>?_)
        ·refine Ad (.bool (b2||(r4.2.2 != r5.2.2))) O Aa<|Dj 5 ((fun(b3:Bool)=>(if b3 then R.ok true else(Fc r6.2.1 r7.2.1).bind fun r12=>R.ok (!r12)).bind (fun(b4:Bool)=>if(b4||(r6.2.2 != r7.2.2)) then(.ok false) else((C8 c).bind fun r13=>(G7 c).bind fun r14=>if(r13==r14) then((Ej c).bind fun r15=>(Iz c).bind fun r16=>(Hr r15 r16).bind fun r17=>if r17 then((Cv c).bind fun r18=>(Gn c).bind fun r19=>(Kf r18 r19).bind fun r20=>.ok r20) else(.ok false)) else(.ok false)))):Bool→R Bool) (fun(b3:Bool) (fr:Nat→AV) (h:Ah)=>fr=A0 [(6,(.q ids 0 g)),(20,(.sl 10 (List.map Aj r6.2.1))),(21,(.I r6.2.2)),(23,(.sl 10 (List.map Aj r7.2.1))),(24,(.I r7.2.2)),(117,(.bool b3))]∧h=hp h0 ids [(some (.rows g 9 [(Ao c)])),(some (.rows g1 9 [(Ao r2.1)])),(some (.rows g2 9 [(Ao r3.1)])),(some (.rows g3 9 [(Ao r4.1)])),(some (.rows g4 9 [(Ao r5.1)])),(some (.rows g5 9 [(Ao r6.1)])),(some (.rows g6 9 [(Ao r7.1)]))]) ?_ fun hJ7=>Dy (fun hb15=>?_) (fun hb15=>?_)
         ·rintro b3 fr h ⟨rfl,rfl⟩
          refine Ad (.bool b3) O Aa<|Dj 5 ((fun(b4:Bool)=>if(b4||(r6.2.2 != r7.2.2)) then(.ok false) else((C8 c).bind fun r13=>(G7 c).bind fun r14=>if(r13==r14) then((Ej c).bind fun r15=>(Iz c).bind fun r16=>(Hr r15 r16).bind fun r17=>if r17 then((Cv c).bind fun r18=>(Gn c).bind fun r19=>(Kf r18 r19).bind fun r20=>.ok r20) else(.ok false)) else(.ok false))):Bool→R Bool) (fun(b4:Bool) (fr:Nat→AV) (h:Ah)=>fr=A0 [(6,(.q ids 0 g)),(21,(.I r6.2.2)),(24,(.I r7.2.2)),(123,(.bool b4))]∧h=hp h0 ids [(some (.rows g 9 [(Ao c)])),(some (.rows g1 9 [(Ao r2.1)])),(some (.rows g2 9 [(Ao r3.1)])),(some (.rows g3 9 [(Ao r4.1)])),(some (.rows g4 9 [(Ao r5.1)])),(some (.rows g5 9 [(Ao r6.1)])),(some (.rows g6 9 [(Ao r7.1)]))]) ?_ fun hJ8=>Dy (fun hb17=>?_) (fun hb17=>?_)
          ·rintro b4 fr h ⟨rfl,rfl⟩
           refine Ad (.bool b4) O Aa<|Cb 4 [(6,(.q ids 0 g)),(128,(.bool (b4||(r6.2.2 != r7.2.2))))] ?_ fun hJ9=>B3 b4 (fun hb19=>?_) (fun hb19=>?_)
           ·refine Ae<|Cs O (fun hc2=>?_) (fun hc2=>?_)
            ·refine Ab<|Z<|Ad (.bool false) O At<|Ae<|B6 (a:=false) (vs:=[(.bool false)]) Tryz.func3 hI O (.same _)
            refine Bg<|Ab<|B7 Db [[],[0],[],[0,1,2],[0,1,2,3],[0,1,2,3,4],[0,1,2,3,4,5],[0,1,2,3,4,5,6],[0,1,2,3,4,5],[0,1,2,3,4,5,6,7,8],[0,1,2,3,4,5,6,7,8,9],[0,1,2,3,4,5,6,7,8,9,10],[0,1,2,3,4,5,6,7,8,9,10,11],[0,1,2,3,4,5,6,7,8,9,10,11,12],[0,1,2,3,4,5,6,7,8,9,10,11,12,13],[0,1,2,3,4,5,6,7,8,9,10,11,12],[0,1,2,3,4,5,6,7,8,9,10,11,12,13,14,15],[0,1,2,3,4,5,6,7,8,9,10,11,12,13,14,15,16],[0,1,2,3,4,5,6,7,8,9,10,11,12,13,14,15,16,17],[0,1,2,3,4,5,6,7,8,9,10,11,12,13,14,15,16,17,17,18,18]] [(false,0),(false,2),(true,1),(true,3),(false,4),(false,5),(false,6),(false,8),(true,7),(true,9),(true,10),(false,11),(false,12),(false,13),(false,15),(true,14),(true,16),(true,17),(false,18),(false,19)] (by kernel_rfl)<|Y (.agg (Ao c)) O O (Al (Ap hI O O O Ar O))<|Y (.agg (Ao c)) O O (Al (Ap hI O O O Ar O))<|D1 [(.agg (Ao c))] O O O O O ((J8 c) _) (fun v _ _ _=>Bk Tryz.func3 hI) (Ac O (Al (Ap hI O O O Ar O)) (Au O As)) fun r13 _=>D1 [(.agg (Ao c))] O O O O O ((R9 c) _) (fun v _ _ _=>Bk Tryz.func3 hI) (A8 O As) fun r14 _=>?_
            refine Y (.bool (r13==r14)) O O (Bi O O O)<|Y (.bool (r13==r14)) O O Aa<|Gl (fun hb20=>?_) (fun hb20=>?_)
            ·refine Ay (tj:=134) (.agg (Ao c)) O O (congrArg AV.bool hb20) O (Al (Ap hI O O O Ar O))<|Ay (tj:=134) (.agg (Ao c)) O O (congrArg AV.bool hb20) O (Al (Ap hI O O O Ar O))<|D1 [(.agg (Ao c))] O (Cx (tj:=134) O (congrArg AV.bool hb20)) O O O ((Su c) _) (fun v _ _ _=>Bk Tryz.func3 hI) (Wr (tj:=134) O O (congrArg AV.bool hb20) (Al (Ap hI O O O Ar O)) (A9 O (Au O As))) fun r15 _=>D1 [(.agg (Ao c))] O (Cx (tj:=134) O (congrArg AV.bool hb20)) O O O ((Z4 c) _) (fun v _ _ _=>Bk Tryz.func3 hI) (A9 O (A8 O As)) fun r16 _=>D1 [(.agg (Ao r15)),(.agg (Ao r16))] O (Cx (tj:=134) O (congrArg AV.bool hb20)) O O O ((Qy r15 r16) _) (fun v _ _ _=>Bk Tryz.func3 hI) (A9 O (A8 O As)) fun r17 _=>Y (.bool r17) O O (Bz (t:=true) (congrArg AV.bool hb20) O)<|Y (.bool r17) O O Aa ?_
             refine Gl (fun hb21=>?_) (fun hb21=>?_)
             ·refine Ay (tj:=141) (.agg (Ao c)) O O (congrArg AV.bool hb21) O (Al (Ap hI O O O Ar O))<|Ay (tj:=141) (.agg (Ao c)) O O (congrArg AV.bool hb21) O (Al (Ap hI O O O Ar O))<|D1 [(.agg (Ao c))] O (Cx (tj:=141) O (congrArg AV.bool hb21)) O O O ((Om c) _) (fun v _ _ _=>Bk Tryz.func3 hI) (Wr (tj:=141) O O (congrArg AV.bool hb21) (Al (Ap hI O O O Ar O)) (Bb O (Au O As))) fun r18 _=>D1 [(.agg (Ao c))] O (Cx (tj:=141) O (congrArg AV.bool hb21)) O O O ((X5 c) _) (fun v _ _ _=>Bk Tryz.func3 hI) (Bb O (A8 O As)) fun r19 _=>D1 [(.sl 1 (List.map (rL 1 (rI .u8)) r18)),(.sl 1 (List.map (rL 1 (rI .u8)) r19))] O (Cx (tj:=141) O (congrArg AV.bool hb21)) O O O ((Acb r18 r19) _) (fun v _ _ _=>Bk Tryz.func3 hI) (Bb O (A8 O As)) fun r20 _=>Y (.bool r20) O O (Bz (t:=true) (congrArg AV.bool hb21) O)<|Y (.bool r20) O O At ?_
              refine Be<|B6 (a:=r20) (vs:=[(.bool r20)]) Tryz.func3 hI O (.same _)
             refine A2 (tj:=141) (b:=false) O O (congrArg AV.bool hb21) O O<|A2 (tj:=141) (b:=false) O O (congrArg AV.bool hb21) O O<|Ow (tj:=141) (b:=false) O O (congrArg AV.bool hb21) O O<|Ow (tj:=141) (b:=false) O O (congrArg AV.bool hb21) O O<|Ow (tj:=141) (b:=false) O O (congrArg AV.bool hb21) O O<|Y (.bool false) O O (Bz (t:=false) (congrArg AV.bool hb21) O)<|Y (.bool false) O O At ?_
             refine Be<|B6 (a:=false) (vs:=[(.bool false)]) Tryz.func3 hI O (.same _)
            refine A2 (tj:=134) (b:=false) O O (congrArg AV.bool hb20) O O<|A2 (tj:=134) (b:=false) O O (congrArg AV.bool hb20) O O<|Ow (tj:=134) (b:=false) O O (congrArg AV.bool hb20) O O<|Ow (tj:=134) (b:=false) O O (congrArg AV.bool hb20) O O<|Ow (tj:=134) (b:=false) O O (congrArg AV.bool hb20) O O<|Y (.bool false) O O (Bz (t:=false) (congrArg AV.bool hb20) O)<|Y (.bool false) O O Aa ?_
            refine A2 (tj:=141) (b:=false) O O O O O<|A2 (tj:=141) (b:=false) O O O O O<|Ow (tj:=141) (b:=false) O O O O O<|Ow (tj:=141) (b:=false) O O O O O<|Ow (tj:=141) (b:=false) O O O O O<|Y (.bool false) O O (Bz (t:=false) O O)<|Y (.bool false) O O At ?_
            refine Be<|B6 (a:=false) (vs:=[(.bool false)]) Tryz.func3 hI O (.same _)
           ·refine Ba (t:=124) hb19 O<|Ak 4 [] [(128,(.bool true))] ?_
            exact Bo hJ9 (.cons O (.cons (Ij hb19) .nil))
           refine Ba (t:=124) hb19 O<|Ak 4 [] [(128,(.bool (r6.2.2 != r7.2.2)))] ?_
           exact Bo hJ9 (.cons O (.cons (Im hb19) .nil))
          ·refine Ba (t:=118) hb17 O<|Ak 5 [] [(123,(.bool true))] ?_
           refine Bm<|Cf [(6,(.q ids 0 g)),(21,(.I r6.2.2)),(24,(.I r7.2.2)),(123,(.bool true))] (FI O)<|hJ8 true _ _ ⟨O,O⟩
          refine Ba (t:=118) hb17 O<|Ak 2 [] [(120,(.sl 10 (List.map Aj r7.2.1))),(119,(.sl 10 (List.map Aj r6.2.1)))] ?_
          refine Bh [(.sl 10 (List.map Aj r6.2.1)),(.sl 10 (List.map Aj r7.2.1))] O (Cx (tj:=118) O O) O O ((Q6 r6.2.1 r7.2.1) _) (fun v _=>Bk Tryz.func3 hI) fun r12 _=>Ak 2 [] [(123,(.bool (!r12)))] ?_
          refine Bm<|Cf [(6,(.q ids 0 g)),(21,(.I r6.2.2)),(24,(.I r7.2.2)),(123,(.bool (!r12)))] (FI O)<|hJ8 (!r12) _ _ ⟨O,O⟩
         ·refine Ba (t:=112) hb15 O<|Ak 5 [] [(117,(.bool true))] ?_
          refine Bm<|Cf [(6,(.q ids 0 g)),(20,(.sl 10 (List.map Aj r6.2.1))),(21,(.I r6.2.2)),(23,(.sl 10 (List.map Aj r7.2.1))),(24,(.I r7.2.2)),(117,(.bool true))] (FI O)<|hJ7 true _ _ ⟨O,O⟩
         refine Ba (t:=112) hb15 O<|Ak 2 [5,6] [(114,(.agg (Ao r7.1))),(113,(.agg (Ao r6.1)))] ?_
         refine Bh [(.agg (Ao r6.1)),(.agg (Ao r7.1))] O (Cx (tj:=112) O O) O O ((Qy r6.1 r7.1) _) (fun v _=>Bk Tryz.func3 hI) fun r11 _=>Ak 2 [] [(117,(.bool (!r11)))] ?_
         refine Bm<|Cf [(6,(.q ids 0 g)),(20,(.sl 10 (List.map Aj r6.2.1))),(21,(.I r6.2.2)),(23,(.sl 10 (List.map Aj r7.2.1))),(24,(.I r7.2.2)),(117,(.bool (!r11)))] (FI O)<|hJ7 (!r11) _ _ ⟨O,O⟩
        ·refine Ba (t:=107) hb13 O<|Ak 4 [] [(111,(.bool true))] ?_
         exact Bo hJ6 (.cons O (.cons O (.cons O (.cons O (.cons O (.cons O (.cons O (.cons (Ij hb13) .nil))))))))
        refine Ba (t:=107) hb13 O<|Ak 4 [] [(111,(.bool (r4.2.2 != r5.2.2)))] ?_
        exact Bo hJ6 (.cons O (.cons O (.cons O (.cons O (.cons O (.cons O (.cons O (.cons (Im hb13) .nil))))))))
       ·refine Ba (t:=101) hb11 O<|Ak 5 [] [(106,(.bool true))] ?_
        refine Bm<|Cf [(6,(.q ids 0 g)),(15,(.I r4.2.2)),(18,(.I r5.2.2)),(19,(.q ids 5 g5)),(20,(.sl 10 (List.map Aj r6.2.1))),(21,(.I r6.2.2)),(22,(.q ids 6 g6)),(23,(.sl 10 (List.map Aj r7.2.1))),(24,(.I r7.2.2)),(106,(.bool true))] (FI O)<|hJ5 true _ _ ⟨O,O⟩
       refine Ba (t:=101) hb11 O<|Ak 2 [] [(103,(.sl 10 (List.map Aj r5.2.1))),(102,(.sl 10 (List.map Aj r4.2.1)))] ?_
       refine Bh [(.sl 10 (List.map Aj r4.2.1)),(.sl 10 (List.map Aj r5.2.1))] O (Cx (tj:=101) O O) O O ((Q6 r4.2.1 r5.2.1) _) (fun v _=>Bk Tryz.func3 hI) fun r10 _=>Ak 2 [] [(106,(.bool (!r10)))] ?_
       refine Bm<|Cf [(6,(.q ids 0 g)),(15,(.I r4.2.2)),(18,(.I r5.2.2)),(19,(.q ids 5 g5)),(20,(.sl 10 (List.map Aj r6.2.1))),(21,(.I r6.2.2)),(22,(.q ids 6 g6)),(23,(.sl 10 (List.map Aj r7.2.1))),(24,(.I r7.2.2)),(106,(.bool (!r10)))] (FI O)<|hJ5 (!r10) _ _ ⟨O,O⟩
      ·refine Ba (t:=95) hb9 O<|Ak 5 [] [(100,(.bool true))] ?_
       refine Bm<|Cf [(6,(.q ids 0 g)),(14,(.sl 10 (List.map Aj r4.2.1))),(15,(.I r4.2.2)),(17,(.sl 10 (List.map Aj r5.2.1))),(18,(.I r5.2.2)),(19,(.q ids 5 g5)),(20,(.sl 10 (List.map Aj r6.2.1))),(21,(.I r6.2.2)),(22,(.q ids 6 g6)),(23,(.sl 10 (List.map Aj r7.2.1))),(24,(.I r7.2.2)),(100,(.bool true))] (FI O)<|hJ4 true _ _ ⟨O,O⟩
      refine Ba (t:=95) hb9 O<|Ak 2 [3,4] [(97,(.agg (Ao r5.1))),(96,(.agg (Ao r4.1)))] ?_
      refine Bh [(.agg (Ao r4.1)),(.agg (Ao r5.1))] O (Cx (tj:=95) O O) O O ((Qy r4.1 r5.1) _) (fun v _=>Bk Tryz.func3 hI) fun r9 _=>Ak 2 [] [(100,(.bool (!r9)))] ?_
      refine Bm<|Cf [(6,(.q ids 0 g)),(14,(.sl 10 (List.map Aj r4.2.1))),(15,(.I r4.2.2)),(17,(.sl 10 (List.map Aj r5.2.1))),(18,(.I r5.2.2)),(19,(.q ids 5 g5)),(20,(.sl 10 (List.map Aj r6.2.1))),(21,(.I r6.2.2)),(22,(.q ids 6 g6)),(23,(.sl 10 (List.map Aj r7.2.1))),(24,(.I r7.2.2)),(100,(.bool (!r9)))] (FI O)<|hJ4 (!r9) _ _ ⟨O,O⟩
     ·refine Ba (t:=90) hb7 O<|Ak 4 [] [(94,(.bool true))] ?_
      exact Bo hJ3 (.cons O (.cons O (.cons O (.cons O (.cons O (.cons O (.cons O (.cons O (.cons O (.cons O (.cons O (.cons O (.cons O (.cons (Ij hb7) .nil))))))))))))))
     refine Ba (t:=90) hb7 O<|Ak 4 [] [(94,(.bool (r2.2 != r3.2)))] ?_
     exact Bo hJ3 (.cons O (.cons O (.cons O (.cons O (.cons O (.cons O (.cons O (.cons O (.cons O (.cons O (.cons O (.cons O (.cons O (.cons (Im hb7) .nil))))))))))))))
    ·refine Ba (t:=43) hb5 O<|Ak 4 [] [(47,(.bool true))] ?_
     exact Bo hJ2 (.cons O (.cons O (.cons O (.cons O (.cons (Ij hb5) .nil)))))
    refine Ba (t:=43) hb5 O<|Cj (tj:=43) (.sl 1 (List.map (rI .u8) d)) O O O Aa<|Cj (tj:=43) (.I (d.length:Int)) O O O (Bp (Br D9))<|Ak 2 [] [(47,(.bool (decide ((d.length:Int) > 100))))] ?_
    exact Bo hJ2 (.cons O (.cons O (.cons O (.cons O (.cons (Im hb5) .nil)))))
   ·refine Ba (t:=37) hb3 O<|Ak 5 [] [(42,(.bool true))] ?_
    exact Bo hJ1 (.cons O (.cons O (.cons O (.cons O (.cons (Ij hb3) .nil)))))
   refine Ba (t:=37) hb3 O<|Ak 2 [0] [(39,(.sl 1 (List.map (rI .i64) c.Match)))] ?_
   refine Cj (tj:=37) (.I (c.Match.length:Int)) O O O (Bp (Br Bw))<|Ak 2 [] [(42,(.bool (decide ((c.Match.length:Int) > 10))))] ?_
   exact Bo hJ1 (.cons O (.cons O (.cons O (.cons O (.cons (Im hb3) .nil)))))
  ·refine Ba (t:=31) hb1 O<|Ak 5 [] [(36,(.bool true))] ?_
   exact Bo hJ (.cons O (.cons O (.cons O (.cons O (.cons (Ij hb1) .nil)))))
  refine Ba (t:=31) hb1 O<|Ak 2 [0] [(33,(.sl 1 (List.map rB c.Votes)))] ?_
  refine Cj (tj:=31) (.I (c.Votes.length:Int)) O O O (Bp (Br Cr))<|Ak 2 [] [(36,(.bool (decide ((c.Votes.length:Int) > 10))))] ?_
  exact Bo hJ (.cons O (.cons O (.cons O (.cons O (.cons (Im hb1) .nil)))))
 refine Ab<|Z<|Ad (.bool false) O At<|Ae<|B6 (a:=false) (vs:=[(.bool false)]) Tryz.func3 hI O (.same _)
end Go.Am
namespace Go.Proofs.YtgigefcfankeeaaGreat.laws
open Go Go.Am Go.ChangeShapes Go.WideShapes Go.ChangeAt Go.RowKit
set_option maxRecDepth 100000
set_option linter.unusedVariables false
set_option linter.unusedSimpArgs false
theorem own:ownKnob Tryz.prog.godebug=none:=by kernel_rfl
theorem Akh:laidOutB Tryz.prog=true:=by kernel_rfl
theorem rd3:Tryz.prog.readableRec 3=true∧3<Tryz.prog.types.size:=by decide +kernel
theorem Amx:Tryz.prog.readableRec 26=true∧26<Tryz.prog.types.size:=by decide +kernel
theorem Amz:Tryz.prog.readableRec 27=true∧27<Tryz.prog.types.size:=by decide +kernel
theorem Ajl {H:Type}:Bulk (H:=H) Rows.uptoBulk Rows.uptoBulkAll:=⟨fun d=>by cases d with | lit l=>cases l <;> simp [Rows.uptoBulk] | _=>simp [Rows.uptoBulk],fun l=>by simp [Rows.uptoBulk],fun e s=>by simp only [Rows.uptoBulk]; omega,fun l=>by simp [Rows.uptoBulk],by simp [Rows.uptoBulkAll],fun d l=>by simp [Rows.uptoBulkAll]⟩
theorem Zk:N6 Tryz.prog 3 (Gi .i64):=Acj Tryz.underlying3
theorem on5:N6 Tryz.prog 5 (Gi .u8):=Acj Tryz.underlying5
theorem All:N6 Tryz.prog 27 (Pd 1 (Gi .u8)):=Wz Tryz.underlying27 (by kernel_rfl) (by decide) (fun a=>Il a) on5
theorem Amn:N6 Tryz.prog 51 Q7:=Ads (T:=(Pt (Gi .i64) (Pt (Pd 1 (Gi .u8)) Agi))) (tot:=2) Tryz.underlying51 (by kernel_rfl) (Nt (c:=1) rfl rfl (by kernel_rfl) rfl Zk (Nt (c:=1) rfl rfl (by kernel_rfl) rfl All (Aha rfl))) (fun p=>⟨p.1,p.2.1⟩) (fun _=>rfl) (fun _ h=>h) (fun _=>Nat.le_refl _)
theorem Amr:N6 Tryz.prog 22 (Pd 2 Q7):=Wz Tryz.underlying22 (by kernel_rfl) (by decide) (fun a=>Kj a) Amn
theorem on4:N6 Tryz.prog 4 Yu:=Agj Tryz.underlying4
theorem Amu:N6 Tryz.prog 23 (Pd 1 Yu):=Wz Tryz.underlying23 (by kernel_rfl) (by decide) (fun a=>Qi a) on4
theorem Amq:N6 Tryz.prog 24 (Pd 1 (Gi .i64)):=Wz Tryz.underlying24 (by kernel_rfl) (by decide) (fun a=>Il a) Zk
theorem Amm:N6 Tryz.prog 26 T9:=Ads (T:=(Pt (Gi .i64) (Pt (Gi .i64) (Pt (Gi .i64) (Pt (Gi .i64) (Pt (Pd 2 Q7) (Pt (Gi .i64) (Pt (Gi .i64) (Pt (Pd 1 Yu) (Pt (Pd 1 (Gi .i64)) Agi)))))))))) (tot:=9) Tryz.underlying26 (by kernel_rfl) (Nt (c:=1) rfl rfl (by kernel_rfl) rfl Zk (Nt (c:=1) rfl rfl (by kernel_rfl) rfl Zk (Nt (c:=1) rfl rfl (by kernel_rfl) rfl Zk (Nt (c:=1) rfl rfl (by kernel_rfl) rfl Zk (Nt (c:=1) rfl rfl (by kernel_rfl) rfl Amr (Nt (c:=1) rfl rfl (by kernel_rfl) rfl Zk (Nt (c:=1) rfl rfl (by kernel_rfl) rfl Zk (Nt (c:=1) rfl rfl (by kernel_rfl) rfl Amu (Nt (c:=1) rfl rfl (by kernel_rfl) rfl Amq (Aha rfl)))))))))) (fun p=>⟨p.1,p.2.1,p.2.2.1,p.2.2.2.1,p.2.2.2.2.1,p.2.2.2.2.2.1,p.2.2.2.2.2.2.1,p.2.2.2.2.2.2.2.1,p.2.2.2.2.2.2.2.2.1⟩) (fun _=>rfl) (fun _ h=>h) (fun _=>Nat.le_refl _)
end Go.Proofs.YtgigefcfankeeaaGreat.laws
