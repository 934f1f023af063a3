/- Written by shrink.py from texts of ours: comments struck, what is not reached left out, names short. -/
import Derived.Test.YtjidhdlbojmlfaaGreatDoorU7
import Derived.Test.YtjidhdlbojmlfaaGreatDoorU4
import Derived.Test.YtjidhdlbojmlfaaGreatDoorRows
import Derived.KernelRfl
import Derived.Test.YtjidhdlbojmlfaaGreatDoorCards
import Derived.Test.YtjidhdlbojmlfaaGreatDoorTie
import Derived.SevenTiedAt
import Derived.LaidMore
import Derived.LaidSub
namespace Go.Am
open Go Go.Proofs
set_option maxRecDepth 100000
set_option maxHeartbeats 4000000
set_option linter.unusedSimpArgs false
set_option linter.unusedVariables false
theorem Abs (a:Volume)(y:Volume):CP Tryz.prog 63 [(.agg (Aw a)),(.agg (Aw y))] (Ul a y) (fun(x:Bool)=>(AV.bool x)):=by
 refine Cd (n:=17) 2 Tryz.func63 J (by decide) J J fun h0 ids hI=>Bn (Al (Ul.eq_1 _ _) ?_)
 refine Y<|O<|Cl (v:=(.agg (Aw a))) (j:=0) hI J J J J J J J fun g=>Cl (v:=(.agg (Aw y))) (j:=1) hI J J J J J J J fun g1=>Aa (.bool false) J Ai<|Z<|Aj ?_
 refine Y<|O<|Ab 6 [0,1] [(10,(.bool (a.Name==y.Name)))] ?_
 refine Cz 6 ((fun(b:Bool)=>.ok b):Bool→R Bool) (fun(b:Bool) (fr:Nat→AV) (h:Ag)=>fr=A5 [(16,(.bool b))]∧h=hp h0 ids [(some (.rows g 2 [(Aw a)])),(some (.rows g1 2 [(Aw y)]))]) ?_ fun hJ=>Dd (fun hb1=>?_) (fun hb1=>?_)
 ·rintro b fr h ⟨rfl,rfl⟩
  refine Aa (.bool b) J Ai<|Z<|Bl (a:=b) (vs:=[(.bool b)]) Tryz.func63 hI J (.same _)
 ·refine Az (t:=10) hb1 J<|Ab 4 [0,1] [(14,(.sl 2 (List.map B7 y.Closed))),(12,(.sl 2 (List.map B7 a.Closed)))] ?_
  refine A7 [(.sl 2 (List.map B7 a.Closed)),(.sl 2 (List.map B7 y.Closed))] J (Cq (tj:=10) J J) J J ((Ti a.Closed y.Closed) _) (fun v _=>B0 Tryz.func63 hI) fun r _=>Aa (.bool r) J (Et (t:=true) J J)<|Bd<|B5 [(16,(.bool r))] (FI J)<|hJ r _ _ ⟨J,J⟩
 refine Az (t:=10) hb1 J<|Ab 6 [] [(16,(.bool false))] ?_
 refine Bd<|B5 [(16,(.bool false))] (FI J)<|hJ false _ _ ⟨J,J⟩
theorem Mt (s1:List Volume)(s2:List Volume):CP Tryz.prog 62 [(.sl 2 (List.map Aw s1)),(.sl 2 (List.map Aw s2)),(.func (.func 63) [] [])] (Fw s1 s2) (fun(x:Bool)=>(AV.bool x)):=by
 refine Cd (n:=32) 2 Tryz.func62 J (by decide) J J fun h0 ids hI=>Bn (Al (Fw.eq_1 _ _) ?_)
 refine Y<|O<|Aa (.bool false) J Ai<|Z<|Y<|Y<|O ?_
 refine Aa (.sl 2 (List.map Aw s1)) J Ad<|Aa (.I (s1.length:Int)) J (A2 (Bk Hj))<|Aa (.sl 2 (List.map Aw s2)) J Ad<|Aa (.I (s2.length:Int)) J (A2 (Bk Hj))<|Aa (.bool ((s1.length:Int) != (s2.length:Int))) J (Bh J J J)<|Z<|Bx J (fun hc=>?_) (fun hc=>?_)
 ·refine Y<|O<|Aa (.bool false) J Ai<|Z<|Bl (a:=false) (vs:=[(.bool false)]) Tryz.func62 hI J (.same _)
 refine Ax<|Y<|Y<|O<|Aa (.sl 2 (List.map Aw s1)) J Ad<|Aa (.I (s1.length:Int)) J (A2 (Bk Hj))<|Aa (.I 0) J Ad ?_
 refine Z<|Ba<|D6 [(1,(.sl 2 (List.map Aw s2))),(2,(.func (.func 63) [] [])),(15,(.sl 2 (List.map Aw s1))),(16,(.I (s1.length:Int))),(17,(.I 0))] (FI J)<|Eo (P:=Tryz.prog) s1 (fun j a=>fun _=>Ej s2 j a) ((Dz (fun _=>.ok true) (fun r=>.ok r)):(Unit ⊕ Bool)→R Bool) (fun j=>fun _=>fun(fr:Nat→AV) (h:Ag)=>fr=A5 [(1,(.sl 2 (List.map Aw s2))),(2,(.func (.func 63) [] [])),(15,(.sl 2 (List.map Aw s1))),(16,(.I (s1.length:Int))),(17,(.I (j:Int)))]∧h=hp h0 ids [none,none]) () ?_ ?_ ?_
 ·exact⟨J,J⟩
 ·rintro j a ha W hW _ fr h ⟨rfl,rfl⟩
  refine Al (m':=Ej s2 j a) J (Al (Ej.eq_1 _ _ _) ?_)
  refine Y<|O<|Aa (.bool (decide ((j:Int)<(s1.length:Int)))) J (Bh J J J)<|Z<|Y<|Ev (t:=15) (L:=s1) J fun hlim=>Dg J (Int.ofNat_lt.2 (Bg ha)) ?_
  refine Ax<|Y<|Ba<|Y<|O<|Aa (.I (j:Int)) J Ad<|Aa (.cp (Aw a) 0) J (Bz (Ea Hj Ji J ha)) ?_
  refine Aa (.agg (Aw a)) J (Au (C7 Ji J))<|A8 (j:=0) hI J J J J Ji J fun g=>Aa (.I (j:Int)) J Ai<|An (Aq (v:=(.agg (Aw a))) hI J J J J Ji J J J J J)<|Z<|Aj ?_
  refine Y<|O<|Ab 2 [] [(23,(.I (j:Int))),(22,(.sl 2 (List.map Aw s2)))] ?_
  refine Dv fun a1 hz hx1=>Aa (.cp (Aw a1) 0) J (Bz (Dc Hj Ji J hz hx1))<|Aa (.agg (Aw a1)) J (Au (C7 Ji J))<|A8 (j:=1) hI J J J J Ji J fun g1=>An (Aq (v:=(.agg (Aw a1))) hI J J J J Ji J J J J J)<|Z<|Aj ?_
  refine Y<|O<|Ab 3 [0,1] [(28,(.agg (Aw a1))),(27,(.agg (Aw a))),(26,(.func (.func 63) [] []))] ?_
  refine A7 [(.agg (Aw a)),(.agg (Aw a1))] J J J J ((Abs a a1) _) (fun v _=>B0 Tryz.func62 hI) fun r _=>Aa (.bool (!r)) J (Oa J)<|Z<|D2 J (fun hc1=>?_) (fun hc1=>?_)
  ·refine Ax<|Bi<|O<|Ab 2 [] [(17,(.I (IntKind.wrap .i64 ((j:Int)+1))))] ?_
   refine Z<|Eb [none,none] hI J (.drop (.drop .nil))<|Bo (E8 (hW () _ _ ⟨J,J⟩)) (.cons J (.cons J (.cons J (.cons J (.cons (Eg (Bg ha) hlim) .nil)))))
  refine Y<|O<|Aa (.bool false) J Ai<|Z<|E7<|Fh<|Bl (a:=false) (vs:=[(.bool false)]) Tryz.func62 hI J (.same _)
 rintro _ fr h ⟨rfl,rfl⟩
 refine Al (Fb _ _ _)<|Y<|O<|Aa (.bool (decide ((s1.length:Int)<(s1.length:Int)))) J (Bh J J J)<|Z<|Y<|Df J (Int.lt_irrefl _) ?_
 refine Cy J<|Y<|O<|Aa (.bool true) J Ai<|Z<|Bl (a:=true) (vs:=[(.bool true)]) Tryz.func62 hI J (.same _)
theorem O8 (s1:List Ay)(s2:List Ay):CP Tryz.prog 67 [(.sl 1 (List.map rS s1)),(.sl 1 (List.map rS s2))] (Mf s1 s2) (fun(x:Bool)=>(AV.bool x)):=by
 refine Cd (n:=26) 0 Tryz.func67 J (by decide) J J fun h0 ids hI=>Bn (Al (Mf.eq_1 _ _) ?_)
 refine Y<|O<|Aa (.bool false) J Ai<|Z<|Y<|Y<|O ?_
 refine Aa (.sl 1 (List.map rS s1)) J Ad<|Aa (.I (s1.length:Int)) J (A2 (Bk D0))<|Aa (.sl 1 (List.map rS s2)) J Ad<|Aa (.I (s2.length:Int)) J (A2 (Bk D0))<|Aa (.bool ((s1.length:Int) != (s2.length:Int))) J (Bh J J J)<|Z<|Bx J (fun hc=>?_) (fun hc=>?_)
 ·refine Y<|O<|Aa (.bool false) J Ai<|Z<|Bl (a:=false) (vs:=[(.bool false)]) Tryz.func67 hI J (.same _)
 refine Ax<|Y<|Y<|O<|Aa (.sl 1 (List.map rS s1)) J Ad<|Aa (.I (s1.length:Int)) J (A2 (Bk D0))<|Aa (.I 0) J Ad ?_
 refine Z<|Ba<|D6 [(0,(.sl 1 (List.map rS s1))),(1,(.sl 1 (List.map rS s2))),(12,(.I (s1.length:Int))),(13,(.I 0))] (FI J)<|Eo (P:=Tryz.prog) s1 (fun j a=>fun _=>Mv s2 j a) ((Dz (fun _=>.ok true) (fun r=>.ok r)):(Unit ⊕ Bool)→R Bool) (fun j=>fun _=>fun(fr:Nat→AV) (h:Ag)=>fr=A5 [(0,(.sl 1 (List.map rS s1))),(1,(.sl 1 (List.map rS s2))),(12,(.I (s1.length:Int))),(13,(.I (j:Int)))]∧h=hp h0 ids []) () ?_ ?_ ?_
 ·exact⟨J,J⟩
 ·rintro j a ha W hW _ fr h ⟨rfl,rfl⟩
  refine Al (m':=Mv s2 j a) J (Al (Mv.eq_1 _ _ _) ?_)
  refine Y<|O<|Aa (.bool (decide ((j:Int)<(s1.length:Int)))) J (Bh J J J)<|Z<|Y<|Ev (t:=0) (L:=s1) J fun hlim=>Dg J (Int.ofNat_lt.2 (Bg ha)) ?_
  refine Ax<|Y<|Ba<|Y<|O<|Ab 2 [] [(5,(.I (j:Int)))] ?_
  refine Z<|Y<|Ct Es [[],[],[0,1],[0,1,2],[],[],[4,5],[4,5,6],[0,1,2,3,4,5,6,7]] [(false,0),(false,1),(false,2),(false,3),(false,4),(false,5),(false,6),(false,7),(false,8)] (by kernel_rfl)<|Af (.sl 1 (List.map rS s1)) J J Ad<|Af (.I (j:Int)) J J Ad<|Af (.cp [(.str a)] 0) J J (Bz (Ea D0 Cf J ha))<|Af (.str a) J J (Au (C7 Cf J)) ?_
  refine Af (.sl 1 (List.map rS s2)) J J Ad<|Af (.I (j:Int)) J J Ad<|Ny fun a1 hz hx1=>Af (.cp [(.str a1)] 0) J J (Bz (Dc D0 Cf J hz hx1))<|Af (.str a1) J J (Au (C7 Cf J))<|Af (.bool (!(a==a1))) J J (Bh J J J)<|Ck ?_
  refine D2 J (fun hc1=>?_) (fun hc1=>?_)
  ·refine Ax<|Bi<|O<|Ab 2 [] [(13,(.I (IntKind.wrap .i64 ((j:Int)+1))))] ?_
   refine Z<|Bo (E8 (hW () _ _ ⟨J,J⟩)) (.cons J (.cons J (.cons J (.cons (Eg (Bg ha) hlim) .nil))))
  refine Y<|O<|Aa (.bool false) J Ai<|Z<|E7<|Fh<|Bl (a:=false) (vs:=[(.bool false)]) Tryz.func67 hI J (.same _)
 rintro _ fr h ⟨rfl,rfl⟩
 refine Al (Fb _ _ _)<|Y<|O<|Aa (.bool (decide ((s1.length:Int)<(s1.length:Int)))) J (Bh J J J)<|Z<|Y<|Df J (Int.lt_irrefl _) ?_
 refine Cy J<|Y<|O<|Aa (.bool true) J Ai<|Z<|Bl (a:=true) (vs:=[(.bool true)]) Tryz.func67 hI J (.same _)
theorem Q7 (s1:List Int)(s2:List Int):CP Tryz.prog 68 [(.sl 1 (List.map (rI .i64) s1)),(.sl 1 (List.map (rI .i64) s2))] (Ij s1 s2) (fun(x:Bool)=>(AV.bool x)):=by
 refine Cd (n:=26) 0 Tryz.func68 J (by decide) J J fun h0 ids hI=>Bn (Al (Ij.eq_1 _ _) ?_)
 refine Y<|O<|Aa (.bool false) J Ai<|Z<|Y<|Y<|O ?_
 refine Aa (.sl 1 (List.map (rI .i64) s1)) J Ad<|Aa (.I (s1.length:Int)) J (A2 (Bk O9))<|Aa (.sl 1 (List.map (rI .i64) s2)) J Ad<|Aa (.I (s2.length:Int)) J (A2 (Bk O9))<|Aa (.bool ((s1.length:Int) != (s2.length:Int))) J (Bh J J J)<|Z<|Bx J (fun hc=>?_) (fun hc=>?_)
 ·refine Y<|O<|Aa (.bool false) J Ai<|Z<|Bl (a:=false) (vs:=[(.bool false)]) Tryz.func68 hI J (.same _)
 refine Ax<|Y<|Y<|O<|Aa (.sl 1 (List.map (rI .i64) s1)) J Ad<|Aa (.I (s1.length:Int)) J (A2 (Bk O9))<|Aa (.I 0) J Ad ?_
 refine Z<|Ba<|D6 [(0,(.sl 1 (List.map (rI .i64) s1))),(1,(.sl 1 (List.map (rI .i64) s2))),(12,(.I (s1.length:Int))),(13,(.I 0))] (FI J)<|Eo (P:=Tryz.prog) s1 (fun j a=>fun _=>Oo s2 j a) ((Dz (fun _=>.ok true) (fun r=>.ok r)):(Unit ⊕ Bool)→R Bool) (fun j=>fun _=>fun(fr:Nat→AV) (h:Ag)=>fr=A5 [(0,(.sl 1 (List.map (rI .i64) s1))),(1,(.sl 1 (List.map (rI .i64) s2))),(12,(.I (s1.length:Int))),(13,(.I (j:Int)))]∧h=hp h0 ids []) () ?_ ?_ ?_
 ·exact⟨J,J⟩
 ·rintro j a ha W hW _ fr h ⟨rfl,rfl⟩
  refine Al (m':=Oo s2 j a) J (Al (Oo.eq_1 _ _ _) ?_)
  refine Y<|O<|Aa (.bool (decide ((j:Int)<(s1.length:Int)))) J (Bh J J J)<|Z<|Y<|Ev (t:=0) (L:=s1) J fun hlim=>Dg J (Int.ofNat_lt.2 (Bg ha)) ?_
  refine Ax<|Y<|Ba<|Y<|O<|Ab 2 [] [(5,(.I (j:Int)))] ?_
  refine Z<|Y<|Ct Es [[],[],[0,1],[0,1,2],[],[],[4,5],[4,5,6],[0,1,2,3,4,5,6,7]] [(false,0),(false,1),(false,2),(false,3),(false,4),(false,5),(false,6),(false,7),(false,8)] (by kernel_rfl)<|Af (.sl 1 (List.map (rI .i64) s1)) J J Ad<|Af (.I (j:Int)) J J Ad<|Af (.cp [(.I a)] 0) J J (Bz (Ea O9 C2 J ha))<|Af (.I a) J J (Au (C7 C2 J)) ?_
  refine Af (.sl 1 (List.map (rI .i64) s2)) J J Ad<|Af (.I (j:Int)) J J Ad<|Ny fun a1 hz hx1=>Af (.cp [(.I a1)] 0) J J (Bz (Dc O9 C2 J hz hx1))<|Af (.I a1) J J (Au (C7 C2 J))<|Af (.bool (a != a1)) J J (Bh J J J)<|Ck ?_
  refine Bx J (fun hc1=>?_) (fun hc1=>?_)
  ·refine Y<|O<|Aa (.bool false) J Ai<|Z<|E7<|Fh<|Bl (a:=false) (vs:=[(.bool false)]) Tryz.func68 hI J (.same _)
  refine Ax<|Bi<|O<|Ab 2 [] [(13,(.I (IntKind.wrap .i64 ((j:Int)+1))))] ?_
  refine Z<|Bo (E8 (hW () _ _ ⟨J,J⟩)) (.cons J (.cons J (.cons J (.cons (Eg (Bg ha) hlim) .nil))))
 rintro _ fr h ⟨rfl,rfl⟩
 refine Al (Fb _ _ _)<|Y<|O<|Aa (.bool (decide ((s1.length:Int)<(s1.length:Int)))) J (Bh J J J)<|Z<|Y<|Df J (Int.lt_irrefl _) ?_
 refine Cy J<|Y<|O<|Aa (.bool true) J Ai<|Z<|Bl (a:=true) (vs:=[(.bool true)]) Tryz.func68 hI J (.same _)
theorem Abq (a:Sector)(y:Sector):CP Tryz.prog 66 [(.agg (A9 a)),(.agg (A9 y))] (Ud a y) (fun(x:Bool)=>(AV.bool x)):=by
 refine Cd (n:=38) 2 Tryz.func66 J (by decide) J J fun h0 ids hI=>Bn (Al (Ud.eq_1 _ _) ?_)
 refine Y<|O<|Cl (v:=(.agg (A9 a))) (j:=0) hI J J J J J J J fun g=>Cl (v:=(.agg (A9 y))) (j:=1) hI J J J J J J J fun g1=>Aa (.bool false) J Ai<|Z<|Aj ?_
 refine Y<|O<|Ab 6 [0,1] [(10,(.bool (a.Name==y.Name)))] ?_
 refine Cz 6 ((fun(b:Bool)=>(if b then(Ij a.Volumes y.Volumes).bind fun r1=>R.ok r1 else R.ok false).bind (fun(b1:Bool)=>.ok ((b1&&(a.Radar==y.Radar))&&(a.Procedural==y.Procedural)))):Bool→R Bool) (fun(b:Bool) (fr:Nat→AV) (h:Ag)=>fr=A5 [(2,(.q ids 0 g)),(3,(.q ids 1 g1)),(16,(.bool b))]∧h=hp h0 ids [(some (.rows g 5 [(A9 a)])),(some (.rows g1 5 [(A9 y)]))]) ?_ fun hJ=>Dd (fun hb1=>?_) (fun hb1=>?_)
 ·rintro b fr h ⟨rfl,rfl⟩
  refine Aa (.bool b) J Ad<|Cz 6 ((fun(b1:Bool)=>.ok ((b1&&(a.Radar==y.Radar))&&(a.Procedural==y.Procedural))):Bool→R Bool) (fun(b1:Bool) (fr:Nat→AV) (h:Ag)=>fr=A5 [(2,(.q ids 0 g)),(3,(.q ids 1 g1)),(23,(.bool b1))]∧h=hp h0 ids [(some (.rows g 5 [(A9 a)])),(some (.rows g1 5 [(A9 y)]))]) ?_ fun hJ1=>Dd (fun hb3=>?_) (fun hb3=>?_)
  ·rintro b1 fr h ⟨rfl,rfl⟩
   refine Aa (.bool b1) J Ad<|B2 6 [(2,(.q ids 0 g)),(3,(.q ids 1 g1)),(30,(.bool (b1&&(a.Radar==y.Radar))))] ?_ fun hJ2=>Bw b1 (fun hb5=>?_) (fun hb5=>?_)
   ·refine Aa (.bool (b1&&(a.Radar==y.Radar))) J Ad<|B2 6 [(37,(.bool ((b1&&(a.Radar==y.Radar))&&(a.Procedural==y.Procedural))))] ?_ fun hJ3=>Bw (b1&&(a.Radar==y.Radar)) (fun hb7=>?_) (fun hb7=>?_)
    ·refine Aa (.bool ((b1&&(a.Radar==y.Radar))&&(a.Procedural==y.Procedural))) J Ai<|Z<|Bl (a:=((b1&&(a.Radar==y.Radar))&&(a.Procedural==y.Procedural))) (vs:=[(.bool ((b1&&(a.Radar==y.Radar))&&(a.Procedural==y.Procedural)))]) Tryz.func66 hI J (.same _)
    ·refine Az (t:=31) hb7 J<|Ab 6 [0,1] [(37,(.bool (a.Procedural==y.Procedural)))] ?_
     exact Bf hJ3 (.cons (Hk hb7) .nil)
    refine Az (t:=31) hb7 J<|Ab 6 [] [(37,(.bool false))] ?_
    exact Bf hJ3 (.cons (Hl hb7) .nil)
   ·refine Az (t:=24) hb5 J<|Ab 6 [0,1] [(30,(.bool (a.Radar==y.Radar)))] ?_
    exact Bf hJ2 (.cons J (.cons J (.cons (Hk hb5) .nil)))
   refine Az (t:=24) hb5 J<|Ab 6 [] [(30,(.bool false))] ?_
   exact Bf hJ2 (.cons J (.cons J (.cons (Hl hb5) .nil)))
  ·refine Az (t:=17) hb3 J<|Ab 4 [0,1] [(21,(.sl 1 (List.map (rI .i64) y.Volumes))),(19,(.sl 1 (List.map (rI .i64) a.Volumes)))] ?_
   refine A7 [(.sl 1 (List.map (rI .i64) a.Volumes)),(.sl 1 (List.map (rI .i64) y.Volumes))] J (Cq (tj:=17) J J) J J ((Q7 a.Volumes y.Volumes) _) (fun v _=>B0 Tryz.func66 hI) fun r1 _=>Aa (.bool r1) J (Et (t:=true) J J)<|Bd<|B5 [(2,(.q ids 0 g)),(3,(.q ids 1 g1)),(23,(.bool r1))] (FI J)<|hJ1 r1 _ _ ⟨J,J⟩
  refine Az (t:=17) hb3 J<|Ab 6 [] [(23,(.bool false))] ?_
  refine Bd<|B5 [(2,(.q ids 0 g)),(3,(.q ids 1 g1)),(23,(.bool false))] (FI J)<|hJ1 false _ _ ⟨J,J⟩
 ·refine Az (t:=10) hb1 J<|Ab 4 [0,1] [(14,(.sl 1 (List.map rS y.Names))),(12,(.sl 1 (List.map rS a.Names)))] ?_
  refine A7 [(.sl 1 (List.map rS a.Names)),(.sl 1 (List.map rS y.Names))] J (Cq (tj:=10) J J) J J ((O8 a.Names y.Names) _) (fun v _=>B0 Tryz.func66 hI) fun r _=>Aa (.bool r) J (Et (t:=true) J J)<|Bd<|B5 [(2,(.q ids 0 g)),(3,(.q ids 1 g1)),(16,(.bool r))] (FI J)<|hJ r _ _ ⟨J,J⟩
 refine Az (t:=10) hb1 J<|Ab 6 [] [(16,(.bool false))] ?_
 refine Bd<|B5 [(2,(.q ids 0 g)),(3,(.q ids 1 g1)),(16,(.bool false))] (FI J)<|hJ false _ _ ⟨J,J⟩
theorem M4 (s1:List Sector)(s2:List Sector):CP Tryz.prog 65 [(.sl 5 (List.map A9 s1)),(.sl 5 (List.map A9 s2)),(.func (.func 66) [] [])] (Fo s1 s2) (fun(x:Bool)=>(AV.bool x)):=by
 refine Cd (n:=32) 2 Tryz.func65 J (by decide) J J fun h0 ids hI=>Bn (Al (Fo.eq_1 _ _) ?_)
 refine Y<|O<|Aa (.bool false) J Ai<|Z<|Y<|Y<|O ?_
 refine Aa (.sl 5 (List.map A9 s1)) J Ad<|Aa (.I (s1.length:Int)) J (A2 (Bk J1))<|Aa (.sl 5 (List.map A9 s2)) J Ad<|Aa (.I (s2.length:Int)) J (A2 (Bk J1))<|Aa (.bool ((s1.length:Int) != (s2.length:Int))) J (Bh J J J)<|Z<|Bx J (fun hc=>?_) (fun hc=>?_)
 ·refine Y<|O<|Aa (.bool false) J Ai<|Z<|Bl (a:=false) (vs:=[(.bool false)]) Tryz.func65 hI J (.same _)
 refine Ax<|Y<|Y<|O<|Aa (.sl 5 (List.map A9 s1)) J Ad<|Aa (.I (s1.length:Int)) J (A2 (Bk J1))<|Aa (.I 0) J Ad ?_
 refine Z<|Ba<|D6 [(1,(.sl 5 (List.map A9 s2))),(2,(.func (.func 66) [] [])),(15,(.sl 5 (List.map A9 s1))),(16,(.I (s1.length:Int))),(17,(.I 0))] (FI J)<|Eo (P:=Tryz.prog) s1 (fun j a=>fun _=>Ei s2 j a) ((Dz (fun _=>.ok true) (fun r=>.ok r)):(Unit ⊕ Bool)→R Bool) (fun j=>fun _=>fun(fr:Nat→AV) (h:Ag)=>fr=A5 [(1,(.sl 5 (List.map A9 s2))),(2,(.func (.func 66) [] [])),(15,(.sl 5 (List.map A9 s1))),(16,(.I (s1.length:Int))),(17,(.I (j:Int)))]∧h=hp h0 ids [none,none]) () ?_ ?_ ?_
 ·exact⟨J,J⟩
 ·rintro j a ha W hW _ fr h ⟨rfl,rfl⟩
  refine Al (m':=Ei s2 j a) J (Al (Ei.eq_1 _ _ _) ?_)
  refine Y<|O<|Aa (.bool (decide ((j:Int)<(s1.length:Int)))) J (Bh J J J)<|Z<|Y<|Ev (t:=15) (L:=s1) J fun hlim=>Dg J (Int.ofNat_lt.2 (Bg ha)) ?_
  refine Ax<|Y<|Ba<|Y<|O<|Aa (.I (j:Int)) J Ad<|Aa (.cp (A9 a) 0) J (Bz (Ea J1 Gn J ha)) ?_
  refine Aa (.agg (A9 a)) J (Au (C7 Gn J))<|A8 (j:=0) hI J J J J Gn J fun g=>Aa (.I (j:Int)) J Ai<|An (Aq (v:=(.agg (A9 a))) hI J J J J Gn J J J J J)<|Z<|Aj ?_
  refine Y<|O<|Ab 2 [] [(23,(.I (j:Int))),(22,(.sl 5 (List.map A9 s2)))] ?_
  refine Dv fun a1 hz hx1=>Aa (.cp (A9 a1) 0) J (Bz (Dc J1 Gn J hz hx1))<|Aa (.agg (A9 a1)) J (Au (C7 Gn J))<|A8 (j:=1) hI J J J J Gn J fun g1=>An (Aq (v:=(.agg (A9 a1))) hI J J J J Gn J J J J J)<|Z<|Aj ?_
  refine Y<|O<|Ab 3 [0,1] [(28,(.agg (A9 a1))),(27,(.agg (A9 a))),(26,(.func (.func 66) [] []))] ?_
  refine A7 [(.agg (A9 a)),(.agg (A9 a1))] J J J J ((Abq a a1) _) (fun v _=>B0 Tryz.func65 hI) fun r _=>Aa (.bool (!r)) J (Oa J)<|Z<|D2 J (fun hc1=>?_) (fun hc1=>?_)
  ·refine Ax<|Bi<|O<|Ab 2 [] [(17,(.I (IntKind.wrap .i64 ((j:Int)+1))))] ?_
   refine Z<|Eb [none,none] hI J (.drop (.drop .nil))<|Bo (E8 (hW () _ _ ⟨J,J⟩)) (.cons J (.cons J (.cons J (.cons J (.cons (Eg (Bg ha) hlim) .nil)))))
  refine Y<|O<|Aa (.bool false) J Ai<|Z<|E7<|Fh<|Bl (a:=false) (vs:=[(.bool false)]) Tryz.func65 hI J (.same _)
 rintro _ fr h ⟨rfl,rfl⟩
 refine Al (Fb _ _ _)<|Y<|O<|Aa (.bool (decide ((s1.length:Int)<(s1.length:Int)))) J (Bh J J J)<|Z<|Y<|Df J (Int.lt_irrefl _) ?_
 refine Cy J<|Y<|O<|Aa (.bool true) J Ai<|Z<|Bl (a:=true) (vs:=[(.bool true)]) Tryz.func65 hI J (.same _)
theorem Abv (a:Config)(y:Config):CP Tryz.prog 70 [(.agg (Bj a)),(.agg (Bj y))] (Ue a y) (fun(x:Bool)=>(AV.bool x)):=by
 refine Cd (n:=24) 2 Tryz.func70 J (by decide) J J fun h0 ids hI=>Bn (Al (Ue.eq_1 _ _) ?_)
 refine Y<|O<|Cl (v:=(.agg (Bj a))) (j:=0) hI J J J J J J J fun g=>Cl (v:=(.agg (Bj y))) (j:=1) hI J J J J J J J fun g1=>Aa (.bool false) J Ai<|Z<|Aj ?_
 refine Y<|O<|Ab 6 [0,1] [(10,(.bool (a.Name==y.Name)))] ?_
 refine Cz 6 ((fun(b:Bool)=>(if b then(Ij a.Sectors y.Sectors).bind fun r1=>R.ok r1 else R.ok false).bind (fun(b1:Bool)=>.ok b1)):Bool→R Bool) (fun(b:Bool) (fr:Nat→AV) (h:Ag)=>fr=A5 [(2,(.q ids 0 g)),(3,(.q ids 1 g1)),(16,(.bool b))]∧h=hp h0 ids [(some (.rows g 3 [(Bj a)])),(some (.rows g1 3 [(Bj y)]))]) ?_ fun hJ=>Dd (fun hb1=>?_) (fun hb1=>?_)
 ·rintro b fr h ⟨rfl,rfl⟩
  refine Aa (.bool b) J Ad<|Cz 6 ((fun(b1:Bool)=>.ok b1):Bool→R Bool) (fun(b1:Bool) (fr:Nat→AV) (h:Ag)=>fr=A5 [(23,(.bool b1))]∧h=hp h0 ids [(some (.rows g 3 [(Bj a)])),(some (.rows g1 3 [(Bj y)]))]) ?_ fun hJ1=>Dd (fun hb3=>?_) (fun hb3=>?_)
  ·rintro b1 fr h ⟨rfl,rfl⟩
   refine Aa (.bool b1) J Ai<|Z<|Bl (a:=b1) (vs:=[(.bool b1)]) Tryz.func70 hI J (.same _)
  ·refine Az (t:=17) hb3 J<|Ab 4 [0,1] [(21,(.sl 1 (List.map (rI .i64) y.Sectors))),(19,(.sl 1 (List.map (rI .i64) a.Sectors)))] ?_
   refine A7 [(.sl 1 (List.map (rI .i64) a.Sectors)),(.sl 1 (List.map (rI .i64) y.Sectors))] J (Cq (tj:=17) J J) J J ((Q7 a.Sectors y.Sectors) _) (fun v _=>B0 Tryz.func70 hI) fun r1 _=>Aa (.bool r1) J (Et (t:=true) J J)<|Bd<|B5 [(23,(.bool r1))] (FI J)<|hJ1 r1 _ _ ⟨J,J⟩
  refine Az (t:=17) hb3 J<|Ab 6 [] [(23,(.bool false))] ?_
  refine Bd<|B5 [(23,(.bool false))] (FI J)<|hJ1 false _ _ ⟨J,J⟩
 ·refine Az (t:=10) hb1 J<|Ab 4 [0,1] [(14,(.sl 1 (List.map rS y.Names))),(12,(.sl 1 (List.map rS a.Names)))] ?_
  refine A7 [(.sl 1 (List.map rS a.Names)),(.sl 1 (List.map rS y.Names))] J (Cq (tj:=10) J J) J J ((O8 a.Names y.Names) _) (fun v _=>B0 Tryz.func70 hI) fun r _=>Aa (.bool r) J (Et (t:=true) J J)<|Bd<|B5 [(2,(.q ids 0 g)),(3,(.q ids 1 g1)),(16,(.bool r))] (FI J)<|hJ r _ _ ⟨J,J⟩
 refine Az (t:=10) hb1 J<|Ab 6 [] [(16,(.bool false))] ?_
 refine Bd<|B5 [(2,(.q ids 0 g)),(3,(.q ids 1 g1)),(16,(.bool false))] (FI J)<|hJ false _ _ ⟨J,J⟩
theorem My (s1:List Config)(s2:List Config):CP Tryz.prog 69 [(.sl 3 (List.map Bj s1)),(.sl 3 (List.map Bj s2)),(.func (.func 70) [] [])] (Em s1 s2) (fun(x:Bool)=>(AV.bool x)):=by
 refine Cd (n:=32) 2 Tryz.func69 J (by decide) J J fun h0 ids hI=>Bn (Al (Em.eq_1 _ _) ?_)
 refine Y<|O<|Aa (.bool false) J Ai<|Z<|Y<|Y<|O ?_
 refine Aa (.sl 3 (List.map Bj s1)) J Ad<|Aa (.I (s1.length:Int)) J (A2 (Bk L1))<|Aa (.sl 3 (List.map Bj s2)) J Ad<|Aa (.I (s2.length:Int)) J (A2 (Bk L1))<|Aa (.bool ((s1.length:Int) != (s2.length:Int))) J (Bh J J J)<|Z<|Bx J (fun hc=>?_) (fun hc=>?_)
 ·refine Y<|O<|Aa (.bool false) J Ai<|Z<|Bl (a:=false) (vs:=[(.bool false)]) Tryz.func69 hI J (.same _)
 refine Ax<|Y<|Y<|O<|Aa (.sl 3 (List.map Bj s1)) J Ad<|Aa (.I (s1.length:Int)) J (A2 (Bk L1))<|Aa (.I 0) J Ad ?_
 refine Z<|Ba<|D6 [(1,(.sl 3 (List.map Bj s2))),(2,(.func (.func 70) [] [])),(15,(.sl 3 (List.map Bj s1))),(16,(.I (s1.length:Int))),(17,(.I 0))] (FI J)<|Eo (P:=Tryz.prog) s1 (fun j a=>fun _=>Eh s2 j a) ((Dz (fun _=>.ok true) (fun r=>.ok r)):(Unit ⊕ Bool)→R Bool) (fun j=>fun _=>fun(fr:Nat→AV) (h:Ag)=>fr=A5 [(1,(.sl 3 (List.map Bj s2))),(2,(.func (.func 70) [] [])),(15,(.sl 3 (List.map Bj s1))),(16,(.I (s1.length:Int))),(17,(.I (j:Int)))]∧h=hp h0 ids [none,none]) () ?_ ?_ ?_
 ·exact⟨J,J⟩
 ·rintro j a ha W hW _ fr h ⟨rfl,rfl⟩
  refine Al (m':=Eh s2 j a) J (Al (Eh.eq_1 _ _ _) ?_)
  refine Y<|O<|Aa (.bool (decide ((j:Int)<(s1.length:Int)))) J (Bh J J J)<|Z<|Y<|Ev (t:=15) (L:=s1) J fun hlim=>Dg J (Int.ofNat_lt.2 (Bg ha)) ?_
  refine Ax<|Y<|Ba<|Y<|O<|Aa (.I (j:Int)) J Ad<|Aa (.cp (Bj a) 0) J (Bz (Ea L1 Kg J ha)) ?_
  refine Aa (.agg (Bj a)) J (Au (C7 Kg J))<|A8 (j:=0) hI J J J J Kg J fun g=>Aa (.I (j:Int)) J Ai<|An (Aq (v:=(.agg (Bj a))) hI J J J J Kg J J J J J)<|Z<|Aj ?_
  refine Y<|O<|Ab 2 [] [(23,(.I (j:Int))),(22,(.sl 3 (List.map Bj s2)))] ?_
  refine Dv fun a1 hz hx1=>Aa (.cp (Bj a1) 0) J (Bz (Dc L1 Kg J hz hx1))<|Aa (.agg (Bj a1)) J (Au (C7 Kg J))<|A8 (j:=1) hI J J J J Kg J fun g1=>An (Aq (v:=(.agg (Bj a1))) hI J J J J Kg J J J J J)<|Z<|Aj ?_
  refine Y<|O<|Ab 3 [0,1] [(28,(.agg (Bj a1))),(27,(.agg (Bj a))),(26,(.func (.func 70) [] []))] ?_
  refine A7 [(.agg (Bj a)),(.agg (Bj a1))] J J J J ((Abv a a1) _) (fun v _=>B0 Tryz.func69 hI) fun r _=>Aa (.bool (!r)) J (Oa J)<|Z<|D2 J (fun hc1=>?_) (fun hc1=>?_)
  ·refine Ax<|Bi<|O<|Ab 2 [] [(17,(.I (IntKind.wrap .i64 ((j:Int)+1))))] ?_
   refine Z<|Eb [none,none] hI J (.drop (.drop .nil))<|Bo (E8 (hW () _ _ ⟨J,J⟩)) (.cons J (.cons J (.cons J (.cons J (.cons (Eg (Bg ha) hlim) .nil)))))
  refine Y<|O<|Aa (.bool false) J Ai<|Z<|E7<|Fh<|Bl (a:=false) (vs:=[(.bool false)]) Tryz.func69 hI J (.same _)
 rintro _ fr h ⟨rfl,rfl⟩
 refine Al (Fb _ _ _)<|Y<|O<|Aa (.bool (decide ((s1.length:Int)<(s1.length:Int)))) J (Bh J J J)<|Z<|Y<|Df J (Int.lt_irrefl _) ?_
 refine Cy J<|Y<|O<|Aa (.bool true) J Ai<|Z<|Bl (a:=true) (vs:=[(.bool true)]) Tryz.func69 hI J (.same _)
theorem Abu (a:Segment)(y:Segment):CP Tryz.prog 72 [(.agg (Be a)),(.agg (Be y))] (Uk a y) (fun(x:Bool)=>(AV.bool x)):=by
 refine Cd (n:=38) 2 Tryz.func72 J (by decide) J J fun h0 ids hI=>Bn (Al (Uk.eq_1 _ _) ?_)
 refine Y<|O<|Cl (v:=(.agg (Be a))) (j:=0) hI J J J J J J J fun g=>Cl (v:=(.agg (Be y))) (j:=1) hI J J J J J J J fun g1=>Aa (.bool false) J Ai<|Z<|Aj ?_
 refine Y<|O<|Ab 6 [0,1] [(10,(.bool (a.Name==y.Name)))] ?_
 refine B2 6 [(2,(.q ids 0 g)),(3,(.q ids 1 g1)),(16,(.bool ((a.Name==y.Name)&&(a.In==y.In))))] ?_ fun hJ=>Bw (a.Name==y.Name) (fun hb1=>?_) (fun hb1=>?_)
 ·refine Aa (.bool ((a.Name==y.Name)&&(a.In==y.In))) J Ad<|B2 6 [(2,(.q ids 0 g)),(3,(.q ids 1 g1)),(23,(.bool (((a.Name==y.Name)&&(a.In==y.In))&&(a.Volume==y.Volume))))] ?_ fun hJ1=>Bw ((a.Name==y.Name)&&(a.In==y.In)) (fun hb3=>?_) (fun hb3=>?_)
  ·refine Aa (.bool (((a.Name==y.Name)&&(a.In==y.In))&&(a.Volume==y.Volume))) J Ad<|B2 6 [(2,(.q ids 0 g)),(3,(.q ids 1 g1)),(30,(.bool ((((a.Name==y.Name)&&(a.In==y.In))&&(a.Volume==y.Volume))&&(a.Length==y.Length))))] ?_ fun hJ2=>Bw (((a.Name==y.Name)&&(a.In==y.In))&&(a.Volume==y.Volume)) (fun hb5=>?_) (fun hb5=>?_)
   ·refine Aa (.bool ((((a.Name==y.Name)&&(a.In==y.In))&&(a.Volume==y.Volume))&&(a.Length==y.Length))) J Ad<|Cz 6 ((fun(b:Bool)=>.ok b):Bool→R Bool) (fun(b:Bool) (fr:Nat→AV) (h:Ag)=>fr=A5 [(37,(.bool b))]∧h=hp h0 ids [(some (.rows g 5 [(Be a)])),(some (.rows g1 5 [(Be y)]))]) ?_ fun hJ3=>Dd (fun hb7=>?_) (fun hb7=>?_)
    ·rintro b fr h ⟨rfl,rfl⟩
     refine Aa (.bool b) J Ai<|Z<|Bl (a:=b) (vs:=[(.bool b)]) Tryz.func72 hI J (.same _)
    ·refine Az (t:=31) hb7 J<|Ab 4 [0,1] [(35,(.sl 2 (List.map B7 y.Open))),(33,(.sl 2 (List.map B7 a.Open)))] ?_
     refine A7 [(.sl 2 (List.map B7 a.Open)),(.sl 2 (List.map B7 y.Open))] J (Cq (tj:=31) J J) J J ((Ti a.Open y.Open) _) (fun v _=>B0 Tryz.func72 hI) fun r _=>Aa (.bool r) J (Et (t:=true) J J)<|Bd<|B5 [(37,(.bool r))] (FI J)<|hJ3 r _ _ ⟨J,J⟩
    refine Az (t:=31) hb7 J<|Ab 6 [] [(37,(.bool false))] ?_
    refine Bd<|B5 [(37,(.bool false))] (FI J)<|hJ3 false _ _ ⟨J,J⟩
   ·refine Az (t:=24) hb5 J<|Ab 6 [0,1] [(30,(.bool (a.Length==y.Length)))] ?_
    exact Bf hJ2 (.cons J (.cons J (.cons (Hk hb5) .nil)))
   refine Az (t:=24) hb5 J<|Ab 6 [] [(30,(.bool false))] ?_
   exact Bf hJ2 (.cons J (.cons J (.cons (Hl hb5) .nil)))
  ·refine Az (t:=17) hb3 J<|Ab 6 [0,1] [(23,(.bool (a.Volume==y.Volume)))] ?_
   exact Bf hJ1 (.cons J (.cons J (.cons (Hk hb3) .nil)))
  refine Az (t:=17) hb3 J<|Ab 6 [] [(23,(.bool false))] ?_
  exact Bf hJ1 (.cons J (.cons J (.cons (Hl hb3) .nil)))
 ·refine Az (t:=10) hb1 J<|Ab 6 [0,1] [(16,(.bool (a.In==y.In)))] ?_
  exact Bf hJ (.cons J (.cons J (.cons (Hk hb1) .nil)))
 refine Az (t:=10) hb1 J<|Ab 6 [] [(16,(.bool false))] ?_
 exact Bf hJ (.cons J (.cons J (.cons (Hl hb1) .nil)))
theorem L3 (s1:List Segment)(s2:List Segment):CP Tryz.prog 71 [(.sl 5 (List.map Be s1)),(.sl 5 (List.map Be s2)),(.func (.func 72) [] [])] (Du s1 s2) (fun(x:Bool)=>(AV.bool x)):=by
 refine Cd (n:=32) 2 Tryz.func71 J (by decide) J J fun h0 ids hI=>Bn (Al (Du.eq_1 _ _) ?_)
 refine Y<|O<|Aa (.bool false) J Ai<|Z<|Y<|Y<|O ?_
 refine Aa (.sl 5 (List.map Be s1)) J Ad<|Aa (.I (s1.length:Int)) J (A2 (Bk L0))<|Aa (.sl 5 (List.map Be s2)) J Ad<|Aa (.I (s2.length:Int)) J (A2 (Bk L0))<|Aa (.bool ((s1.length:Int) != (s2.length:Int))) J (Bh J J J)<|Z<|Bx J (fun hc=>?_) (fun hc=>?_)
 ·refine Y<|O<|Aa (.bool false) J Ai<|Z<|Bl (a:=false) (vs:=[(.bool false)]) Tryz.func71 hI J (.same _)
 refine Ax<|Y<|Y<|O<|Aa (.sl 5 (List.map Be s1)) J Ad<|Aa (.I (s1.length:Int)) J (A2 (Bk L0))<|Aa (.I 0) J Ad ?_
 refine Z<|Ba<|D6 [(1,(.sl 5 (List.map Be s2))),(2,(.func (.func 72) [] [])),(15,(.sl 5 (List.map Be s1))),(16,(.I (s1.length:Int))),(17,(.I 0))] (FI J)<|Eo (P:=Tryz.prog) s1 (fun j a=>fun _=>Ed s2 j a) ((Dz (fun _=>.ok true) (fun r=>.ok r)):(Unit ⊕ Bool)→R Bool) (fun j=>fun _=>fun(fr:Nat→AV) (h:Ag)=>fr=A5 [(1,(.sl 5 (List.map Be s2))),(2,(.func (.func 72) [] [])),(15,(.sl 5 (List.map Be s1))),(16,(.I (s1.length:Int))),(17,(.I (j:Int)))]∧h=hp h0 ids [none,none]) () ?_ ?_ ?_
 ·exact⟨J,J⟩
 ·rintro j a ha W hW _ fr h ⟨rfl,rfl⟩
  refine Al (m':=Ed s2 j a) J (Al (Ed.eq_1 _ _ _) ?_)
  refine Y<|O<|Aa (.bool (decide ((j:Int)<(s1.length:Int)))) J (Bh J J J)<|Z<|Y<|Ev (t:=15) (L:=s1) J fun hlim=>Dg J (Int.ofNat_lt.2 (Bg ha)) ?_
  refine Ax<|Y<|Ba<|Y<|O<|Aa (.I (j:Int)) J Ad<|Aa (.cp (Be a) 0) J (Bz (Ea L0 H0 J ha)) ?_
  refine Aa (.agg (Be a)) J (Au (C7 H0 J))<|A8 (j:=0) hI J J J J H0 J fun g=>Aa (.I (j:Int)) J Ai<|An (Aq (v:=(.agg (Be a))) hI J J J J H0 J J J J J)<|Z<|Aj ?_
  refine Y<|O<|Ab 2 [] [(23,(.I (j:Int))),(22,(.sl 5 (List.map Be s2)))] ?_
  refine Dv fun a1 hz hx1=>Aa (.cp (Be a1) 0) J (Bz (Dc L0 H0 J hz hx1))<|Aa (.agg (Be a1)) J (Au (C7 H0 J))<|A8 (j:=1) hI J J J J H0 J fun g1=>An (Aq (v:=(.agg (Be a1))) hI J J J J H0 J J J J J)<|Z<|Aj ?_
  refine Y<|O<|Ab 3 [0,1] [(28,(.agg (Be a1))),(27,(.agg (Be a))),(26,(.func (.func 72) [] []))] ?_
  refine A7 [(.agg (Be a)),(.agg (Be a1))] J J J J ((Abu a a1) _) (fun v _=>B0 Tryz.func71 hI) fun r _=>Aa (.bool (!r)) J (Oa J)<|Z<|D2 J (fun hc1=>?_) (fun hc1=>?_)
  ·refine Ax<|Bi<|O<|Ab 2 [] [(17,(.I (IntKind.wrap .i64 ((j:Int)+1))))] ?_
   refine Z<|Eb [none,none] hI J (.drop (.drop .nil))<|Bo (E8 (hW () _ _ ⟨J,J⟩)) (.cons J (.cons J (.cons J (.cons J (.cons (Eg (Bg ha) hlim) .nil)))))
  refine Y<|O<|Aa (.bool false) J Ai<|Z<|E7<|Fh<|Bl (a:=false) (vs:=[(.bool false)]) Tryz.func71 hI J (.same _)
 rintro _ fr h ⟨rfl,rfl⟩
 refine Al (Fb _ _ _)<|Y<|O<|Aa (.bool (decide ((s1.length:Int)<(s1.length:Int)))) J (Bh J J J)<|Z<|Y<|Df J (Int.lt_irrefl _) ?_
 refine Cy J<|Y<|O<|Aa (.bool true) J Ai<|Z<|Bl (a:=true) (vs:=[(.bool true)]) Tryz.func71 hI J (.same _)
theorem Abt (a:Route)(y:Route):CP Tryz.prog 74 [(.agg (Bu a)),(.agg (Bu y))] (Uj a y) (fun(x:Bool)=>(AV.bool x)):=by
 refine Cd (n:=52) 2 Tryz.func74 J (by decide) J J fun h0 ids hI=>Bn (Al (Uj.eq_1 _ _) ?_)
 refine Y<|O<|Cl (v:=(.agg (Bu a))) (j:=0) hI J J J J J J J fun g=>Cl (v:=(.agg (Bu y))) (j:=1) hI J J J J J J J fun g1=>Aa (.bool false) J Ai<|Z<|Aj ?_
 refine Y<|O<|Ab 6 [0,1] [(10,(.bool (a.Name==y.Name)))] ?_
 refine B2 6 [(2,(.q ids 0 g)),(3,(.q ids 1 g1)),(16,(.bool ((a.Name==y.Name)&&(a.A==y.A))))] ?_ fun hJ=>Bw (a.Name==y.Name) (fun hb1=>?_) (fun hb1=>?_)
 ·refine Aa (.bool ((a.Name==y.Name)&&(a.A==y.A))) J Ad<|B2 6 [(2,(.q ids 0 g)),(3,(.q ids 1 g1)),(23,(.bool (((a.Name==y.Name)&&(a.A==y.A))&&(a.B==y.B))))] ?_ fun hJ1=>Bw ((a.Name==y.Name)&&(a.A==y.A)) (fun hb3=>?_) (fun hb3=>?_)
  ·refine Aa (.bool (((a.Name==y.Name)&&(a.A==y.A))&&(a.B==y.B))) J Ad<|B2 6 [(2,(.q ids 0 g)),(3,(.q ids 1 g1)),(30,(.bool ((((a.Name==y.Name)&&(a.A==y.A))&&(a.B==y.B))&&(a.From==y.From))))] ?_ fun hJ2=>Bw (((a.Name==y.Name)&&(a.A==y.A))&&(a.B==y.B)) (fun hb5=>?_) (fun hb5=>?_)
   ·refine Aa (.bool ((((a.Name==y.Name)&&(a.A==y.A))&&(a.B==y.B))&&(a.From==y.From))) J Ad<|B2 6 [(2,(.q ids 0 g)),(3,(.q ids 1 g1)),(37,(.bool (((((a.Name==y.Name)&&(a.A==y.A))&&(a.B==y.B))&&(a.From==y.From))&&(a.To==y.To))))] ?_ fun hJ3=>Bw ((((a.Name==y.Name)&&(a.A==y.A))&&(a.B==y.B))&&(a.From==y.From)) (fun hb7=>?_) (fun hb7=>?_)
    ·refine Aa (.bool (((((a.Name==y.Name)&&(a.A==y.A))&&(a.B==y.B))&&(a.From==y.From))&&(a.To==y.To))) J Ad<|Cz 6 ((fun(b:Bool)=>(if b then(Ij a.Segments y.Segments).bind fun r1=>R.ok r1 else R.ok false).bind (fun(b1:Bool)=>.ok b1)):Bool→R Bool) (fun(b:Bool) (fr:Nat→AV) (h:Ag)=>fr=A5 [(2,(.q ids 0 g)),(3,(.q ids 1 g1)),(44,(.bool b))]∧h=hp h0 ids [(some (.rows g 7 [(Bu a)])),(some (.rows g1 7 [(Bu y)]))]) ?_ fun hJ4=>Dd (fun hb9=>?_) (fun hb9=>?_)
     ·rintro b fr h ⟨rfl,rfl⟩
      refine Aa (.bool b) J Ad<|Cz 6 ((fun(b1:Bool)=>.ok b1):Bool→R Bool) (fun(b1:Bool) (fr:Nat→AV) (h:Ag)=>fr=A5 [(51,(.bool b1))]∧h=hp h0 ids [(some (.rows g 7 [(Bu a)])),(some (.rows g1 7 [(Bu y)]))]) ?_ fun hJ5=>Dd (fun hb11=>?_) (fun hb11=>?_)
      ·rintro b1 fr h ⟨rfl,rfl⟩
       refine Aa (.bool b1) J Ai<|Z<|Bl (a:=b1) (vs:=[(.bool b1)]) Tryz.func74 hI J (.same _)
      ·refine Az (t:=45) hb11 J<|Ab 4 [0,1] [(49,(.sl 1 (List.map (rI .i64) y.Segments))),(47,(.sl 1 (List.map (rI .i64) a.Segments)))] ?_
       refine A7 [(.sl 1 (List.map (rI .i64) a.Segments)),(.sl 1 (List.map (rI .i64) y.Segments))] J (Cq (tj:=45) J J) J J ((Q7 a.Segments y.Segments) _) (fun v _=>B0 Tryz.func74 hI) fun r1 _=>Aa (.bool r1) J (Et (t:=true) J J)<|Bd<|B5 [(51,(.bool r1))] (FI J)<|hJ5 r1 _ _ ⟨J,J⟩
      refine Az (t:=45) hb11 J<|Ab 6 [] [(51,(.bool false))] ?_
      refine Bd<|B5 [(51,(.bool false))] (FI J)<|hJ5 false _ _ ⟨J,J⟩
     ·refine Az (t:=38) hb9 J<|Ab 4 [0,1] [(42,(.sl 1 (List.map rS y.Names))),(40,(.sl 1 (List.map rS a.Names)))] ?_
      refine A7 [(.sl 1 (List.map rS a.Names)),(.sl 1 (List.map rS y.Names))] J (Cq (tj:=38) J J) J J ((O8 a.Names y.Names) _) (fun v _=>B0 Tryz.func74 hI) fun r _=>Aa (.bool r) J (Et (t:=true) J J)<|Bd<|B5 [(2,(.q ids 0 g)),(3,(.q ids 1 g1)),(44,(.bool r))] (FI J)<|hJ4 r _ _ ⟨J,J⟩
     refine Az (t:=38) hb9 J<|Ab 6 [] [(44,(.bool false))] ?_
     refine Bd<|B5 [(2,(.q ids 0 g)),(3,(.q ids 1 g1)),(44,(.bool false))] (FI J)<|hJ4 false _ _ ⟨J,J⟩
    ·refine Az (t:=31) hb7 J<|Ab 6 [0,1] [(37,(.bool (a.To==y.To)))] ?_
     exact Bf hJ3 (.cons J (.cons J (.cons (Hk hb7) .nil)))
    refine Az (t:=31) hb7 J<|Ab 6 [] [(37,(.bool false))] ?_
    exact Bf hJ3 (.cons J (.cons J (.cons (Hl hb7) .nil)))
   ·refine Az (t:=24) hb5 J<|Ab 6 [0,1] [(30,(.bool (a.From==y.From)))] ?_
    exact Bf hJ2 (.cons J (.cons J (.cons (Hk hb5) .nil)))
   refine Az (t:=24) hb5 J<|Ab 6 [] [(30,(.bool false))] ?_
   exact Bf hJ2 (.cons J (.cons J (.cons (Hl hb5) .nil)))
  ·refine Az (t:=17) hb3 J<|Ab 6 [0,1] [(23,(.bool (a.B==y.B)))] ?_
   exact Bf hJ1 (.cons J (.cons J (.cons (Hk hb3) .nil)))
  refine Az (t:=17) hb3 J<|Ab 6 [] [(23,(.bool false))] ?_
  exact Bf hJ1 (.cons J (.cons J (.cons (Hl hb3) .nil)))
 ·refine Az (t:=10) hb1 J<|Ab 6 [0,1] [(16,(.bool (a.A==y.A)))] ?_
  exact Bf hJ (.cons J (.cons J (.cons (Hk hb1) .nil)))
 refine Az (t:=10) hb1 J<|Ab 6 [] [(16,(.bool false))] ?_
 exact Bf hJ (.cons J (.cons J (.cons (Hl hb1) .nil)))
theorem Nx (s1:List Route)(s2:List Route):CP Tryz.prog 73 [(.sl 7 (List.map Bu s1)),(.sl 7 (List.map Bu s2)),(.func (.func 74) [] [])] (Dn s1 s2) (fun(x:Bool)=>(AV.bool x)):=by
 refine Cd (n:=32) 2 Tryz.func73 J (by decide) J J fun h0 ids hI=>Bn (Al (Dn.eq_1 _ _) ?_)
 refine Y<|O<|Aa (.bool false) J Ai<|Z<|Y<|Y<|O ?_
 refine Aa (.sl 7 (List.map Bu s1)) J Ad<|Aa (.I (s1.length:Int)) J (A2 (Bk Ly))<|Aa (.sl 7 (List.map Bu s2)) J Ad<|Aa (.I (s2.length:Int)) J (A2 (Bk Ly))<|Aa (.bool ((s1.length:Int) != (s2.length:Int))) J (Bh J J J)<|Z<|Bx J (fun hc=>?_) (fun hc=>?_)
 ·refine Y<|O<|Aa (.bool false) J Ai<|Z<|Bl (a:=false) (vs:=[(.bool false)]) Tryz.func73 hI J (.same _)
 refine Ax<|Y<|Y<|O<|Aa (.sl 7 (List.map Bu s1)) J Ad<|Aa (.I (s1.length:Int)) J (A2 (Bk Ly))<|Aa (.I 0) J Ad ?_
 refine Z<|Ba<|D6 [(1,(.sl 7 (List.map Bu s2))),(2,(.func (.func 74) [] [])),(15,(.sl 7 (List.map Bu s1))),(16,(.I (s1.length:Int))),(17,(.I 0))] (FI J)<|Eo (P:=Tryz.prog) s1 (fun j a=>fun _=>El s2 j a) ((Dz (fun _=>.ok true) (fun r=>.ok r)):(Unit ⊕ Bool)→R Bool) (fun j=>fun _=>fun(fr:Nat→AV) (h:Ag)=>fr=A5 [(1,(.sl 7 (List.map Bu s2))),(2,(.func (.func 74) [] [])),(15,(.sl 7 (List.map Bu s1))),(16,(.I (s1.length:Int))),(17,(.I (j:Int)))]∧h=hp h0 ids [none,none]) () ?_ ?_ ?_
 ·exact⟨J,J⟩
 ·rintro j a ha W hW _ fr h ⟨rfl,rfl⟩
  refine Al (m':=El s2 j a) J (Al (El.eq_1 _ _ _) ?_)
  refine Y<|O<|Aa (.bool (decide ((j:Int)<(s1.length:Int)))) J (Bh J J J)<|Z<|Y<|Ev (t:=15) (L:=s1) J fun hlim=>Dg J (Int.ofNat_lt.2 (Bg ha)) ?_
  refine Ax<|Y<|Ba<|Y<|O<|Aa (.I (j:Int)) J Ad<|Aa (.cp (Bu a) 0) J (Bz (Ea Ly Hx J ha)) ?_
  refine Aa (.agg (Bu a)) J (Au (C7 Hx J))<|A8 (j:=0) hI J J J J Hx J fun g=>Aa (.I (j:Int)) J Ai<|An (Aq (v:=(.agg (Bu a))) hI J J J J Hx J J J J J)<|Z<|Aj ?_
  refine Y<|O<|Ab 2 [] [(23,(.I (j:Int))),(22,(.sl 7 (List.map Bu s2)))] ?_
  refine Dv fun a1 hz hx1=>Aa (.cp (Bu a1) 0) J (Bz (Dc Ly Hx J hz hx1))<|Aa (.agg (Bu a1)) J (Au (C7 Hx J))<|A8 (j:=1) hI J J J J Hx J fun g1=>An (Aq (v:=(.agg (Bu a1))) hI J J J J Hx J J J J J)<|Z<|Aj ?_
  refine Y<|O<|Ab 3 [0,1] [(28,(.agg (Bu a1))),(27,(.agg (Bu a))),(26,(.func (.func 74) [] []))] ?_
  refine A7 [(.agg (Bu a)),(.agg (Bu a1))] J J J J ((Abt a a1) _) (fun v _=>B0 Tryz.func73 hI) fun r _=>Aa (.bool (!r)) J (Oa J)<|Z<|D2 J (fun hc1=>?_) (fun hc1=>?_)
  ·refine Ax<|Bi<|O<|Ab 2 [] [(17,(.I (IntKind.wrap .i64 ((j:Int)+1))))] ?_
   refine Z<|Eb [none,none] hI J (.drop (.drop .nil))<|Bo (E8 (hW () _ _ ⟨J,J⟩)) (.cons J (.cons J (.cons J (.cons J (.cons (Eg (Bg ha) hlim) .nil)))))
  refine Y<|O<|Aa (.bool false) J Ai<|Z<|E7<|Fh<|Bl (a:=false) (vs:=[(.bool false)]) Tryz.func73 hI J (.same _)
 rintro _ fr h ⟨rfl,rfl⟩
 refine Al (Fb _ _ _)<|Y<|O<|Aa (.bool (decide ((s1.length:Int)<(s1.length:Int)))) J (Bh J J J)<|Z<|Y<|Df J (Int.lt_irrefl _) ?_
 refine Cy J<|Y<|O<|Aa (.bool true) J Ai<|Z<|Bl (a:=true) (vs:=[(.bool true)]) Tryz.func73 hI J (.same _)
theorem Zc (s1:List Mode)(s2:List Mode):CP Tryz.prog 77 [(.sl 2 (List.map Dy s1)),(.sl 2 (List.map Dy s2))] (Se s1 s2) (fun(x:Bool)=>(AV.bool x)):=by
 refine Cd (n:=26) 0 Tryz.func77 J (by decide) J J fun h0 ids hI=>Bn (Al (Se.eq_1 _ _) ?_)
 refine Y<|O<|Aa (.bool false) J Ai<|Z<|Y<|Y<|O ?_
 refine Aa (.sl 2 (List.map Dy s1)) J Ad<|Aa (.I (s1.length:Int)) J (A2 (Bk K8))<|Aa (.sl 2 (List.map Dy s2)) J Ad<|Aa (.I (s2.length:Int)) J (A2 (Bk K8))<|Aa (.bool ((s1.length:Int) != (s2.length:Int))) J (Bh J J J)<|Z<|Bx J (fun hc=>?_) (fun hc=>?_)
 ·refine Y<|O<|Aa (.bool false) J Ai<|Z<|Bl (a:=false) (vs:=[(.bool false)]) Tryz.func77 hI J (.same _)
 refine Ax<|Y<|Y<|O<|Aa (.sl 2 (List.map Dy s1)) J Ad<|Aa (.I (s1.length:Int)) J (A2 (Bk K8))<|Aa (.I 0) J Ad ?_
 refine Z<|Ba<|D6 [(0,(.sl 2 (List.map Dy s1))),(1,(.sl 2 (List.map Dy s2))),(12,(.I (s1.length:Int))),(13,(.I 0))] (FI J)<|Eo (P:=Tryz.prog) s1 (fun j a=>fun _=>Oc s2 j a) ((Dz (fun _=>.ok true) (fun r=>.ok r)):(Unit ⊕ Bool)→R Bool) (fun j=>fun _=>fun(fr:Nat→AV) (h:Ag)=>fr=A5 [(0,(.sl 2 (List.map Dy s1))),(1,(.sl 2 (List.map Dy s2))),(12,(.I (s1.length:Int))),(13,(.I (j:Int)))]∧h=hp h0 ids []) () ?_ ?_ ?_
 ·exact⟨J,J⟩
 ·rintro j a ha W hW _ fr h ⟨rfl,rfl⟩
  refine Al (m':=Oc s2 j a) J (Al (Oc.eq_1 _ _ _) ?_)
  refine Y<|O<|Aa (.bool (decide ((j:Int)<(s1.length:Int)))) J (Bh J J J)<|Z<|Y<|Ev (t:=0) (L:=s1) J fun hlim=>Dg J (Int.ofNat_lt.2 (Bg ha)) ?_
  refine Ax<|Y<|Ba<|Y<|O<|Ab 2 [] [(5,(.I (j:Int)))] ?_
  refine Z<|Y<|Ct Es [[],[],[0,1],[0,1,2],[],[],[4,5],[4,5,6],[0,1,2,3,4,5,6,7]] [(false,0),(false,1),(false,2),(false,3),(false,4),(false,5),(false,6),(false,7),(false,8)] (by kernel_rfl)<|Af (.sl 2 (List.map Dy s1)) J J Ad<|Af (.I (j:Int)) J J Ad<|Af (.cp (Dy a) 0) J J (Bz (Ea K8 Nv J ha))<|Af (.agg (Dy a)) J J (Au (C7 Nv J)) ?_
  refine Af (.sl 2 (List.map Dy s2)) J J Ad<|Af (.I (j:Int)) J J Ad<|Ny fun a1 hz hx1=>Af (.cp (Dy a1) 0) J J (Bz (Dc K8 Nv J hz hx1))<|Af (.agg (Dy a1)) J J (Au (C7 Nv J))<|Af (.bool (!((a.Name==a1.Name)&&(a.Places==a1.Places)))) J J (Bh (Akl J J) J Ajo)<|Ck ?_
  refine D2 J (fun hc1=>?_) (fun hc1=>?_)
  ·refine Ax<|Bi<|O<|Ab 2 [] [(13,(.I (IntKind.wrap .i64 ((j:Int)+1))))] ?_
   refine Z<|Bo (E8 (hW () _ _ ⟨J,J⟩)) (.cons J (.cons J (.cons J (.cons (Eg (Bg ha) hlim) .nil))))
  refine Y<|O<|Aa (.bool false) J Ai<|Z<|E7<|Fh<|Bl (a:=false) (vs:=[(.bool false)]) Tryz.func77 hI J (.same _)
 rintro _ fr h ⟨rfl,rfl⟩
 refine Al (Fb _ _ _)<|Y<|O<|Aa (.bool (decide ((s1.length:Int)<(s1.length:Int)))) J (Bh J J J)<|Z<|Y<|Df J (Int.lt_irrefl _) ?_
 refine Cy J<|Y<|O<|Aa (.bool true) J Ai<|Z<|Bl (a:=true) (vs:=[(.bool true)]) Tryz.func77 hI J (.same _)
theorem Abr (a:Airport)(y:Airport):CP Tryz.prog 76 [(.agg (Bb a)),(.agg (Bb y))] (Us a y) (fun(x:Bool)=>(AV.bool x)):=by
 refine Cd (n:=17) 2 Tryz.func76 J (by decide) J J fun h0 ids hI=>Bn (Al (Us.eq_1 _ _) ?_)
 refine Y<|O<|Cl (v:=(.agg (Bb a))) (j:=0) hI J J J J J J J fun g=>Cl (v:=(.agg (Bb y))) (j:=1) hI J J J J J J J fun g1=>Aa (.bool false) J Ai<|Z<|Aj ?_
 refine Y<|O<|Ab 6 [0,1] [(10,(.bool (a.Name==y.Name)))] ?_
 refine Cz 6 ((fun(b:Bool)=>.ok b):Bool→R Bool) (fun(b:Bool) (fr:Nat→AV) (h:Ag)=>fr=A5 [(16,(.bool b))]∧h=hp h0 ids [(some (.rows g 2 [(Bb a)])),(some (.rows g1 2 [(Bb y)]))]) ?_ fun hJ=>Dd (fun hb1=>?_) (fun hb1=>?_)
 ·rintro b fr h ⟨rfl,rfl⟩
  refine Aa (.bool b) J Ai<|Z<|Bl (a:=b) (vs:=[(.bool b)]) Tryz.func76 hI J (.same _)
 ·refine Az (t:=10) hb1 J<|Ab 4 [0,1] [(14,(.sl 2 (List.map Dy y.Modes))),(12,(.sl 2 (List.map Dy a.Modes)))] ?_
  refine A7 [(.sl 2 (List.map Dy a.Modes)),(.sl 2 (List.map Dy y.Modes))] J (Cq (tj:=10) J J) J J ((Zc a.Modes y.Modes) _) (fun v _=>B0 Tryz.func76 hI) fun r _=>Aa (.bool r) J (Et (t:=true) J J)<|Bd<|B5 [(16,(.bool r))] (FI J)<|hJ r _ _ ⟨J,J⟩
 refine Az (t:=10) hb1 J<|Ab 6 [] [(16,(.bool false))] ?_
 refine Bd<|B5 [(16,(.bool false))] (FI J)<|hJ false _ _ ⟨J,J⟩
theorem Lw (s1:List Airport)(s2:List Airport):CP Tryz.prog 75 [(.sl 2 (List.map Bb s1)),(.sl 2 (List.map Bb s2)),(.func (.func 76) [] [])] (Cv s1 s2) (fun(x:Bool)=>(AV.bool x)):=by
 refine Cd (n:=32) 2 Tryz.func75 J (by decide) J J fun h0 ids hI=>Bn (Al (Cv.eq_1 _ _) ?_)
 refine Y<|O<|Aa (.bool false) J Ai<|Z<|Y<|Y<|O ?_
 refine Aa (.sl 2 (List.map Bb s1)) J Ad<|Aa (.I (s1.length:Int)) J (A2 (Bk Lc))<|Aa (.sl 2 (List.map Bb s2)) J Ad<|Aa (.I (s2.length:Int)) J (A2 (Bk Lc))<|Aa (.bool ((s1.length:Int) != (s2.length:Int))) J (Bh J J J)<|Z<|Bx J (fun hc=>?_) (fun hc=>?_)
 ·refine Y<|O<|Aa (.bool false) J Ai<|Z<|Bl (a:=false) (vs:=[(.bool false)]) Tryz.func75 hI J (.same _)
 refine Ax<|Y<|Y<|O<|Aa (.sl 2 (List.map Bb s1)) J Ad<|Aa (.I (s1.length:Int)) J (A2 (Bk Lc))<|Aa (.I 0) J Ad ?_
 refine Z<|Ba<|D6 [(1,(.sl 2 (List.map Bb s2))),(2,(.func (.func 76) [] [])),(15,(.sl 2 (List.map Bb s1))),(16,(.I (s1.length:Int))),(17,(.I 0))] (FI J)<|Eo (P:=Tryz.prog) s1 (fun j a=>fun _=>Ec s2 j a) ((Dz (fun _=>.ok true) (fun r=>.ok r)):(Unit ⊕ Bool)→R Bool) (fun j=>fun _=>fun(fr:Nat→AV) (h:Ag)=>fr=A5 [(1,(.sl 2 (List.map Bb s2))),(2,(.func (.func 76) [] [])),(15,(.sl 2 (List.map Bb s1))),(16,(.I (s1.length:Int))),(17,(.I (j:Int)))]∧h=hp h0 ids [none,none]) () ?_ ?_ ?_
 ·exact⟨J,J⟩
 ·rintro j a ha W hW _ fr h ⟨rfl,rfl⟩
  refine Al (m':=Ec s2 j a) J (Al (Ec.eq_1 _ _ _) ?_)
  refine Y<|O<|Aa (.bool (decide ((j:Int)<(s1.length:Int)))) J (Bh J J J)<|Z<|Y<|Ev (t:=15) (L:=s1) J fun hlim=>Dg J (Int.ofNat_lt.2 (Bg ha)) ?_
  refine Ax<|Y<|Ba<|Y<|O<|Aa (.I (j:Int)) J Ad<|Aa (.cp (Bb a) 0) J (Bz (Ea Lc Ho J ha)) ?_
  refine Aa (.agg (Bb a)) J (Au (C7 Ho J))<|A8 (j:=0) hI J J J J Ho J fun g=>Aa (.I (j:Int)) J Ai<|An (Aq (v:=(.agg (Bb a))) hI J J J J Ho J J J J J)<|Z<|Aj ?_
  refine Y<|O<|Ab 2 [] [(23,(.I (j:Int))),(22,(.sl 2 (List.map Bb s2)))] ?_
  refine Dv fun a1 hz hx1=>Aa (.cp (Bb a1) 0) J (Bz (Dc Lc Ho J hz hx1))<|Aa (.agg (Bb a1)) J (Au (C7 Ho J))<|A8 (j:=1) hI J J J J Ho J fun g1=>An (Aq (v:=(.agg (Bb a1))) hI J J J J Ho J J J J J)<|Z<|Aj ?_
  refine Y<|O<|Ab 3 [0,1] [(28,(.agg (Bb a1))),(27,(.agg (Bb a))),(26,(.func (.func 76) [] []))] ?_
  refine A7 [(.agg (Bb a)),(.agg (Bb a1))] J J J J ((Abr a a1) _) (fun v _=>B0 Tryz.func75 hI) fun r _=>Aa (.bool (!r)) J (Oa J)<|Z<|D2 J (fun hc1=>?_) (fun hc1=>?_)
  ·refine Ax<|Bi<|O<|Ab 2 [] [(17,(.I (IntKind.wrap .i64 ((j:Int)+1))))] ?_
   refine Z<|Eb [none,none] hI J (.drop (.drop .nil))<|Bo (E8 (hW () _ _ ⟨J,J⟩)) (.cons J (.cons J (.cons J (.cons J (.cons (Eg (Bg ha) hlim) .nil)))))
  refine Y<|O<|Aa (.bool false) J Ai<|Z<|E7<|Fh<|Bl (a:=false) (vs:=[(.bool false)]) Tryz.func75 hI J (.same _)
 rintro _ fr h ⟨rfl,rfl⟩
 refine Al (Fb _ _ _)<|Y<|O<|Aa (.bool (decide ((s1.length:Int)<(s1.length:Int)))) J (Bh J J J)<|Z<|Y<|Df J (Int.lt_irrefl _) ?_
 refine Cy J<|Y<|O<|Aa (.bool true) J Ai<|Z<|Bl (a:=true) (vs:=[(.bool true)]) Tryz.func75 hI J (.same _)
theorem Yn (s1:List Class)(s2:List Class):CP Tryz.prog 78 [(.sl 4 (List.map B4 s1)),(.sl 4 (List.map B4 s2))] (G9 s1 s2) (fun(x:Bool)=>(AV.bool x)):=by
 refine Cd (n:=26) 0 Tryz.func78 J (by decide) J J fun h0 ids hI=>Bn (Al (G9.eq_1 _ _) ?_)
 refine Y<|O<|Aa (.bool false) J Ai<|Z<|Y<|Y<|O ?_
 refine Aa (.sl 4 (List.map B4 s1)) J Ad<|Aa (.I (s1.length:Int)) J (A2 (Bk J2))<|Aa (.sl 4 (List.map B4 s2)) J Ad<|Aa (.I (s2.length:Int)) J (A2 (Bk J2))<|Aa (.bool ((s1.length:Int) != (s2.length:Int))) J (Bh J J J)<|Z<|Bx J (fun hc=>?_) (fun hc=>?_)
 ·refine Y<|O<|Aa (.bool false) J Ai<|Z<|Bl (a:=false) (vs:=[(.bool false)]) Tryz.func78 hI J (.same _)
 refine Ax<|Y<|Y<|O<|Aa (.sl 4 (List.map B4 s1)) J Ad<|Aa (.I (s1.length:Int)) J (A2 (Bk J2))<|Aa (.I 0) J Ad ?_
 refine Z<|Ba<|D6 [(0,(.sl 4 (List.map B4 s1))),(1,(.sl 4 (List.map B4 s2))),(12,(.I (s1.length:Int))),(13,(.I 0))] (FI J)<|Eo (P:=Tryz.prog) s1 (fun j a=>fun _=>No s2 j a) ((Dz (fun _=>.ok true) (fun r=>.ok r)):(Unit ⊕ Bool)→R Bool) (fun j=>fun _=>fun(fr:Nat→AV) (h:Ag)=>fr=A5 [(0,(.sl 4 (List.map B4 s1))),(1,(.sl 4 (List.map B4 s2))),(12,(.I (s1.length:Int))),(13,(.I (j:Int)))]∧h=hp h0 ids []) () ?_ ?_ ?_
 ·exact⟨J,J⟩
 ·rintro j a ha W hW _ fr h ⟨rfl,rfl⟩
  refine Al (m':=No s2 j a) J (Al (No.eq_1 _ _ _) ?_)
  refine Y<|O<|Aa (.bool (decide ((j:Int)<(s1.length:Int)))) J (Bh J J J)<|Z<|Y<|Ev (t:=0) (L:=s1) J fun hlim=>Dg J (Int.ofNat_lt.2 (Bg ha)) ?_
  refine Ax<|Y<|Ba<|Y<|O<|Ab 2 [] [(5,(.I (j:Int)))] ?_
  refine Z<|Y<|Ct Es [[],[],[0,1],[0,1,2],[],[],[4,5],[4,5,6],[0,1,2,3,4,5,6,7]] [(false,0),(false,1),(false,2),(false,3),(false,4),(false,5),(false,6),(false,7),(false,8)] (by kernel_rfl)<|Af (.sl 4 (List.map B4 s1)) J J Ad<|Af (.I (j:Int)) J J Ad<|Af (.cp (B4 a) 0) J J (Bz (Ea J2 Jj J ha))<|Af (.agg (B4 a)) J J (Au (C7 Jj J)) ?_
  refine Af (.sl 4 (List.map B4 s2)) J J Ad<|Af (.I (j:Int)) J J Ad<|Ny fun a1 hz hx1=>Af (.cp (B4 a1) 0) J J (Bz (Dc J2 Jj J hz hx1))<|Af (.agg (B4 a1)) J J (Au (C7 Jj J))<|Af (.bool (!((a.Name==a1.Name)&&((a.Slow==a1.Slow)&&((a.Fast==a1.Fast)&&(a.Places==a1.Places)))))) J J (Bh (Ak2 J J) J Akb)<|Ck ?_
  refine D2 J (fun hc1=>?_) (fun hc1=>?_)
  ·refine Ax<|Bi<|O<|Ab 2 [] [(13,(.I (IntKind.wrap .i64 ((j:Int)+1))))] ?_
   refine Z<|Bo (E8 (hW () _ _ ⟨J,J⟩)) (.cons J (.cons J (.cons J (.cons (Eg (Bg ha) hlim) .nil))))
  refine Y<|O<|Aa (.bool false) J Ai<|Z<|E7<|Fh<|Bl (a:=false) (vs:=[(.bool false)]) Tryz.func78 hI J (.same _)
 rintro _ fr h ⟨rfl,rfl⟩
 refine Al (Fb _ _ _)<|Y<|O<|Aa (.bool (decide ((s1.length:Int)<(s1.length:Int)))) J (Bh J J J)<|Z<|Y<|Df J (Int.lt_irrefl _) ?_
 refine Cy J<|Y<|O<|Aa (.bool true) J Ai<|Z<|Bl (a:=true) (vs:=[(.bool true)]) Tryz.func78 hI J (.same _)
theorem Z8 (s1:List Rule)(s2:List Rule):CP Tryz.prog 79 [(.sl 8 (List.map Bc s1)),(.sl 8 (List.map Bc s2))] (Gz s1 s2) (fun(x:Bool)=>(AV.bool x)):=by
 refine Cd (n:=26) 0 Tryz.func79 J (by decide) J J fun h0 ids hI=>Bn (Al (Gz.eq_1 _ _) ?_)
 refine Y<|O<|Aa (.bool false) J Ai<|Z<|Y<|Y<|O ?_
 refine Aa (.sl 8 (List.map Bc s1)) J Ad<|Aa (.I (s1.length:Int)) J (A2 (Bk Fg))<|Aa (.sl 8 (List.map Bc s2)) J Ad<|Aa (.I (s2.length:Int)) J (A2 (Bk Fg))<|Aa (.bool ((s1.length:Int) != (s2.length:Int))) J (Bh J J J)<|Z<|Bx J (fun hc=>?_) (fun hc=>?_)
 ·refine Y<|O<|Aa (.bool false) J Ai<|Z<|Bl (a:=false) (vs:=[(.bool false)]) Tryz.func79 hI J (.same _)
 refine Ax<|Y<|Y<|O<|Aa (.sl 8 (List.map Bc s1)) J Ad<|Aa (.I (s1.length:Int)) J (A2 (Bk Fg))<|Aa (.I 0) J Ad ?_
 refine Z<|Ba<|D6 [(0,(.sl 8 (List.map Bc s1))),(1,(.sl 8 (List.map Bc s2))),(12,(.I (s1.length:Int))),(13,(.I 0))] (FI J)<|Eo (P:=Tryz.prog) s1 (fun j a=>fun _=>N6 s2 j a) ((Dz (fun _=>.ok true) (fun r=>.ok r)):(Unit ⊕ Bool)→R Bool) (fun j=>fun _=>fun(fr:Nat→AV) (h:Ag)=>fr=A5 [(0,(.sl 8 (List.map Bc s1))),(1,(.sl 8 (List.map Bc s2))),(12,(.I (s1.length:Int))),(13,(.I (j:Int)))]∧h=hp h0 ids []) () ?_ ?_ ?_
 ·exact⟨J,J⟩
 ·rintro j a ha W hW _ fr h ⟨rfl,rfl⟩
  refine Al (m':=N6 s2 j a) J (Al (N6.eq_1 _ _ _) ?_)
  refine Y<|O<|Aa (.bool (decide ((j:Int)<(s1.length:Int)))) J (Bh J J J)<|Z<|Y<|Ev (t:=0) (L:=s1) J fun hlim=>Dg J (Int.ofNat_lt.2 (Bg ha)) ?_
  refine Ax<|Y<|Ba<|Y<|O<|Ab 2 [] [(5,(.I (j:Int)))] ?_
  refine Z<|Y<|Ct Es [[],[],[0,1],[0,1,2],[],[],[4,5],[4,5,6],[0,1,2,3,4,5,6,7]] [(false,0),(false,1),(false,2),(false,3),(false,4),(false,5),(false,6),(false,7),(false,8)] (by kernel_rfl)<|Af (.sl 8 (List.map Bc s1)) J J Ad<|Af (.I (j:Int)) J J Ad<|Af (.cp (Bc a) 0) J J (Bz (Ea Fg D3 J ha))<|Af (.agg (Bc a)) J J (Au (C7 D3 J)) ?_
  refine Af (.sl 8 (List.map Bc s2)) J J Ad<|Af (.I (j:Int)) J J Ad<|Ny fun a1 hz hx1=>Af (.cp (Bc a1) 0) J J (Bz (Dc Fg D3 J hz hx1))<|Af (.agg (Bc a1)) J J (Au (C7 D3 J))<|Af (.bool (!((a.Kind==a1.Kind)&&((a.C==a1.C)&&((a.A==a1.A)&&((a.Class==a1.Class)&&((a.Airport==a1.Airport)&&((a.N==a1.N)&&((a.Hours.From==a1.Hours.From)&&(a.Hours.To==a1.Hours.To)))))))))) J J (Bh (Ahc J J) J Agj)<|Ck ?_
  refine D2 J (fun hc1=>?_) (fun hc1=>?_)
  ·refine Ax<|Bi<|O<|Ab 2 [] [(13,(.I (IntKind.wrap .i64 ((j:Int)+1))))] ?_
   refine Z<|Bo (E8 (hW () _ _ ⟨J,J⟩)) (.cons J (.cons J (.cons J (.cons (Eg (Bg ha) hlim) .nil))))
  refine Y<|O<|Aa (.bool false) J Ai<|Z<|E7<|Fh<|Bl (a:=false) (vs:=[(.bool false)]) Tryz.func79 hI J (.same _)
 rintro _ fr h ⟨rfl,rfl⟩
 refine Al (Fb _ _ _)<|Y<|O<|Aa (.bool (decide ((s1.length:Int)<(s1.length:Int)))) J (Bh J J J)<|Z<|Y<|Df J (Int.lt_irrefl _) ?_
 refine Cy J<|Y<|O<|Aa (.bool true) J Ai<|Z<|Bl (a:=true) (vs:=[(.bool true)]) Tryz.func79 hI J (.same _)
theorem Yk (a:Airspace)(b:Airspace):CP Tryz.prog 19 [(.agg (A6 a)),(.agg (A6 b))] (Pd a b) (fun(x:Bool)=>(AV.bool x)):=by
 refine Cd (n:=59) 2 Tryz.func19 J (by decide) J J fun h0 ids hI=>Bn (Al (Pd.eq_1 _ _) ?_)
 refine Y<|O<|Cl (v:=(.agg (A6 a))) (j:=0) hI J J J J J J J fun g=>Cl (v:=(.agg (A6 b))) (j:=1) hI J J J J J J J fun g1=>Aa (.bool false) J Ai<|Z<|Aj ?_
 refine Y<|O<|Ab 4 [0,1] [(8,(.sl 2 (List.map Aw b.Volumes))),(6,(.sl 2 (List.map Aw a.Volumes)))] ?_
 refine A7 [(.sl 2 (List.map Aw a.Volumes)),(.sl 2 (List.map Aw b.Volumes)),(.func (.func 63) [] [])] J J J J ((Mt a.Volumes b.Volumes) _) (fun v _=>B0 Tryz.func19 hI) fun r _=>Aa (.bool r) J Ad<|Cz 6 ((fun(b1:Bool)=>(if b1 then(Em a.Configs b.Configs).bind fun r2=>R.ok r2 else R.ok false).bind (fun(b2:Bool)=>(if b2 then(Du a.Segments b.Segments).bind fun r3=>R.ok r3 else R.ok false).bind (fun(b3:Bool)=>(if b3 then(Dn a.Routes b.Routes).bind fun r4=>R.ok r4 else R.ok false).bind (fun(b4:Bool)=>(if b4 then(Cv a.Airports b.Airports).bind fun r5=>R.ok r5 else R.ok false).bind (fun(b5:Bool)=>(if b5 then(G9 a.Classes b.Classes).bind fun r6=>R.ok r6 else R.ok false).bind (fun(b6:Bool)=>(if b6 then(Gz a.Rules b.Rules).bind fun r7=>R.ok r7 else R.ok false).bind (fun(b7:Bool)=>.ok b7))))))):Bool→R Bool) (fun(b1:Bool) (fr:Nat→AV) (h:Ag)=>fr=A5 [(2,(.q ids 0 g)),(3,(.q ids 1 g1)),(16,(.bool b1))]∧h=hp h0 ids [(some (.rows g 8 [(A6 a)])),(some (.rows g1 8 [(A6 b)]))]) ?_ fun hJ=>Dd (fun hb1=>?_) (fun hb1=>?_)
 ·rintro b1 fr h ⟨rfl,rfl⟩
  refine Aa (.bool b1) J Ad<|Cz 6 ((fun(b2:Bool)=>(if b2 then(Du a.Segments b.Segments).bind fun r3=>R.ok r3 else R.ok false).bind (fun(b3:Bool)=>(if b3 then(Dn a.Routes b.Routes).bind fun r4=>R.ok r4 else R.ok false).bind (fun(b4:Bool)=>(if b4 then(Cv a.Airports b.Airports).bind fun r5=>R.ok r5 else R.ok false).bind (fun(b5:Bool)=>(if b5 then(G9 a.Classes b.Classes).bind fun r6=>R.ok r6 else R.ok false).bind (fun(b6:Bool)=>(if b6 then(Gz a.Rules b.Rules).bind fun r7=>R.ok r7 else R.ok false).bind (fun(b7:Bool)=>.ok b7)))))):Bool→R Bool) (fun(b2:Bool) (fr:Nat→AV) (h:Ag)=>fr=A5 [(2,(.q ids 0 g)),(3,(.q ids 1 g1)),(23,(.bool b2))]∧h=hp h0 ids [(some (.rows g 8 [(A6 a)])),(some (.rows g1 8 [(A6 b)]))]) ?_ fun hJ1=>Dd (fun hb3=>?_) (fun hb3=>?_)
  ·rintro b2 fr h ⟨rfl,rfl⟩
   refine Aa (.bool b2) J Ad<|Cz 6 ((fun(b3:Bool)=>(if b3 then(Dn a.Routes b.Routes).bind fun r4=>R.ok r4 else R.ok false).bind (fun(b4:Bool)=>(if b4 then(Cv a.Airports b.Airports).bind fun r5=>R.ok r5 else R.ok false).bind (fun(b5:Bool)=>(if b5 then(G9 a.Classes b.Classes).bind fun r6=>R.ok r6 else R.ok false).bind (fun(b6:Bool)=>(if b6 then(Gz a.Rules b.Rules).bind fun r7=>R.ok r7 else R.ok false).bind (fun(b7:Bool)=>.ok b7))))):Bool→R Bool) (fun(b3:Bool) (fr:Nat→AV) (h:Ag)=>fr=A5 [(2,(.q ids 0 g)),(3,(.q ids 1 g1)),(30,(.bool b3))]∧h=hp h0 ids [(some (.rows g 8 [(A6 a)])),(some (.rows g1 8 [(A6 b)]))]) ?_ fun hJ2=>Dd (fun hb5=>?_) (fun hb5=>?_)
   ·rintro b3 fr h ⟨rfl,rfl⟩
    refine Aa (.bool b3) J Ad<|Cz 6 ((fun(b4:Bool)=>(if b4 then(Cv a.Airports b.Airports).bind fun r5=>R.ok r5 else R.ok false).bind (fun(b5:Bool)=>(if b5 then(G9 a.Classes b.Classes).bind fun r6=>R.ok r6 else R.ok false).bind (fun(b6:Bool)=>(if b6 then(Gz a.Rules b.Rules).bind fun r7=>R.ok r7 else R.ok false).bind (fun(b7:Bool)=>.ok b7)))):Bool→R Bool) (fun(b4:Bool) (fr:Nat→AV) (h:Ag)=>fr=A5 [(2,(.q ids 0 g)),(3,(.q ids 1 g1)),(37,(.bool b4))]∧h=hp h0 ids [(some (.rows g 8 [(A6 a)])),(some (.rows g1 8 [(A6 b)]))]) ?_ fun hJ3=>Dd (fun hb7=>?_) (fun hb7=>?_)
    ·rintro b4 fr h ⟨rfl,rfl⟩
     refine Aa (.bool b4) J Ad<|Cz 6 ((fun(b5:Bool)=>(if b5 then(G9 a.Classes b.Classes).bind fun r6=>R.ok r6 else R.ok false).bind (fun(b6:Bool)=>(if b6 then(Gz a.Rules b.Rules).bind fun r7=>R.ok r7 else R.ok false).bind (fun(b7:Bool)=>.ok b7))):Bool→R Bool) (fun(b5:Bool) (fr:Nat→AV) (h:Ag)=>fr=A5 [(2,(.q ids 0 g)),(3,(.q ids 1 g1)),(44,(.bool b5))]∧h=hp h0 ids [(some (.rows g 8 [(A6 a)])),(some (.rows g1 8 [(A6 b)]))]) ?_ fun hJ4=>Dd (fun hb9=>?_) (fun hb9=>?_)
     ·rintro b5 fr h ⟨rfl,rfl⟩
      refine Aa (.bool b5) J Ad<|Cz 6 ((fun(b6:Bool)=>(if b6 then(Gz a.Rules b.Rules).bind fun r7=>R.ok r7 else R.ok false).bind (fun(b7:Bool)=>.ok b7)):Bool→R Bool) (fun(b6:Bool) (fr:Nat→AV) (h:Ag)=>fr=A5 [(2,(.q ids 0 g)),(3,(.q ids 1 g1)),(51,(.bool b6))]∧h=hp h0 ids [(some (.rows g 8 [(A6 a)])),(some (.rows g1 8 [(A6 b)]))]) ?_ fun hJ5=>Dd (fun hb11=>?_) (fun hb11=>?_)
      ·rintro b6 fr h ⟨rfl,rfl⟩
       refine Aa (.bool b6) J Ad<|Cz 6 ((fun(b7:Bool)=>.ok b7):Bool→R Bool) (fun(b7:Bool) (fr:Nat→AV) (h:Ag)=>fr=A5 [(58,(.bool b7))]∧h=hp h0 ids [(some (.rows g 8 [(A6 a)])),(some (.rows g1 8 [(A6 b)]))]) ?_ fun hJ6=>Dd (fun hb13=>?_) (fun hb13=>?_)
       ·rintro b7 fr h ⟨rfl,rfl⟩
        refine Aa (.bool b7) J Ai<|Z<|Bl (a:=b7) (vs:=[(.bool b7)]) Tryz.func19 hI J (.same _)
       ·refine Az (t:=52) hb13 J<|Ab 4 [0,1] [(56,(.sl 8 (List.map Bc b.Rules))),(54,(.sl 8 (List.map Bc a.Rules)))] ?_
        refine A7 [(.sl 8 (List.map Bc a.Rules)),(.sl 8 (List.map Bc b.Rules))] J (Cq (tj:=52) J J) J J ((Z8 a.Rules b.Rules) _) (fun v _=>B0 Tryz.func19 hI) fun r7 _=>Aa (.bool r7) J (Et (t:=true) J J)<|Bd<|B5 [(58,(.bool r7))] (FI J)<|hJ6 r7 _ _ ⟨J,J⟩
       refine Az (t:=52) hb13 J<|Ab 6 [] [(58,(.bool false))] ?_
       refine Bd<|B5 [(58,(.bool false))] (FI J)<|hJ6 false _ _ ⟨J,J⟩
      ·refine Az (t:=45) hb11 J<|Ab 4 [0,1] [(49,(.sl 4 (List.map B4 b.Classes))),(47,(.sl 4 (List.map B4 a.Classes)))] ?_
       refine A7 [(.sl 4 (List.map B4 a.Classes)),(.sl 4 (List.map B4 b.Classes))] J (Cq (tj:=45) J J) J J ((Yn a.Classes b.Classes) _) (fun v _=>B0 Tryz.func19 hI) fun r6 _=>Aa (.bool r6) J (Et (t:=true) J J)<|Bd<|B5 [(2,(.q ids 0 g)),(3,(.q ids 1 g1)),(51,(.bool r6))] (FI J)<|hJ5 r6 _ _ ⟨J,J⟩
      refine Az (t:=45) hb11 J<|Ab 6 [] [(51,(.bool false))] ?_
      refine Bd<|B5 [(2,(.q ids 0 g)),(3,(.q ids 1 g1)),(51,(.bool false))] (FI J)<|hJ5 false _ _ ⟨J,J⟩
     ·refine Az (t:=38) hb9 J<|Ab 4 [0,1] [(42,(.sl 2 (List.map Bb b.Airports))),(40,(.sl 2 (List.map Bb a.Airports)))] ?_
      refine A7 [(.sl 2 (List.map Bb a.Airports)),(.sl 2 (List.map Bb b.Airports)),(.func (.func 76) [] [])] J (Cq (tj:=38) J J) J J ((Lw a.Airports b.Airports) _) (fun v _=>B0 Tryz.func19 hI) fun r5 _=>Aa (.bool r5) J (Et (t:=true) J J)<|Bd<|B5 [(2,(.q ids 0 g)),(3,(.q ids 1 g1)),(44,(.bool r5))] (FI J)<|hJ4 r5 _ _ ⟨J,J⟩
     refine Az (t:=38) hb9 J<|Ab 6 [] [(44,(.bool false))] ?_
     refine Bd<|B5 [(2,(.q ids 0 g)),(3,(.q ids 1 g1)),(44,(.bool false))] (FI J)<|hJ4 false _ _ ⟨J,J⟩
    ·refine Az (t:=31) hb7 J<|Ab 4 [0,1] [(35,(.sl 7 (List.map Bu b.Routes))),(33,(.sl 7 (List.map Bu a.Routes)))] ?_
     refine A7 [(.sl 7 (List.map Bu a.Routes)),(.sl 7 (List.map Bu b.Routes)),(.func (.func 74) [] [])] J (Cq (tj:=31) J J) J J ((Nx a.Routes b.Routes) _) (fun v _=>B0 Tryz.func19 hI) fun r4 _=>Aa (.bool r4) J (Et (t:=true) J J)<|Bd<|B5 [(2,(.q ids 0 g)),(3,(.q ids 1 g1)),(37,(.bool r4))] (FI J)<|hJ3 r4 _ _ ⟨J,J⟩
    refine Az (t:=31) hb7 J<|Ab 6 [] [(37,(.bool false))] ?_
    refine Bd<|B5 [(2,(.q ids 0 g)),(3,(.q ids 1 g1)),(37,(.bool false))] (FI J)<|hJ3 false _ _ ⟨J,J⟩
   ·refine Az (t:=24) hb5 J<|Ab 4 [0,1] [(28,(.sl 5 (List.map Be b.Segments))),(26,(.sl 5 (List.map Be a.Segments)))] ?_
    refine A7 [(.sl 5 (List.map Be a.Segments)),(.sl 5 (List.map Be b.Segments)),(.func (.func 72) [] [])] J (Cq (tj:=24) J J) J J ((L3 a.Segments b.Segments) _) (fun v _=>B0 Tryz.func19 hI) fun r3 _=>Aa (.bool r3) J (Et (t:=true) J J)<|Bd<|B5 [(2,(.q ids 0 g)),(3,(.q ids 1 g1)),(30,(.bool r3))] (FI J)<|hJ2 r3 _ _ ⟨J,J⟩
   refine Az (t:=24) hb5 J<|Ab 6 [] [(30,(.bool false))] ?_
   refine Bd<|B5 [(2,(.q ids 0 g)),(3,(.q ids 1 g1)),(30,(.bool false))] (FI J)<|hJ2 false _ _ ⟨J,J⟩
  ·refine Az (t:=17) hb3 J<|Ab 4 [0,1] [(21,(.sl 3 (List.map Bj b.Configs))),(19,(.sl 3 (List.map Bj a.Configs)))] ?_
   refine A7 [(.sl 3 (List.map Bj a.Configs)),(.sl 3 (List.map Bj b.Configs)),(.func (.func 70) [] [])] J (Cq (tj:=17) J J) J J ((My a.Configs b.Configs) _) (fun v _=>B0 Tryz.func19 hI) fun r2 _=>Aa (.bool r2) J (Et (t:=true) J J)<|Bd<|B5 [(2,(.q ids 0 g)),(3,(.q ids 1 g1)),(23,(.bool r2))] (FI J)<|hJ1 r2 _ _ ⟨J,J⟩
  refine Az (t:=17) hb3 J<|Ab 6 [] [(23,(.bool false))] ?_
  refine Bd<|B5 [(2,(.q ids 0 g)),(3,(.q ids 1 g1)),(23,(.bool false))] (FI J)<|hJ1 false _ _ ⟨J,J⟩
 ·refine Az (t:=10) hb1 J<|Ab 4 [0,1] [(14,(.sl 5 (List.map A9 b.Sectors))),(12,(.sl 5 (List.map A9 a.Sectors)))] ?_
  refine A7 [(.sl 5 (List.map A9 a.Sectors)),(.sl 5 (List.map A9 b.Sectors)),(.func (.func 66) [] [])] J (Cq (tj:=10) J J) J J ((M4 a.Sectors b.Sectors) _) (fun v _=>B0 Tryz.func19 hI) fun r1 _=>Aa (.bool r1) J (Et (t:=true) J J)<|Bd<|B5 [(2,(.q ids 0 g)),(3,(.q ids 1 g1)),(16,(.bool r1))] (FI J)<|hJ r1 _ _ ⟨J,J⟩
 refine Az (t:=10) hb1 J<|Ab 6 [] [(16,(.bool false))] ?_
 refine Bd<|B5 [(2,(.q ids 0 g)),(3,(.q ids 1 g1)),(16,(.bool false))] (FI J)<|hJ false _ _ ⟨J,J⟩
theorem Afc:CP Tryz.prog 9 [] (Tv) (fun(x:Bool)=>(AV.bool x)):=by
 refine Cd (n:=158) 7 Tryz.func9 J (by decide) J J fun h0 ids hI=>Bn (Al (Tv.eq_1) ?_)
 refine Y<|O<|Aa (.bool false) J Ai<|Z<|Y<|O<|A7 [(.str [])] J J J J ((Nl []) _) (fun v _=>B0 Tryz.func9 hI) fun r _=>?_
 refine Ab 4 [] [(28,(.I r.2.2)),(27,(.I r.2.1)),(26,(.agg (A6 r.1)))] ?_
 refine A8 (j:=0) hI J J J J Dl J fun g=>An (Aq (v:=(.agg (A6 r.1))) hI J J J J Dl J J J J J)<|Ab 2 [] [(3,(.I r.2.2)),(2,(.I r.2.1))] ?_
 refine Z<|Aj ?_
 refine Y<|O<|A7 [(.str [118,111,108,117,109,101,32,97,32,99,108,111,115,101,100,32,54,48,32,116,111,32,54,48,59])] J J J J ((Nl [118,111,108,117,109,101,32,97,32,99,108,111,115,101,100,32,54,48,32,116,111,32,54,48,59]) _) (fun v _=>B0 Tryz.func9 hI) fun r1 _=>Ab 4 [] [(33,(.I r1.2.2)),(32,(.I r1.2.1)),(31,(.agg (A6 r1.1)))] ?_
 refine A8 (j:=1) hI J J J J Dl J fun g1=>An (Aq (v:=(.agg (A6 r1.1))) hI J J J J Dl J J J J J)<|Ab 2 [] [(6,(.I r1.2.2)),(5,(.I r1.2.1))] ?_
 refine Z<|Aj ?_
 refine Y<|O<|A7 [(.str [101,120,101,109,112,116,32,104,101,97,118,121])] J J J J ((Nl [101,120,101,109,112,116,32,104,101,97,118,121]) _) (fun v _=>B0 Tryz.func9 hI) fun r2 _=>Ab 4 [] [(38,(.I r2.2.2)),(37,(.I r2.2.1)),(36,(.agg (A6 r2.1)))] ?_
 refine A8 (j:=2) hI J J J J Dl J fun g2=>An (Aq (v:=(.agg (A6 r2.1))) hI J J J J Dl J J J J J)<|Ab 2 [] [(9,(.I r2.2.2)),(8,(.I r2.2.1))] ?_
 refine Z<|Aj ?_
 refine Y<|O<|A7 [(.str [108,111,110,103,101,115,116,32,104,101,97,118,121,32,51,53,59])] J J J J ((Nl [108,111,110,103,101,115,116,32,104,101,97,118,121,32,51,53,59]) _) (fun v _=>B0 Tryz.func9 hI) fun r3 _=>Ab 4 [] [(43,(.I r3.2.2)),(42,(.I r3.2.1)),(41,(.agg (A6 r3.1)))] ?_
 refine A8 (j:=3) hI J J J J Dl J fun g3=>An (Aq (v:=(.agg (A6 r3.1))) hI J J J J Dl J J J J J)<|Ab 2 [] [(12,(.I r3.2.2)),(11,(.I r3.2.1))] ?_
 refine Z<|Aj ?_
 refine Y<|O<|Aa (.agg [(.str [120]),.emp]) J (Hy (Oq Ho Apu J))<|C3 (e:=Bb) (L:=[({ Name:=[120],Modes:=[] }:Airport)]) (st:=2) (rows:=[[(.str [120]),.emp]]) J Lc Ho J J J J J (.cons (.cons (.same _) (.cons (.emp _) .nil)) .nil) (fun x=>Qu x) J J<|Aa (.agg [.emp,.emp,.emp,.emp,.emp,(.sl 2 (List.map Bb [({ Name:=[120],Modes:=[] }:Airport)])),.emp,.emp]) J (Hy (Oq Dl Ad2 J))<|A7 [(.agg [.emp,.emp,.emp,.emp,.emp,(.sl 2 (List.map Bb [({ Name:=[120],Modes:=[] }:Airport)])),.emp,.emp])] J J J J (fun hb=>Bq.weak (.cons (.aggL (.cons (.emp _) (.cons (.emp _) (.cons (.emp _) (.cons (.emp _) (.cons (.emp _) (.cons (.same _) (.cons (.emp _) (.cons (.emp _) .nil))))))))) .nil) ((Th ({ Volumes:=[],Sectors:=[],Configs:=[],Segments:=[],Routes:=[],Airports:=[({ Name:=[120],Modes:=[] }:Airport)],Classes:=[],Rules:=[] }:Airspace)) _ hb)) (fun v _=>B0 Tryz.func9 hI) fun r4 _=>Ab 5 [] [(14,(.I r4.2))] ?_
 refine Z<|Y<|O<|Aa (.agg [(.str [97]),.emp]) J (Hy (Oq Ji Apg J))<|C3 (e:=Aw) (L:=[({ Name:=[97],Closed:=[] }:Volume)]) (st:=2) (rows:=[[(.str [97]),.emp]]) J Hj Ji J J J J J (.cons (.cons (.same _) (.cons (.emp _) .nil)) .nil) (fun x=>Rm x) J J<|Aa (.agg [(.sl 2 (List.map Aw [({ Name:=[97],Closed:=[] }:Volume)])),.emp,.emp,.emp,.emp,.emp,.emp,.emp]) J (Hy (Oq Dl Ad2 J))<|A7 [(.agg [(.sl 2 (List.map Aw [({ Name:=[97],Closed:=[] }:Volume)])),.emp,.emp,.emp,.emp,.emp,.emp,.emp])] J J J J (fun hb=>Bq.weak (.cons (.aggL (.cons (.same _) (.cons (.emp _) (.cons (.emp _) (.cons (.emp _) (.cons (.emp _) (.cons (.emp _) (.cons (.emp _) (.cons (.emp _) .nil))))))))) .nil) ((Th ({ Volumes:=[({ Name:=[97],Closed:=[] }:Volume)],Sectors:=[],Configs:=[],Segments:=[],Routes:=[],Airports:=[],Classes:=[],Rules:=[] }:Airspace)) _ hb)) (fun v _=>B0 Tryz.func9 hI) fun r5 _=>?_
 refine Ab 5 [] [(16,(.I r5.2)),(15,(.str r5.1))] ?_
 refine Z<|Y<|O<|A7 [(.str [99,117,114,102,101,119,32,104,101,97,118,121,32,97,116,32,120,32,48,32,116,111,32,51,48,48,59,32,115,101,99,116,111,114,32,115,32,61,32,97,44,32,98,32,114,97,100,97,114,32,57,32,112,114,111,99,101,100,117,114,97,108,32,52,59])] J J J J ((Nl [99,117,114,102,101,119,32,104,101,97,118,121,32,97,116,32,120,32,48,32,116,111,32,51,48,48,59,32,115,101,99,116,111,114,32,115,32,61,32,97,44,32,98,32,114,97,100,97,114,32,57,32,112,114,111,99,101,100,117,114,97,108,32,52,59]) _) (fun v _=>B0 Tryz.func9 hI) fun r6 _=>Ab 4 [] [(62,(.I r6.2.2)),(61,(.I r6.2.1)),(60,(.agg (A6 r6.1)))] ?_
 refine A8 (j:=4) hI J J J J Dl J fun g4=>An (Aq (v:=(.agg (A6 r6.1))) hI J J J J Dl J J J J J)<|Ab 2 [] [(19,(.I r6.2.2)),(18,(.I r6.2.1))] ?_
 refine Z<|Aj ?_
 refine Y<|O<|C3 (e:=rS) (L:=[[97],[98]]) (st:=1) (rows:=[[(.str [97])],[(.str [98])]]) J D0 Cf J J J J J (.cons (RowSim.refl _) (.cons (RowSim.refl _) .nil)) (fun x=>Gp x) J J<|Aa (.agg [(.str [115]),(.sl 1 (List.map rS [[97],[98]])),.emp,(.I 9),(.I 4)]) J (Hy (Oq Gn Ao6 J))<|C3 (e:=A9) (L:=[({ Name:=[115],Names:=[[97],[98]],Volumes:=[],Radar:=9,Procedural:=4 }:Sector)]) (st:=5) (rows:=[[(.str [115]),(.sl 1 (List.map rS [[97],[98]])),.emp,(.I 9),(.I 4)]]) J J1 Gn J J J J J (.cons (.cons (.same _) (.cons (.same _) (.cons (.emp _) (.cons (.same _) (.cons (.same _) .nil))))) .nil) (fun x=>Qe x) J J<|Ab 2 [] [(67,(.agg [(.I 1),(.str [104,101,97,118,121]),(.str [120]),(.I 0),(.I 0),(.I 0),(.I 0),(.I 300)]))] ?_
 refine C3 (e:=Bc) (L:=[({ Kind:=1,C:=[104,101,97,118,121],A:=[120],Class:=0,Airport:=0,N:=0,Hours:=({ From:=0,To:=300 }:Span) }:Rule)]) (st:=8) (rows:=[[(.I 1),(.str [104,101,97,118,121]),(.str [120]),(.I 0),(.I 0),(.I 0),(.I 0),(.I 300)]]) J Fg D3 J J J J J (.cons (.cons (.same _) (.cons (.same _) (.cons (.same _) (.cons (.same _) (.cons (.same _) (.cons (.same _) (.cons (.same _) (.cons (.same _) .nil)))))))) .nil) (fun x=>Q4 x) J J<|Aa (.agg [.emp,(.sl 5 (List.map A9 [({ Name:=[115],Names:=[[97],[98]],Volumes:=[],Radar:=9,Procedural:=4 }:Sector)])),.emp,.emp,.emp,.emp,.emp,(.sl 8 (List.map Bc [({ Kind:=1,C:=[104,101,97,118,121],A:=[120],Class:=0,Airport:=0,N:=0,Hours:=({ From:=0,To:=300 }:Span) }:Rule)]))]) J (Hy (Oq Dl Ad2 J))<|A8 (j:=5) hI J J J J Dl J fun g5=>An (Aq (v:=(.agg [.emp,(.sl 5 (List.map A9 [({ Name:=[115],Names:=[[97],[98]],Volumes:=[],Radar:=9,Procedural:=4 }:Sector)])),.emp,.emp,.emp,.emp,.emp,(.sl 8 (List.map Bc [({ Kind:=1,C:=[104,101,97,118,121],A:=[120],Class:=0,Airport:=0,N:=0,Hours:=({ From:=0,To:=300 }:Span) }:Rule)]))])) hI J J J J Dl J J J J J)<|Z<|Aj ?_
 refine Y<|O<|Ab 1 [5] [(70,(.agg [.emp,(.sl 5 (List.map A9 [({ Name:=[115],Names:=[[97],[98]],Volumes:=[],Radar:=9,Procedural:=4 }:Sector)])),.emp,.emp,.emp,.emp,.emp,(.sl 8 (List.map Bc [({ Kind:=1,C:=[104,101,97,118,121],A:=[120],Class:=0,Airport:=0,N:=0,Hours:=({ From:=0,To:=300 }:Span) }:Rule)]))]))] ?_
 refine A8 (j:=6) hI J J J J Dl J fun g6=>An (Aq (v:=(.agg [.emp,(.sl 5 (List.map A9 [({ Name:=[115],Names:=[[97],[98]],Volumes:=[],Radar:=9,Procedural:=4 }:Sector)])),.emp,.emp,.emp,.emp,.emp,(.sl 8 (List.map Bc [({ Kind:=1,C:=[104,101,97,118,121],A:=[120],Class:=0,Airport:=0,N:=0,Hours:=({ From:=0,To:=300 }:Span) }:Rule)]))])) hI J J J J Dl J J J J J)<|Z<|Aj ?_
 refine Y<|O<|C3 (e:=rS) (L:=[[97],[98]]) (st:=1) (rows:=[[(.str [97])],[(.str [98])]]) J D0 Cf J J J J J (.cons (RowSim.refl _) (.cons (RowSim.refl _) .nil)) (fun x=>Gp x) J J<|C3 (e:=(rI .i64)) (L:=[0,1]) (st:=1) (rows:=[[(.I 0)],[(.I 1)]]) J O9 C2 J J J J J (.cons (RowSim.refl _) (.cons (RowSim.refl _) .nil)) (fun x=>Adz x) J J<|Aa (.agg [(.str [115]),(.sl 1 (List.map rS [[97],[98]])),(.sl 1 (List.map (rI .i64) [0,1])),(.I 9),(.I 4)]) J (Hy (Oq Gn Ao6 J))<|C3 (e:=A9) (L:=[({ Name:=[115],Names:=[[97],[98]],Volumes:=[0,1],Radar:=9,Procedural:=4 }:Sector)]) (st:=5) (rows:=[[(.str [115]),(.sl 1 (List.map rS [[97],[98]])),(.sl 1 (List.map (rI .i64) [0,1])),(.I 9),(.I 4)]]) J J1 Gn J J J J J (.cons (.cons (.same _) (.cons (.same _) (.cons (.same _) (.cons (.same _) (.cons (.same _) .nil))))) .nil) (fun x=>Qe x) J J<|Aa (.ptr (ix ids 6) g6 0 1) J (Cb (B3 (c:=0) (off:=1) (i:=1) Dl J J1 J)) ?_
 refine An (Aq (v:=(.sl 5 (List.map A9 [({ Name:=[115],Names:=[[97],[98]],Volumes:=[0,1],Radar:=9,Procedural:=4 }:Sector)]))) hI J J J J J1 J J J J J)<|Z<|Aj ?_
 refine Y<|O<|Ab 1 [6] [(77,(.agg [.emp,(.sl 5 (List.map A9 [({ Name:=[115],Names:=[[97],[98]],Volumes:=[0,1],Radar:=9,Procedural:=4 }:Sector)])),.emp,.emp,.emp,.emp,.emp,(.sl 8 (List.map Bc [({ Kind:=1,C:=[104,101,97,118,121],A:=[120],Class:=0,Airport:=0,N:=0,Hours:=({ From:=0,To:=300 }:Span) }:Rule)]))]))] ?_
 refine A7 [(.agg [.emp,(.sl 5 (List.map A9 [({ Name:=[115],Names:=[[97],[98]],Volumes:=[0,1],Radar:=9,Procedural:=4 }:Sector)])),.emp,.emp,.emp,.emp,.emp,(.sl 8 (List.map Bc [({ Kind:=1,C:=[104,101,97,118,121],A:=[120],Class:=0,Airport:=0,N:=0,Hours:=({ From:=0,To:=300 }:Span) }:Rule)]))])] J J J J (fun hb=>Bq.weak (.cons (.aggL (.cons (.emp _) (.cons (.same _) (.cons (.emp _) (.cons (.emp _) (.cons (.emp _) (.cons (.emp _) (.cons (.emp _) (.cons (.same _) .nil))))))))) .nil) ((Th ({ Volumes:=[],Sectors:=[({ Name:=[115],Names:=[[97],[98]],Volumes:=[0,1],Radar:=9,Procedural:=4 }:Sector)],Configs:=[],Segments:=[],Routes:=[],Airports:=[],Classes:=[],Rules:=[({ Kind:=1,C:=[104,101,97,118,121],A:=[120],Class:=0,Airport:=0,N:=0,Hours:=({ From:=0,To:=300 }:Span) }:Rule)] }:Airspace)) _ hb)) (fun v _=>B0 Tryz.func9 hI) fun r7 _=>Ab 5 [] [(23,(.I r7.2)),(22,(.str r7.1))] ?_
 refine Z<|Y<|Y<|O<|Ab 3 [] [(83,(.bool (r.2.2 != 0)))] ?_
 refine B2 3 [(1,(.q ids 0 g)),(2,(.I r.2.1)),(5,(.I r1.2.1)),(8,(.I r2.2.1)),(9,(.I r2.2.2)),(11,(.I r3.2.1)),(12,(.I r3.2.2)),(14,(.I r4.2)),(15,(.str r5.1)),(16,(.I r5.2)),(17,(.q ids 4 g4)),(18,(.I r6.2.1)),(19,(.I r6.2.2)),(20,(.q ids 5 g5)),(21,(.q ids 6 g6)),(22,(.str r7.1)),(23,(.I r7.2)),(86,(.bool ((r.2.2 != 0)||(r1.2.2 != 80))))] ?_ fun hJ=>Bw (r.2.2 != 0) (fun hb1=>?_) (fun hb1=>?_)
 ·refine Aa (.bool ((r.2.2 != 0)||(r1.2.2 != 80))) J Ad<|B2 3 [(1,(.q ids 0 g)),(2,(.I r.2.1)),(5,(.I r1.2.1)),(8,(.I r2.2.1)),(11,(.I r3.2.1)),(12,(.I r3.2.2)),(14,(.I r4.2)),(15,(.str r5.1)),(16,(.I r5.2)),(17,(.q ids 4 g4)),(18,(.I r6.2.1)),(19,(.I r6.2.2)),(20,(.q ids 5 g5)),(21,(.q ids 6 g6)),(22,(.str r7.1)),(23,(.I r7.2)),(90,(.bool (((r.2.2 != 0)||(r1.2.2 != 80))||(r2.2.2 != 80))))] ?_ fun hJ1=>Bw ((r.2.2 != 0)||(r1.2.2 != 80)) (fun hb3=>?_) (fun hb3=>?_)
  ·refine Aa (.bool (((r.2.2 != 0)||(r1.2.2 != 80))||(r2.2.2 != 80))) J Ad<|B2 3 [(1,(.q ids 0 g)),(2,(.I r.2.1)),(5,(.I r1.2.1)),(8,(.I r2.2.1)),(11,(.I r3.2.1)),(14,(.I r4.2)),(15,(.str r5.1)),(16,(.I r5.2)),(17,(.q ids 4 g4)),(18,(.I r6.2.1)),(19,(.I r6.2.2)),(20,(.q ids 5 g5)),(21,(.q ids 6 g6)),(22,(.str r7.1)),(23,(.I r7.2)),(94,(.bool ((((r.2.2 != 0)||(r1.2.2 != 80))||(r2.2.2 != 80))||(r3.2.2 != 80))))] ?_ fun hJ2=>Bw (((r.2.2 != 0)||(r1.2.2 != 80))||(r2.2.2 != 80)) (fun hb5=>?_) (fun hb5=>?_)
   ·refine Aa (.bool ((((r.2.2 != 0)||(r1.2.2 != 80))||(r2.2.2 != 80))||(r3.2.2 != 80))) J Ad<|B2 3 [(1,(.q ids 0 g)),(2,(.I r.2.1)),(5,(.I r1.2.1)),(8,(.I r2.2.1)),(11,(.I r3.2.1)),(15,(.str r5.1)),(16,(.I r5.2)),(17,(.q ids 4 g4)),(18,(.I r6.2.1)),(19,(.I r6.2.2)),(20,(.q ids 5 g5)),(21,(.q ids 6 g6)),(22,(.str r7.1)),(23,(.I r7.2)),(98,(.bool (((((r.2.2 != 0)||(r1.2.2 != 80))||(r2.2.2 != 80))||(r3.2.2 != 80))||(r4.2 != 80))))] ?_ fun hJ3=>Bw ((((r.2.2 != 0)||(r1.2.2 != 80))||(r2.2.2 != 80))||(r3.2.2 != 80)) (fun hb7=>?_) (fun hb7=>?_)
    ·refine Aa (.bool (((((r.2.2 != 0)||(r1.2.2 != 80))||(r2.2.2 != 80))||(r3.2.2 != 80))||(r4.2 != 80))) J Ad<|B2 3 [(1,(.q ids 0 g)),(2,(.I r.2.1)),(5,(.I r1.2.1)),(8,(.I r2.2.1)),(11,(.I r3.2.1)),(15,(.str r5.1)),(17,(.q ids 4 g4)),(18,(.I r6.2.1)),(19,(.I r6.2.2)),(20,(.q ids 5 g5)),(21,(.q ids 6 g6)),(22,(.str r7.1)),(23,(.I r7.2)),(102,(.bool ((((((r.2.2 != 0)||(r1.2.2 != 80))||(r2.2.2 != 80))||(r3.2.2 != 80))||(r4.2 != 80))||(r5.2 != 0))))] ?_ fun hJ4=>Bw (((((r.2.2 != 0)||(r1.2.2 != 80))||(r2.2.2 != 80))||(r3.2.2 != 80))||(r4.2 != 80)) (fun hb9=>?_) (fun hb9=>?_)
     ·refine Aa (.bool ((((((r.2.2 != 0)||(r1.2.2 != 80))||(r2.2.2 != 80))||(r3.2.2 != 80))||(r4.2 != 80))||(r5.2 != 0))) J Ad<|B2 3 [(1,(.q ids 0 g)),(2,(.I r.2.1)),(5,(.I r1.2.1)),(8,(.I r2.2.1)),(11,(.I r3.2.1)),(15,(.str r5.1)),(17,(.q ids 4 g4)),(18,(.I r6.2.1)),(20,(.q ids 5 g5)),(21,(.q ids 6 g6)),(22,(.str r7.1)),(23,(.I r7.2)),(106,(.bool (((((((r.2.2 != 0)||(r1.2.2 != 80))||(r2.2.2 != 80))||(r3.2.2 != 80))||(r4.2 != 80))||(r5.2 != 0))||(r6.2.2 != 0))))] ?_ fun hJ5=>Bw ((((((r.2.2 != 0)||(r1.2.2 != 80))||(r2.2.2 != 80))||(r3.2.2 != 80))||(r4.2 != 80))||(r5.2 != 0)) (fun hb11=>?_) (fun hb11=>?_)
      ·refine Aa (.bool (((((((r.2.2 != 0)||(r1.2.2 != 80))||(r2.2.2 != 80))||(r3.2.2 != 80))||(r4.2 != 80))||(r5.2 != 0))||(r6.2.2 != 0))) J Ad<|B2 3 [(1,(.q ids 0 g)),(2,(.I r.2.1)),(5,(.I r1.2.1)),(8,(.I r2.2.1)),(11,(.I r3.2.1)),(15,(.str r5.1)),(17,(.q ids 4 g4)),(18,(.I r6.2.1)),(20,(.q ids 5 g5)),(21,(.q ids 6 g6)),(22,(.str r7.1)),(110,(.bool ((((((((r.2.2 != 0)||(r1.2.2 != 80))||(r2.2.2 != 80))||(r3.2.2 != 80))||(r4.2 != 80))||(r5.2 != 0))||(r6.2.2 != 0))||(r7.2 != 0))))] ?_ fun hJ6=>Bw (((((((r.2.2 != 0)||(r1.2.2 != 80))||(r2.2.2 != 80))||(r3.2.2 != 80))||(r4.2 != 80))||(r5.2 != 0))||(r6.2.2 != 0)) (fun hb13=>?_) (fun hb13=>?_)
       ·refine Aa (.bool ((((((((r.2.2 != 0)||(r1.2.2 != 80))||(r2.2.2 != 80))||(r3.2.2 != 80))||(r4.2 != 80))||(r5.2 != 0))||(r6.2.2 != 0))||(r7.2 != 0))) J Ad<|B2 3 [(1,(.q ids 0 g)),(5,(.I r1.2.1)),(8,(.I r2.2.1)),(11,(.I r3.2.1)),(15,(.str r5.1)),(17,(.q ids 4 g4)),(18,(.I r6.2.1)),(20,(.q ids 5 g5)),(21,(.q ids 6 g6)),(22,(.str r7.1)),(114,(.bool (((((((((r.2.2 != 0)||(r1.2.2 != 80))||(r2.2.2 != 80))||(r3.2.2 != 80))||(r4.2 != 80))||(r5.2 != 0))||(r6.2.2 != 0))||(r7.2 != 0))||(r.2.1 != 0))))] ?_ fun hJ7=>Bw ((((((((r.2.2 != 0)||(r1.2.2 != 80))||(r2.2.2 != 80))||(r3.2.2 != 80))||(r4.2 != 80))||(r5.2 != 0))||(r6.2.2 != 0))||(r7.2 != 0)) (fun hb15=>?_) (fun hb15=>?_)
        ·refine Aa (.bool (((((((((r.2.2 != 0)||(r1.2.2 != 80))||(r2.2.2 != 80))||(r3.2.2 != 80))||(r4.2 != 80))||(r5.2 != 0))||(r6.2.2 != 0))||(r7.2 != 0))||(r.2.1 != 0))) J Ad<|B2 3 [(1,(.q ids 0 g)),(8,(.I r2.2.1)),(11,(.I r3.2.1)),(15,(.str r5.1)),(17,(.q ids 4 g4)),(18,(.I r6.2.1)),(20,(.q ids 5 g5)),(21,(.q ids 6 g6)),(22,(.str r7.1)),(118,(.bool ((((((((((r.2.2 != 0)||(r1.2.2 != 80))||(r2.2.2 != 80))||(r3.2.2 != 80))||(r4.2 != 80))||(r5.2 != 0))||(r6.2.2 != 0))||(r7.2 != 0))||(r.2.1 != 0))||(r1.2.1 != 22))))] ?_ fun hJ8=>Bw (((((((((r.2.2 != 0)||(r1.2.2 != 80))||(r2.2.2 != 80))||(r3.2.2 != 80))||(r4.2 != 80))||(r5.2 != 0))||(r6.2.2 != 0))||(r7.2 != 0))||(r.2.1 != 0)) (fun hb17=>?_) (fun hb17=>?_)
         ·refine Aa (.bool ((((((((((r.2.2 != 0)||(r1.2.2 != 80))||(r2.2.2 != 80))||(r3.2.2 != 80))||(r4.2 != 80))||(r5.2 != 0))||(r6.2.2 != 0))||(r7.2 != 0))||(r.2.1 != 0))||(r1.2.1 != 22))) J Ad<|B2 3 [(1,(.q ids 0 g)),(11,(.I r3.2.1)),(15,(.str r5.1)),(17,(.q ids 4 g4)),(18,(.I r6.2.1)),(20,(.q ids 5 g5)),(21,(.q ids 6 g6)),(22,(.str r7.1)),(122,(.bool (((((((((((r.2.2 != 0)||(r1.2.2 != 80))||(r2.2.2 != 80))||(r3.2.2 != 80))||(r4.2 != 80))||(r5.2 != 0))||(r6.2.2 != 0))||(r7.2 != 0))||(r.2.1 != 0))||(r1.2.1 != 22))||(r2.2.1 != 12))))] ?_ fun hJ9=>Bw ((((((((((r.2.2 != 0)||(r1.2.2 != 80))||(r2.2.2 != 80))||(r3.2.2 != 80))||(r4.2 != 80))||(r5.2 != 0))||(r6.2.2 != 0))||(r7.2 != 0))||(r.2.1 != 0))||(r1.2.1 != 22)) (fun hb19=>?_) (fun hb19=>?_)
          ·refine Aa (.bool (((((((((((r.2.2 != 0)||(r1.2.2 != 80))||(r2.2.2 != 80))||(r3.2.2 != 80))||(r4.2 != 80))||(r5.2 != 0))||(r6.2.2 != 0))||(r7.2 != 0))||(r.2.1 != 0))||(r1.2.1 != 22))||(r2.2.1 != 12))) J Ad<|B2 3 [(1,(.q ids 0 g)),(15,(.str r5.1)),(17,(.q ids 4 g4)),(18,(.I r6.2.1)),(20,(.q ids 5 g5)),(21,(.q ids 6 g6)),(22,(.str r7.1)),(126,(.bool ((((((((((((r.2.2 != 0)||(r1.2.2 != 80))||(r2.2.2 != 80))||(r3.2.2 != 80))||(r4.2 != 80))||(r5.2 != 0))||(r6.2.2 != 0))||(r7.2 != 0))||(r.2.1 != 0))||(r1.2.1 != 22))||(r2.2.1 != 12))||(r3.2.1 != 14))))] ?_ fun hJ10=>Bw (((((((((((r.2.2 != 0)||(r1.2.2 != 80))||(r2.2.2 != 80))||(r3.2.2 != 80))||(r4.2 != 80))||(r5.2 != 0))||(r6.2.2 != 0))||(r7.2 != 0))||(r.2.1 != 0))||(r1.2.1 != 22))||(r2.2.1 != 12)) (fun hb21=>?_) (fun hb21=>?_)
           ·refine Aa (.bool ((((((((((((r.2.2 != 0)||(r1.2.2 != 80))||(r2.2.2 != 80))||(r3.2.2 != 80))||(r4.2 != 80))||(r5.2 != 0))||(r6.2.2 != 0))||(r7.2 != 0))||(r.2.1 != 0))||(r1.2.1 != 22))||(r2.2.1 != 12))||(r3.2.1 != 14))) J Ad<|B2 3 [(1,(.q ids 0 g)),(15,(.str r5.1)),(17,(.q ids 4 g4)),(20,(.q ids 5 g5)),(21,(.q ids 6 g6)),(22,(.str r7.1)),(130,(.bool (((((((((((((r.2.2 != 0)||(r1.2.2 != 80))||(r2.2.2 != 80))||(r3.2.2 != 80))||(r4.2 != 80))||(r5.2 != 0))||(r6.2.2 != 0))||(r7.2 != 0))||(r.2.1 != 0))||(r1.2.1 != 22))||(r2.2.1 != 12))||(r3.2.1 != 14))||(r6.2.1 != 0))))] ?_ fun hJ11=>Bw ((((((((((((r.2.2 != 0)||(r1.2.2 != 80))||(r2.2.2 != 80))||(r3.2.2 != 80))||(r4.2 != 80))||(r5.2 != 0))||(r6.2.2 != 0))||(r7.2 != 0))||(r.2.1 != 0))||(r1.2.1 != 22))||(r2.2.1 != 12))||(r3.2.1 != 14)) (fun hb23=>?_) (fun hb23=>?_)
            ·refine Z<|Bx J (fun hc=>?_) (fun hc=>?_)
             ·refine Y<|O<|Aa (.bool false) J Ai<|Z<|Bl (a:=false) (vs:=[(.bool false)]) Tryz.func9 hI J (.same _)
             refine Ax<|Y<|O<|Ab 2 [0] [(132,(.agg [.emp,.emp,.emp,.emp,.emp,.emp,.emp,.emp])),(131,(.agg (A6 r.1)))] ?_
             refine A7 [(.agg (A6 r.1)),(.agg [.emp,.emp,.emp,.emp,.emp,.emp,.emp,.emp])] J J J J (fun hb=>Bq.weak (.cons (.same _) (.cons (.aggL (.cons (.emp _) (.cons (.emp _) (.cons (.emp _) (.cons (.emp _) (.cons (.emp _) (.cons (.emp _) (.cons (.emp _) (.cons (.emp _) .nil))))))))) .nil)) ((Vr r.1 ({ Volumes:=[],Sectors:=[],Configs:=[],Segments:=[],Routes:=[],Airports:=[],Classes:=[],Rules:=[] }:Airspace)) _ hb)) (fun v _=>B0 Tryz.func9 hI) fun r8 _=>Aa (.bool r8) J Ad<|B2 3 [(17,(.q ids 4 g4)),(20,(.q ids 5 g5)),(21,(.q ids 6 g6)),(22,(.str r7.1)),(137,(.bool (r8&&(r5.1==[118,111,108,117,109,101,32,97,32,59]))))] ?_ fun hJ12=>Bw r8 (fun hb25=>?_) (fun hb25=>?_)
             ·refine Aa (.bool (r8&&(r5.1==[118,111,108,117,109,101,32,97,32,59]))) J Ad<|Cz 4 ((fun(b:Bool)=>(if(b&&(r7.1==[115,101,99,116,111,114,32,115,32,61,32,97,32,44,32,98,32,114,97,100,97,114,32,57,32,112,114,111,99,101,100,117,114,97,108,32,52,32,59,32,99,117,114,102,101,119,32,104,101,97,118,121,32,97,116,32,120,32,48,32,116,111,32,51,48,48,32,59])) then(Pd r6.1 ({ Volumes:=[],Sectors:=[({ Name:=[115],Names:=[[97],[98]],Volumes:=[],Radar:=9,Procedural:=4 }:Sector)],Configs:=[],Segments:=[],Routes:=[],Airports:=[],Classes:=[],Rules:=[({ Kind:=1,C:=[104,101,97,118,121],A:=[120],Class:=0,Airport:=0,N:=0,Hours:=({ From:=0,To:=300 }:Span) }:Rule)] }:Airspace)).bind fun r10=>R.ok r10 else R.ok false).bind (fun(b1:Bool)=>(if b1 then(Pd r6.1 ({ Volumes:=[],Sectors:=[({ Name:=[115],Names:=[[97],[98]],Volumes:=[0,1],Radar:=9,Procedural:=4 }:Sector)],Configs:=[],Segments:=[],Routes:=[],Airports:=[],Classes:=[],Rules:=[({ Kind:=1,C:=[104,101,97,118,121],A:=[120],Class:=0,Airport:=0,N:=0,Hours:=({ From:=0,To:=300 }:Span) }:Rule)] }:Airspace)).bind fun r11=>R.ok (!r11) else R.ok false).bind (fun(b2:Bool)=>.ok b2))):Bool→R Bool) (fun(b:Bool) (fr:Nat→AV) (h:Ag)=>fr=A5 [(17,(.q ids 4 g4)),(20,(.q ids 5 g5)),(21,(.q ids 6 g6)),(22,(.str r7.1)),(142,(.bool b))]∧h=hp h0 ids [(some (.rows g 8 [(A6 r.1)])),(some (.rows g1 8 [(A6 r1.1)])),(some (.rows g2 8 [(A6 r2.1)])),(some (.rows g3 8 [(A6 r3.1)])),(some (.rows g4 8 [(A6 r6.1)])),(some (.rows g5 8 [[.emp,(.sl 5 (List.map A9 [({ Name:=[115],Names:=[[97],[98]],Volumes:=[],Radar:=9,Procedural:=4 }:Sector)])),.emp,.emp,.emp,.emp,.emp,(.sl 8 (List.map Bc [({ Kind:=1,C:=[104,101,97,118,121],A:=[120],Class:=0,Airport:=0,N:=0,Hours:=({ From:=0,To:=300 }:Span) }:Rule)]))]])),(some (.rows g6 8 [[.emp,(.sl 5 (List.map A9 [({ Name:=[115],Names:=[[97],[98]],Volumes:=[0,1],Radar:=9,Procedural:=4 }:Sector)])),.emp,.emp,.emp,.emp,.emp,(.sl 8 (List.map Bc [({ Kind:=1,C:=[104,101,97,118,121],A:=[120],Class:=0,Airport:=0,N:=0,Hours:=({ From:=0,To:=300 }:Span) }:Rule)]))]]))]) ?_ fun hJ13=>Dd (fun hb27=>?_) (fun hb27=>?_)
              ·rintro b fr h ⟨rfl,rfl⟩
               refine Aa (.bool b) J Ad<|B2 3 [(17,(.q ids 4 g4)),(20,(.q ids 5 g5)),(21,(.q ids 6 g6)),(146,(.bool (b&&(r7.1==[115,101,99,116,111,114,32,115,32,61,32,97,32,44,32,98,32,114,97,100,97,114,32,57,32,112,114,111,99,101,100,117,114,97,108,32,52,32,59,32,99,117,114,102,101,119,32,104,101,97,118,121,32,97,116,32,120,32,48,32,116,111,32,51,48,48,32,59]))))] ?_ fun hJ14=>Bw b (fun hb29=>?_) (fun hb29=>?_)
               ·refine Aa (.bool (b&&(r7.1==[115,101,99,116,111,114,32,115,32,61,32,97,32,44,32,98,32,114,97,100,97,114,32,57,32,112,114,111,99,101,100,117,114,97,108,32,52,32,59,32,99,117,114,102,101,119,32,104,101,97,118,121,32,97,116,32,120,32,48,32,116,111,32,51,48,48,32,59]))) J Ad<|Cz 4 ((fun(b1:Bool)=>(if b1 then(Pd r6.1 ({ Volumes:=[],Sectors:=[({ Name:=[115],Names:=[[97],[98]],Volumes:=[0,1],Radar:=9,Procedural:=4 }:Sector)],Configs:=[],Segments:=[],Routes:=[],Airports:=[],Classes:=[],Rules:=[({ Kind:=1,C:=[104,101,97,118,121],A:=[120],Class:=0,Airport:=0,N:=0,Hours:=({ From:=0,To:=300 }:Span) }:Rule)] }:Airspace)).bind fun r11=>R.ok (!r11) else R.ok false).bind (fun(b2:Bool)=>.ok b2)):Bool→R Bool) (fun(b1:Bool) (fr:Nat→AV) (h:Ag)=>fr=A5 [(17,(.q ids 4 g4)),(21,(.q ids 6 g6)),(151,(.bool b1))]∧h=hp h0 ids [(some (.rows g 8 [(A6 r.1)])),(some (.rows g1 8 [(A6 r1.1)])),(some (.rows g2 8 [(A6 r2.1)])),(some (.rows g3 8 [(A6 r3.1)])),(some (.rows g4 8 [(A6 r6.1)])),(some (.rows g5 8 [[.emp,(.sl 5 (List.map A9 [({ Name:=[115],Names:=[[97],[98]],Volumes:=[],Radar:=9,Procedural:=4 }:Sector)])),.emp,.emp,.emp,.emp,.emp,(.sl 8 (List.map Bc [({ Kind:=1,C:=[104,101,97,118,121],A:=[120],Class:=0,Airport:=0,N:=0,Hours:=({ From:=0,To:=300 }:Span) }:Rule)]))]])),(some (.rows g6 8 [[.emp,(.sl 5 (List.map A9 [({ Name:=[115],Names:=[[97],[98]],Volumes:=[0,1],Radar:=9,Procedural:=4 }:Sector)])),.emp,.emp,.emp,.emp,.emp,(.sl 8 (List.map Bc [({ Kind:=1,C:=[104,101,97,118,121],A:=[120],Class:=0,Airport:=0,N:=0,Hours:=({ From:=0,To:=300 }:Span) }:Rule)]))]]))]) ?_ fun hJ15=>Dd (fun hb31=>?_) (fun hb31=>?_)
                ·rintro b1 fr h ⟨rfl,rfl⟩
                 refine Aa (.bool b1) J Ad<|Cz 5 ((fun(b2:Bool)=>.ok b2):Bool→R Bool) (fun(b2:Bool) (fr:Nat→AV) (h:Ag)=>fr=A5 [(157,(.bool b2))]∧h=hp h0 ids [(some (.rows g 8 [(A6 r.1)])),(some (.rows g1 8 [(A6 r1.1)])),(some (.rows g2 8 [(A6 r2.1)])),(some (.rows g3 8 [(A6 r3.1)])),(some (.rows g4 8 [(A6 r6.1)])),(some (.rows g5 8 [[.emp,(.sl 5 (List.map A9 [({ Name:=[115],Names:=[[97],[98]],Volumes:=[],Radar:=9,Procedural:=4 }:Sector)])),.emp,.emp,.emp,.emp,.emp,(.sl 8 (List.map Bc [({ Kind:=1,C:=[104,101,97,118,121],A:=[120],Class:=0,Airport:=0,N:=0,Hours:=({ From:=0,To:=300 }:Span) }:Rule)]))]])),(some (.rows g6 8 [[.emp,(.sl 5 (List.map A9 [({ Name:=[115],Names:=[[97],[98]],Volumes:=[0,1],Radar:=9,Procedural:=4 }:Sector)])),.emp,.emp,.emp,.emp,.emp,(.sl 8 (List.map Bc [({ Kind:=1,C:=[104,101,97,118,121],A:=[120],Class:=0,Airport:=0,N:=0,Hours:=({ From:=0,To:=300 }:Span) }:Rule)]))]]))]) ?_ fun hJ16=>Dd (fun hb33=>?_) (fun hb33=>?_)
                 ·rintro b2 fr h ⟨rfl,rfl⟩
                  refine Aa (.bool b2) J Ai<|Z<|Bl (a:=b2) (vs:=[(.bool b2)]) Tryz.func9 hI J (.same _)
                 ·refine Az (t:=152) hb33 J<|Ab 2 [4,6] [(154,(.agg [.emp,(.sl 5 (List.map A9 [({ Name:=[115],Names:=[[97],[98]],Volumes:=[0,1],Radar:=9,Procedural:=4 }:Sector)])),.emp,.emp,.emp,.emp,.emp,(.sl 8 (List.map Bc [({ Kind:=1,C:=[104,101,97,118,121],A:=[120],Class:=0,Airport:=0,N:=0,Hours:=({ From:=0,To:=300 }:Span) }:Rule)]))])),(153,(.agg (A6 r6.1)))] ?_
                  refine A7 [(.agg (A6 r6.1)),(.agg [.emp,(.sl 5 (List.map A9 [({ Name:=[115],Names:=[[97],[98]],Volumes:=[0,1],Radar:=9,Procedural:=4 }:Sector)])),.emp,.emp,.emp,.emp,.emp,(.sl 8 (List.map Bc [({ Kind:=1,C:=[104,101,97,118,121],A:=[120],Class:=0,Airport:=0,N:=0,Hours:=({ From:=0,To:=300 }:Span) }:Rule)]))])] J (Cq (tj:=152) J J) J J (fun hb=>Bq.weak (.cons (.same _) (.cons (.aggL (.cons (.emp _) (.cons (.same _) (.cons (.emp _) (.cons (.emp _) (.cons (.emp _) (.cons (.emp _) (.cons (.emp _) (.cons (.same _) .nil))))))))) .nil)) ((Yk r6.1 ({ Volumes:=[],Sectors:=[({ Name:=[115],Names:=[[97],[98]],Volumes:=[0,1],Radar:=9,Procedural:=4 }:Sector)],Configs:=[],Segments:=[],Routes:=[],Airports:=[],Classes:=[],Rules:=[({ Kind:=1,C:=[104,101,97,118,121],A:=[120],Class:=0,Airport:=0,N:=0,Hours:=({ From:=0,To:=300 }:Span) }:Rule)] }:Airspace)) _ hb)) (fun v _=>B0 Tryz.func9 hI) fun r11 _=>Ab 2 [] [(157,(.bool (!r11)))] ?_
                  refine Bd<|B5 [(157,(.bool (!r11)))] (FI J)<|hJ16 (!r11) _ _ ⟨J,J⟩
                 refine Az (t:=152) hb33 J<|Ab 5 [] [(157,(.bool false))] ?_
                 refine Bd<|B5 [(157,(.bool false))] (FI J)<|hJ16 false _ _ ⟨J,J⟩
                ·refine Az (t:=147) hb31 J<|Ab 2 [4,5] [(149,(.agg [.emp,(.sl 5 (List.map A9 [({ Name:=[115],Names:=[[97],[98]],Volumes:=[],Radar:=9,Procedural:=4 }:Sector)])),.emp,.emp,.emp,.emp,.emp,(.sl 8 (List.map Bc [({ Kind:=1,C:=[104,101,97,118,121],A:=[120],Class:=0,Airport:=0,N:=0,Hours:=({ From:=0,To:=300 }:Span) }:Rule)]))])),(148,(.agg (A6 r6.1)))] ?_
                 refine A7 [(.agg (A6 r6.1)),(.agg [.emp,(.sl 5 (List.map A9 [({ Name:=[115],Names:=[[97],[98]],Volumes:=[],Radar:=9,Procedural:=4 }:Sector)])),.emp,.emp,.emp,.emp,.emp,(.sl 8 (List.map Bc [({ Kind:=1,C:=[104,101,97,118,121],A:=[120],Class:=0,Airport:=0,N:=0,Hours:=({ From:=0,To:=300 }:Span) }:Rule)]))])] J (Cq (tj:=147) J J) J J (fun hb=>Bq.weak (.cons (.same _) (.cons (.aggL (.cons (.emp _) (.cons (.same _) (.cons (.emp _) (.cons (.emp _) (.cons (.emp _) (.cons (.emp _) (.cons (.emp _) (.cons (.same _) .nil))))))))) .nil)) ((Yk r6.1 ({ Volumes:=[],Sectors:=[({ Name:=[115],Names:=[[97],[98]],Volumes:=[],Radar:=9,Procedural:=4 }:Sector)],Configs:=[],Segments:=[],Routes:=[],Airports:=[],Classes:=[],Rules:=[({ Kind:=1,C:=[104,101,97,118,121],A:=[120],Class:=0,Airport:=0,N:=0,Hours:=({ From:=0,To:=300 }:Span) }:Rule)] }:Airspace)) _ hb)) (fun v _=>B0 Tryz.func9 hI) fun r10 _=>Aa (.bool r10) J (Et (t:=true) J J)<|Bd<|B5 [(17,(.q ids 4 g4)),(21,(.q ids 6 g6)),(151,(.bool r10))] (FI J)<|hJ15 r10 _ _ ⟨J,J⟩
                refine Az (t:=147) hb31 J<|Ab 4 [] [(151,(.bool false))] ?_
                refine Bd<|B5 [(17,(.q ids 4 g4)),(21,(.q ids 6 g6)),(151,(.bool false))] (FI J)<|hJ15 false _ _ ⟨J,J⟩
               ·refine Az (t:=143) hb29 J<|Ab 3 [] [(146,(.bool (r7.1==[115,101,99,116,111,114,32,115,32,61,32,97,32,44,32,98,32,114,97,100,97,114,32,57,32,112,114,111,99,101,100,117,114,97,108,32,52,32,59,32,99,117,114,102,101,119,32,104,101,97,118,121,32,97,116,32,120,32,48,32,116,111,32,51,48,48,32,59])))] ?_
                exact Bf hJ14 (.cons J (.cons J (.cons J (.cons (Hk hb29) .nil))))
               refine Az (t:=143) hb29 J<|Ab 3 [] [(146,(.bool false))] ?_
               exact Bf hJ14 (.cons J (.cons J (.cons J (.cons (Hl hb29) .nil))))
              ·refine Az (t:=138) hb27 J<|Ab 2 [4,5] [(140,(.agg [.emp,(.sl 5 (List.map A9 [({ Name:=[115],Names:=[[97],[98]],Volumes:=[],Radar:=9,Procedural:=4 }:Sector)])),.emp,.emp,.emp,.emp,.emp,(.sl 8 (List.map Bc [({ Kind:=1,C:=[104,101,97,118,121],A:=[120],Class:=0,Airport:=0,N:=0,Hours:=({ From:=0,To:=300 }:Span) }:Rule)]))])),(139,(.agg (A6 r6.1)))] ?_
               refine A7 [(.agg (A6 r6.1)),(.agg [.emp,(.sl 5 (List.map A9 [({ Name:=[115],Names:=[[97],[98]],Volumes:=[],Radar:=9,Procedural:=4 }:Sector)])),.emp,.emp,.emp,.emp,.emp,(.sl 8 (List.map Bc [({ Kind:=1,C:=[104,101,97,118,121],A:=[120],Class:=0,Airport:=0,N:=0,Hours:=({ From:=0,To:=300 }:Span) }:Rule)]))])] J (Cq (tj:=138) J J) J J (fun hb=>Bq.weak (.cons (.same _) (.cons (.aggL (.cons (.emp _) (.cons (.same _) (.cons (.emp _) (.cons (.emp _) (.cons (.emp _) (.cons (.emp _) (.cons (.emp _) (.cons (.same _) .nil))))))))) .nil)) ((Vr r6.1 ({ Volumes:=[],Sectors:=[({ Name:=[115],Names:=[[97],[98]],Volumes:=[],Radar:=9,Procedural:=4 }:Sector)],Configs:=[],Segments:=[],Routes:=[],Airports:=[],Classes:=[],Rules:=[({ Kind:=1,C:=[104,101,97,118,121],A:=[120],Class:=0,Airport:=0,N:=0,Hours:=({ From:=0,To:=300 }:Span) }:Rule)] }:Airspace)) _ hb)) (fun v _=>B0 Tryz.func9 hI) fun r9 _=>Aa (.bool r9) J (Et (t:=true) J J)<|Bd<|B5 [(17,(.q ids 4 g4)),(20,(.q ids 5 g5)),(21,(.q ids 6 g6)),(22,(.str r7.1)),(142,(.bool r9))] (FI J)<|hJ13 r9 _ _ ⟨J,J⟩
              refine Az (t:=138) hb27 J<|Ab 4 [] [(142,(.bool false))] ?_
              refine Bd<|B5 [(17,(.q ids 4 g4)),(20,(.q ids 5 g5)),(21,(.q ids 6 g6)),(22,(.str r7.1)),(142,(.bool false))] (FI J)<|hJ13 false _ _ ⟨J,J⟩
             ·refine Az (t:=134) hb25 J<|Ab 3 [] [(137,(.bool (r5.1==[118,111,108,117,109,101,32,97,32,59])))] ?_
              exact Bf hJ12 (.cons J (.cons J (.cons J (.cons J (.cons (Hk hb25) .nil)))))
             refine Az (t:=134) hb25 J<|Ab 3 [] [(137,(.bool false))] ?_
             exact Bf hJ12 (.cons J (.cons J (.cons J (.cons J (.cons (Hl hb25) .nil)))))
            ·refine Az (t:=127) hb23 J<|Ab 3 [] [(130,(.bool true))] ?_
             exact Bf hJ11 (.cons J (.cons J (.cons J (.cons J (.cons J (.cons J (.cons (E6 hb23) .nil)))))))
            refine Az (t:=127) hb23 J<|Ab 3 [] [(130,(.bool (r6.2.1 != 0)))] ?_
            exact Bf hJ11 (.cons J (.cons J (.cons J (.cons J (.cons J (.cons J (.cons (E5 hb23) .nil)))))))
           ·refine Az (t:=123) hb21 J<|Ab 3 [] [(126,(.bool true))] ?_
            exact Bf hJ10 (.cons J (.cons J (.cons J (.cons J (.cons J (.cons J (.cons J (.cons (E6 hb21) .nil))))))))
           refine Az (t:=123) hb21 J<|Ab 3 [] [(126,(.bool (r3.2.1 != 14)))] ?_
           exact Bf hJ10 (.cons J (.cons J (.cons J (.cons J (.cons J (.cons J (.cons J (.cons (E5 hb21) .nil))))))))
          ·refine Az (t:=119) hb19 J<|Ab 3 [] [(122,(.bool true))] ?_
           exact Bf hJ9 (.cons J (.cons J (.cons J (.cons J (.cons J (.cons J (.cons J (.cons J (.cons (E6 hb19) .nil)))))))))
          refine Az (t:=119) hb19 J<|Ab 3 [] [(122,(.bool (r2.2.1 != 12)))] ?_
          exact Bf hJ9 (.cons J (.cons J (.cons J (.cons J (.cons J (.cons J (.cons J (.cons J (.cons (E5 hb19) .nil)))))))))
         ·refine Az (t:=115) hb17 J<|Ab 3 [] [(118,(.bool true))] ?_
          exact Bf hJ8 (.cons J (.cons J (.cons J (.cons J (.cons J (.cons J (.cons J (.cons J (.cons J (.cons (E6 hb17) .nil))))))))))
         refine Az (t:=115) hb17 J<|Ab 3 [] [(118,(.bool (r1.2.1 != 22)))] ?_
         exact Bf hJ8 (.cons J (.cons J (.cons J (.cons J (.cons J (.cons J (.cons J (.cons J (.cons J (.cons (E5 hb17) .nil))))))))))
        ·refine Az (t:=111) hb15 J<|Ab 3 [] [(114,(.bool true))] ?_
         exact Bf hJ7 (.cons J (.cons J (.cons J (.cons J (.cons J (.cons J (.cons J (.cons J (.cons J (.cons J (.cons (E6 hb15) .nil)))))))))))
        refine Az (t:=111) hb15 J<|Ab 3 [] [(114,(.bool (r.2.1 != 0)))] ?_
        exact Bf hJ7 (.cons J (.cons J (.cons J (.cons J (.cons J (.cons J (.cons J (.cons J (.cons J (.cons J (.cons (E5 hb15) .nil)))))))))))
       ·refine Az (t:=107) hb13 J<|Ab 3 [] [(110,(.bool true))] ?_
        exact Bf hJ6 (.cons J (.cons J (.cons J (.cons J (.cons J (.cons J (.cons J (.cons J (.cons J (.cons J (.cons J (.cons (E6 hb13) .nil))))))))))))
       refine Az (t:=107) hb13 J<|Ab 3 [] [(110,(.bool (r7.2 != 0)))] ?_
       exact Bf hJ6 (.cons J (.cons J (.cons J (.cons J (.cons J (.cons J (.cons J (.cons J (.cons J (.cons J (.cons J (.cons (E5 hb13) .nil))))))))))))
      ·refine Az (t:=103) hb11 J<|Ab 3 [] [(106,(.bool true))] ?_
       exact Bf hJ5 (.cons J (.cons J (.cons J (.cons J (.cons J (.cons J (.cons J (.cons J (.cons J (.cons J (.cons J (.cons J (.cons (E6 hb11) .nil)))))))))))))
      refine Az (t:=103) hb11 J<|Ab 3 [] [(106,(.bool (r6.2.2 != 0)))] ?_
      exact Bf hJ5 (.cons J (.cons J (.cons J (.cons J (.cons J (.cons J (.cons J (.cons J (.cons J (.cons J (.cons J (.cons J (.cons (E5 hb11) .nil)))))))))))))
     ·refine Az (t:=99) hb9 J<|Ab 3 [] [(102,(.bool true))] ?_
      exact Bf hJ4 (.cons J (.cons J (.cons J (.cons J (.cons J (.cons J (.cons J (.cons J (.cons J (.cons J (.cons J (.cons J (.cons J (.cons (E6 hb9) .nil))))))))))))))
     refine Az (t:=99) hb9 J<|Ab 3 [] [(102,(.bool (r5.2 != 0)))] ?_
     exact Bf hJ4 (.cons J (.cons J (.cons J (.cons J (.cons J (.cons J (.cons J (.cons J (.cons J (.cons J (.cons J (.cons J (.cons J (.cons (E5 hb9) .nil))))))))))))))
    ·refine Az (t:=95) hb7 J<|Ab 3 [] [(98,(.bool true))] ?_
     exact Bf hJ3 (.cons J (.cons J (.cons J (.cons J (.cons J (.cons J (.cons J (.cons J (.cons J (.cons J (.cons J (.cons J (.cons J (.cons J (.cons (E6 hb7) .nil)))))))))))))))
    refine Az (t:=95) hb7 J<|Ab 3 [] [(98,(.bool (r4.2 != 80)))] ?_
    exact Bf hJ3 (.cons J (.cons J (.cons J (.cons J (.cons J (.cons J (.cons J (.cons J (.cons J (.cons J (.cons J (.cons J (.cons J (.cons J (.cons (E5 hb7) .nil)))))))))))))))
   ·refine Az (t:=91) hb5 J<|Ab 3 [] [(94,(.bool true))] ?_
    exact Bf hJ2 (.cons J (.cons J (.cons J (.cons J (.cons J (.cons J (.cons J (.cons J (.cons J (.cons J (.cons J (.cons J (.cons J (.cons J (.cons J (.cons (E6 hb5) .nil))))))))))))))))
   refine Az (t:=91) hb5 J<|Ab 3 [] [(94,(.bool (r3.2.2 != 80)))] ?_
   exact Bf hJ2 (.cons J (.cons J (.cons J (.cons J (.cons J (.cons J (.cons J (.cons J (.cons J (.cons J (.cons J (.cons J (.cons J (.cons J (.cons J (.cons (E5 hb5) .nil))))))))))))))))
  ·refine Az (t:=87) hb3 J<|Ab 3 [] [(90,(.bool true))] ?_
   exact Bf hJ1 (.cons J (.cons J (.cons J (.cons J (.cons J (.cons J (.cons J (.cons J (.cons J (.cons J (.cons J (.cons J (.cons J (.cons J (.cons J (.cons J (.cons (E6 hb3) .nil)))))))))))))))))
  refine Az (t:=87) hb3 J<|Ab 3 [] [(90,(.bool (r2.2.2 != 80)))] ?_
  exact Bf hJ1 (.cons J (.cons J (.cons J (.cons J (.cons J (.cons J (.cons J (.cons J (.cons J (.cons J (.cons J (.cons J (.cons J (.cons J (.cons J (.cons J (.cons (E5 hb3) .nil)))))))))))))))))
 ·refine Az (t:=83) hb1 J<|Ab 3 [] [(86,(.bool true))] ?_
  exact Bf hJ (.cons J (.cons J (.cons J (.cons J (.cons J (.cons J (.cons J (.cons J (.cons J (.cons J (.cons J (.cons J (.cons J (.cons J (.cons J (.cons J (.cons J (.cons (E6 hb1) .nil))))))))))))))))))
 refine Az (t:=83) hb1 J<|Ab 3 [] [(86,(.bool (r1.2.2 != 80)))] ?_
 exact Bf hJ (.cons J (.cons J (.cons J (.cons J (.cons J (.cons J (.cons J (.cons J (.cons J (.cons J (.cons J (.cons J (.cons J (.cons J (.cons J (.cons J (.cons J (.cons (E5 hb1) .nil))))))))))))))))))
theorem Aec (c:Int):CP Tryz.prog 81 [(.int .u8 c)] (Sm c) (fun(x:Bool)=>(AV.bool x)):=by
 refine Cd (n:=17) 0 Tryz.func81 J (by decide) J J fun h0 ids hI=>Bn (Al (Sm.eq_1 _) ?_)
 refine Y<|O<|Aa (.bool false) J Ai<|Z<|Y<|O<|Ab 3 [] [(5,(.bool (c==32)))] ?_
 refine B2 3 [(0,(.int .u8 c)),(8,(.bool ((c==32)||(c==9))))] ?_ fun hJ=>Bw (c==32) (fun hb1=>?_) (fun hb1=>?_)
 ·refine Aa (.bool ((c==32)||(c==9))) J Ad<|B2 3 [(0,(.int .u8 c)),(12,(.bool (((c==32)||(c==9))||(c==10))))] ?_ fun hJ1=>Bw ((c==32)||(c==9)) (fun hb3=>?_) (fun hb3=>?_)
  ·refine Aa (.bool (((c==32)||(c==9))||(c==10))) J Ad<|B2 3 [(16,(.bool ((((c==32)||(c==9))||(c==10))||(c==13))))] ?_ fun hJ2=>Bw (((c==32)||(c==9))||(c==10)) (fun hb5=>?_) (fun hb5=>?_)
   ·refine Aa (.bool ((((c==32)||(c==9))||(c==10))||(c==13))) J Ai<|Z<|Bl (a:=((((c==32)||(c==9))||(c==10))||(c==13))) (vs:=[(.bool ((((c==32)||(c==9))||(c==10))||(c==13)))]) Tryz.func81 hI J (.same _)
   ·refine Az (t:=13) hb5 J<|Ab 3 [] [(16,(.bool true))] ?_
    exact Bf hJ2 (.cons (E6 hb5) .nil)
   refine Az (t:=13) hb5 J<|Ab 3 [] [(16,(.bool (c==13)))] ?_
   exact Bf hJ2 (.cons (E5 hb5) .nil)
  ·refine Az (t:=9) hb3 J<|Ab 3 [] [(12,(.bool true))] ?_
   exact Bf hJ1 (.cons J (.cons (E6 hb3) .nil))
  refine Az (t:=9) hb3 J<|Ab 3 [] [(12,(.bool (c==10)))] ?_
  exact Bf hJ1 (.cons J (.cons (E5 hb3) .nil))
 ·refine Az (t:=5) hb1 J<|Ab 3 [] [(8,(.bool true))] ?_
  exact Bf hJ (.cons J (.cons (E6 hb1) .nil))
 refine Az (t:=5) hb1 J<|Ab 3 [] [(8,(.bool (c==9)))] ?_
 exact Bf hJ (.cons J (.cons (E5 hb1) .nil))
theorem Tw (c:Int):CP Tryz.prog 82 [(.int .u8 c)] (M7 c) (fun(x:Bool)=>(AV.bool x)):=by
 refine Cd (n:=17) 0 Tryz.func82 J (by decide) J J fun h0 ids hI=>Bn (Al (M7.eq_1 _) ?_)
 refine Y<|O<|Aa (.bool false) J Ai<|Z<|Y<|O<|Ab 3 [] [(5,(.bool (decide (c≥97))))] ?_
 refine B2 3 [(0,(.int .u8 c)),(8,(.bool ((decide (c≥97))&&(decide (c≤122)))))] ?_ fun hJ=>Bw (decide (c≥97)) (fun hb1=>?_) (fun hb1=>?_)
 ·refine Aa (.bool ((decide (c≥97))&&(decide (c≤122)))) J Ad<|B2 7 [(16,(.bool (((decide (c≥97))&&(decide (c≤122)))||((decide (c≥65))&&(decide (c≤90))))))] ?_ fun hJ1=>Bw ((decide (c≥97))&&(decide (c≤122))) (fun hb3=>?_) (fun hb3=>?_)
  ·refine Aa (.bool (((decide (c≥97))&&(decide (c≤122)))||((decide (c≥65))&&(decide (c≤90))))) J Ai<|Z<|Bl (a:=(((decide (c≥97))&&(decide (c≤122)))||((decide (c≥65))&&(decide (c≤90))))) (vs:=[(.bool (((decide (c≥97))&&(decide (c≤122)))||((decide (c≥65))&&(decide (c≤90)))))]) Tryz.func82 hI J (.same _)
  ·refine Az (t:=9) hb3 J<|Ab 7 [] [(16,(.bool true))] ?_
   exact Bf hJ1 (.cons (E6 hb3) .nil)
  refine Az (t:=9) hb3 J<|Ab 3 [] [(12,(.bool (decide (c≥65))))] ?_
  refine B2 3 [(9,(.bool false)),(15,(.bool ((decide (c≥65))&&(decide (c≤90)))))] ?_ fun hJ2=>Bw (decide (c≥65)) (fun hb5=>?_) (fun hb5=>?_)
  ·refine Aa (.bool ((decide (c≥65))&&(decide (c≤90)))) J (Et (t:=false) J J)<|Bf hJ1 (.cons (E5 hb3) .nil)
  ·refine Az (t:=12) hb5 J<|Ab 3 [] [(15,(.bool (decide (c≤90))))] ?_
   exact Bf hJ2 (.cons J (.cons (Hk hb5) .nil))
  refine Az (t:=12) hb5 J<|Ab 3 [] [(15,(.bool false))] ?_
  exact Bf hJ2 (.cons J (.cons (Hl hb5) .nil))
 ·refine Az (t:=5) hb1 J<|Ab 3 [] [(8,(.bool (decide (c≤122))))] ?_
  exact Bf hJ (.cons J (.cons (Hk hb1) .nil))
 refine Az (t:=5) hb1 J<|Ab 3 [] [(8,(.bool false))] ?_
 exact Bf hJ (.cons J (.cons (Hl hb1) .nil))
theorem Tr (c:Int):CP Tryz.prog 85 [(.int .u8 c)] (Nb c) (fun(x:Bool)=>(AV.bool x)):=by
 refine Cd (n:=9) 0 Tryz.func85 J (by decide) J J fun h0 ids hI=>Bn (Al (Nb.eq_1 _) ?_)
 refine Y<|O<|Aa (.bool false) J Ai<|Z<|Y<|O<|Ab 3 [] [(5,(.bool (decide (c≥48))))] ?_
 refine B2 3 [(8,(.bool ((decide (c≥48))&&(decide (c≤57)))))] ?_ fun hJ=>Bw (decide (c≥48)) (fun hb1=>?_) (fun hb1=>?_)
 ·refine Aa (.bool ((decide (c≥48))&&(decide (c≤57)))) J Ai<|Z<|Bl (a:=((decide (c≥48))&&(decide (c≤57)))) (vs:=[(.bool ((decide (c≥48))&&(decide (c≤57))))]) Tryz.func85 hI J (.same _)
 ·refine Az (t:=5) hb1 J<|Ab 3 [] [(8,(.bool (decide (c≤57))))] ?_
  exact Bf hJ (.cons (Hk hb1) .nil)
 refine Az (t:=5) hb1 J<|Ab 3 [] [(8,(.bool false))] ?_
 exact Bf hJ (.cons (Hl hb1) .nil)
theorem Aab (c:Int):CP Tryz.prog 83 [(.int .u8 c)] (Rz c) (fun(x:Bool)=>(AV.bool x)):=by
 refine Cd (n:=13) 0 Tryz.func83 J (by decide) J J fun h0 ids hI=>Bn (Al (Rz.eq_1 _) ?_)
 refine Y<|O<|Aa (.bool false) J Ai<|Z<|Y<|O<|Aa (.int .u8 c) J Ad ?_
 refine A7 [(.int .u8 c)] J J J J ((Tw c) _) (fun v _=>B0 Tryz.func83 hI) fun r _=>Aa (.bool r) J Ad<|Cz 3 ((fun(b:Bool)=>.ok (b||(c==95))):Bool→R Bool) (fun(b:Bool) (fr:Nat→AV) (h:Ag)=>fr=A5 [(0,(.int .u8 c)),(8,(.bool b))]∧h=hp h0 ids []) ?_ fun hJ=>Dd (fun hb1=>?_) (fun hb1=>?_)
 ·rintro b fr h ⟨rfl,rfl⟩
  refine Aa (.bool b) J Ad<|B2 3 [(12,(.bool (b||(c==95))))] ?_ fun hJ1=>Bw b (fun hb3=>?_) (fun hb3=>?_)
  ·refine Aa (.bool (b||(c==95))) J Ai<|Z<|Bl (a:=(b||(c==95))) (vs:=[(.bool (b||(c==95)))]) Tryz.func83 hI J (.same _)
  ·refine Az (t:=9) hb3 J<|Ab 3 [] [(12,(.bool true))] ?_
   exact Bf hJ1 (.cons (E6 hb3) .nil)
  refine Az (t:=9) hb3 J<|Ab 3 [] [(12,(.bool (c==95)))] ?_
  exact Bf hJ1 (.cons (E5 hb3) .nil)
 ·refine Az (t:=5) hb1 J<|Ab 3 [] [(8,(.bool true))] ?_
  refine Bd<|B5 [(0,(.int .u8 c)),(8,(.bool true))] (FI J)<|hJ true _ _ ⟨J,J⟩
 refine Az (t:=5) hb1 J<|By (tj:=5) (.int .u8 c) J J J Ad<|A7 [(.int .u8 c)] J (Cq (tj:=5) J J) J J ((Tr c) _) (fun v _=>B0 Tryz.func83 hI) fun r1 _=>Aa (.bool r1) J (Et (t:=false) J J)<|Bd<|B5 [(0,(.int .u8 c)),(8,(.bool r1))] (FI J)<|hJ r1 _ _ ⟨J,J⟩
theorem Afg (s:Ay):CP Tryz.prog 84 [(.str s)] (Tj s) (fun(x:Bool)=>(AV.bool x)):=by
 refine Cd (n:=29) 0 Tryz.func84 J (by decide) J J fun h0 ids hI=>Bn (Al (Tj.eq_1 _) ?_)
 refine Y<|O<|Aa (.bool false) J Ai<|Z<|Y<|Y<|O ?_
 refine Aa (.str s) J Ad<|Aa (.I (s.length:Int)) J (A2 (Fe Cf))<|Ab 2 [] [(7,(.bool (decide ((s.length:Int)<1))))] ?_
 refine B2 4 [(0,(.str s)),(11,(.bool ((decide ((s.length:Int)<1))||(decide ((s.length:Int) > 32)))))] ?_ fun hJ=>Bw (decide ((s.length:Int)<1)) (fun hb1=>?_) (fun hb1=>?_)
 ·refine Aa (.bool ((decide ((s.length:Int)<1))||(decide ((s.length:Int) > 32)))) J Ad<|Cz 5 ((fun(b:Bool)=>if b then(.ok false) else(if s.length≤Db then((each (fun _ a1=>fun _=>Ov a1) 0 s ()).bind (Dz (fun _=>.ok true) (fun r=>.ok r))) else .bad)):Bool→R Bool) (fun(b:Bool) (fr:Nat→AV) (h:Ag)=>fr=A5 [(0,(.str s)),(17,(.bool b))]∧h=hp h0 ids []) ?_ fun hJ1=>Dd (fun hb3=>?_) (fun hb3=>?_)
  ·rintro b fr h ⟨rfl,rfl⟩
   refine Z<|Bx J (fun hc=>?_) (fun hc=>?_)
   ·refine Y<|O<|Aa (.bool false) J Ai<|Z<|Bl (a:=false) (vs:=[(.bool false)]) Tryz.func84 hI J (.same _)
   refine Ax<|Y<|Y<|O<|Aa (.I 0) J Ai<|Z<|Ba ?_
   refine Abf fun hlim=>D6 [(0,(.str s)),(3,(.I 0))] (FI J)<|Eo (P:=Tryz.prog) s (fun _ a1=>fun _=>Ov a1) ((Dz (fun _=>.ok true) (fun r=>.ok r)):(Unit ⊕ Bool)→R Bool) (fun j=>fun _=>fun(fr:Nat→AV) (h:Ag)=>fr=A5 [(0,(.str s)),(3,(.I (j:Int)))]∧h=hp h0 ids []) () ?_ ?_ ?_
   ·exact⟨J,J⟩
   ·rintro j a1 ha1 W hW _ fr h ⟨rfl,rfl⟩
    refine Al (m':=Ov a1) J (Al (Ov.eq_1 _) ?_)
    refine Y<|Y<|O<|Ab 2 [] [(19,(.str s)),(18,(.I (j:Int)))] ?_
    refine Aa (.I (s.length:Int)) J (A2 (Fe Cf))<|Aa (.bool (decide ((j:Int)<(s.length:Int)))) J (Bh J J J)<|Z<|Dg J (Int.ofNat_lt.2 (Bg ha1))<|Ax<|Y<|Ba ?_
    refine Y<|O<|Ab 2 [] [(25,(.I (j:Int))),(24,(.str s))] ?_
    refine Aa (.int .u8 (a1.toNat:Int)) J (N9 (Abc Cf ha1))<|A7 [(.int .u8 (a1.toNat:Int))] J J J J ((Aab (a1.toNat:Int)) _) (fun v _=>B0 Tryz.func84 hI) fun r1 _=>Aa (.bool (!r1)) J (Oa J)<|Z<|D2 J (fun hc1=>?_) (fun hc1=>?_)
    ·refine Ax<|Bi<|O<|Ab 3 [] [(3,(.I (IntKind.wrap .i64 ((j:Int)+1))))] ?_
     refine Z<|Bo (E8 (hW () _ _ ⟨J,J⟩)) (.cons J (.cons (Eg (Bg ha1) hlim) .nil))
    refine Y<|O<|Aa (.bool false) J Ai<|Z<|E7<|Fh<|Bl (a:=false) (vs:=[(.bool false)]) Tryz.func84 hI J (.same _)
   rintro _ fr h ⟨rfl,rfl⟩
   refine Al (Fb _ _ _)<|Y<|Y<|O<|Ab 2 [] [(19,(.str s)),(18,(.I (s.length:Int)))] ?_
   refine Aa (.I (s.length:Int)) J (A2 (Fe Cf))<|Aa (.bool (decide ((s.length:Int)<(s.length:Int)))) J (Bh J J J)<|Z<|Df J (Int.lt_irrefl _)<|Cy J<|Y<|O ?_
   refine Aa (.bool true) J Ai<|Z<|Bl (a:=true) (vs:=[(.bool true)]) Tryz.func84 hI J (.same _)
  ·refine Az (t:=12) hb3 J<|Ab 5 [] [(17,(.bool true))] ?_
   refine Bd<|B5 [(0,(.str s)),(17,(.bool true))] (FI J)<|hJ1 true _ _ ⟨J,J⟩
  refine Az (t:=12) hb3 J<|By (tj:=12) (.str s) J J J Ad<|Dv fun a hz hx1=>By (tj:=12) (.int .u8 (a.toNat:Int)) J J J (N9 (Nz Cf hz hx1))<|A7 [(.int .u8 (a.toNat:Int))] J (Cq (tj:=12) J J) J J ((Tw (a.toNat:Int)) _) (fun v _=>B0 Tryz.func84 hI) fun r _=>Ab 2 [] [(17,(.bool (!r)))] ?_
  refine Bd<|B5 [(0,(.str s)),(17,(.bool (!r)))] (FI J)<|hJ1 (!r) _ _ ⟨J,J⟩
 ·refine Az (t:=7) hb1 J<|Ab 4 [] [(11,(.bool true))] ?_
  exact Bf hJ (.cons J (.cons (E6 hb1) .nil))
 refine Az (t:=7) hb1 J<|By (tj:=7) (.str s) J J J Ad<|By (tj:=7) (.I (s.length:Int)) J J J (A2 (Fe Cf))<|Ab 2 [] [(11,(.bool (decide ((s.length:Int) > 32))))] ?_
 exact Bf hJ (.cons J (.cons (E5 hb1) .nil))
theorem Adr (s:Ay):CP Tryz.prog 86 [(.str s)] (Rt s) (fun(p:(Int×Bool))=>AV.tup [(.int .i64 p.1),(.bool p.2)]):=by
 refine Cd (n:=31) 0 Tryz.func86 J (by decide) J J fun h0 ids hI=>Bn (Al (Rt.eq_1 _) ?_)
 refine Y<|O<|Ab 2 [] [] ?_
 refine Z<|Y<|O<|Aa (.I 0) J Ai<|Z<|Y<|Y ?_
 refine O<|Aa (.I 0) J Ai<|Z<|Ba<|Abf fun hlim=>D6 [(0,(.str s)),(4,(.I 0)),(5,(.I 0))] (FI J)<|Eo (P:=Tryz.prog) s (fun _ a=>fun n=>Np a n) ((Dz (fun n=>if((s.length:Int)==1) then(.ok (n,true)) else((C0 s 0).bind fun a1=>.ok (n,((a1.toNat:Int) != 48)))) (fun r=>.ok r)):(Int ⊕ (Int×Bool))→R (Int×Bool)) (fun j=>fun n=>fun(fr:Nat→AV) (h:Ag)=>fr=A5 [(0,(.str s)),(4,(.I n)),(5,(.I (j:Int)))]∧h=hp h0 ids []) 0 ?_ ?_ ?_
 ·exact⟨J,J⟩
 ·rintro j a ha W hW n fr h ⟨rfl,rfl⟩
  refine Al (m':=Np a n) J (Al (Np.eq_1 _ _) ?_)
  refine Y<|Y<|O<|Ab 2 [] [(7,(.str s)),(6,(.I (j:Int)))] ?_
  refine Aa (.I (s.length:Int)) J (A2 (Fe Cf))<|Aa (.bool (decide ((j:Int)<(s.length:Int)))) J (Bh J J J)<|Z<|Dg J (Int.ofNat_lt.2 (Bg ha))<|Ax<|Y<|Ba ?_
  refine Y<|O<|Ab 4 [] [(15,(.I (j:Int))),(14,(.str s)),(13,(.I (IntKind.wrap .i64 (10 * n))))] ?_
  refine Aa (.int .u8 (a.toNat:Int)) J (N9 (Abc Cf ha))<|Aa (.int .u8 (IntKind.wrap .u8 ((a.toNat:Int) - 48))) J (Bh J J J)<|Aa (.I (IntKind.wrap .i64 (IntKind.wrap .u8 ((a.toNat:Int) - 48)))) J (An9 (Ap0 ti5 C2))<|Ab 2 [] [(4,(.I (IntKind.wrap .i64 ((IntKind.wrap .i64 (10 * n))+(IntKind.wrap .i64 (IntKind.wrap .u8 ((a.toNat:Int) - 48)))))))] ?_
  refine Z<|Y<|O<|Ab 2 [] [(21,(.bool (decide ((IntKind.wrap .i64 ((IntKind.wrap .i64 (10 * n))+(IntKind.wrap .i64 (IntKind.wrap .u8 ((a.toNat:Int) - 48))))) > 1099511627776))))] ?_
  refine Z<|Na J (fun hc=>?_) (fun hc=>?_)
  ·refine Y<|O<|Ab 2 [] [(3,(.bool false)),(2,(.I 0))] ?_
   refine Z<|E7<|Fh<|Bl (a:=(0,false)) (vs:=[(.I 0),(.bool false)]) Tryz.func86 hI J (.tupL (.cons (.same _) (.cons (.same _) .nil)))
  refine Ax<|Bi<|O<|Ab 3 [] [(5,(.I (IntKind.wrap .i64 ((j:Int)+1))))] ?_
  refine Z<|Bo (E8 (hW (IntKind.wrap .i64 ((IntKind.wrap .i64 (10 * n))+(IntKind.wrap .i64 (IntKind.wrap .u8 ((a.toNat:Int) - 48))))) _ _ ⟨J,J⟩)) (.cons J (.cons J (.cons (Eg (Bg ha) hlim) .nil)))
 rintro n fr h ⟨rfl,rfl⟩
 refine Al (Fb _ _ _)<|Y<|Y<|O<|Ab 2 [] [(7,(.str s)),(6,(.I (s.length:Int)))] ?_
 refine Aa (.I (s.length:Int)) J (A2 (Fe Cf))<|Aa (.bool (decide ((s.length:Int)<(s.length:Int)))) J (Bh J J J)<|Z<|Df J (Int.lt_irrefl _)<|Cy J<|Y<|Ct Es [[],[],[1],[1,2],[1,2,3],[1,2,3,4],[1,2,3,4,5],[1,2,3,4,5,6],[1,2,3,4,5,6,7],[0,1,2,3,4],[0,1,2,3,4,5,6,7,8,8,9,9]] [(false,0),(false,1),(false,2),(false,3),(false,4),(false,5),(false,6),(false,7),(false,8),(false,9),(false,10)] (by kernel_rfl) ?_
 refine Af (.I n) J J Ad<|Af (.str s) J J Ad<|Af (.I (s.length:Int)) J J (A2 (Fe Cf))<|Af (.bool ((s.length:Int)==1)) J J (Bh J J J)<|Af (.bool ((s.length:Int)==1)) J J Ad<|Mh (fun hb=>?_) (fun hb=>?_)
 ·refine Ii (tj:=26) (b:=true) J J (congrArg AV.bool hb) J J<|Ii (tj:=26) (b:=true) J J (congrArg AV.bool hb) J J<|Ii (tj:=26) (b:=true) J J (congrArg AV.bool hb) J J<|Af (.bool true) J J (Et (t:=true) (congrArg AV.bool hb) J)<|Af (.I n) J J Ai<|Af (.bool true) J J Ai<|Ck ?_
  exact Bl (a:=(n,true)) (vs:=[(.I n),(.bool true)]) Tryz.func86 hI J (.tupL (.cons (.same _) (.cons (.same _) .nil)))
 refine G3 (tj:=26) (.str s) J J (congrArg AV.bool hb) J Ad<|Ny fun a1 hz hx1=>G3 (tj:=26) (.int .u8 (a1.toNat:Int)) J J (congrArg AV.bool hb) J (N9 (Nz Cf hz hx1))<|G3 (tj:=26) (.bool ((a1.toNat:Int) != 48)) J J (congrArg AV.bool hb) J (Bh J J J)<|Af (.bool ((a1.toNat:Int) != 48)) J J (Et (t:=false) (congrArg AV.bool hb) J)<|Af (.I n) J J Ai<|Af (.bool ((a1.toNat:Int) != 48)) J J Ai ?_
 refine Ck<|Bl (a:=(n,((a1.toNat:Int) != 48))) (vs:=[(.I n),(.bool ((a1.toNat:Int) != 48))]) Tryz.func86 hI J (.tupL (.cons (.same _) (.cons (.same _) .nil)))
theorem Aff (c:Int):CP Tryz.prog 87 [(.int .u8 c)] (Ru c) (fun(x:Bool)=>(AV.bool x)):=by
 refine Cd (n:=16) 0 Tryz.func87 J (by decide) J J fun h0 ids hI=>Bn (Al (Ru.eq_1 _) ?_)
 refine Y<|O<|Aa (.bool false) J Ai<|Z<|Y<|O<|Aa (.str [123,125,40,41,59,44,61,35,47,60,33,45,46]) J Ai ?_
 refine Z<|Y<|Y<|O<|Aa (.I 0) J Ai<|Z<|Ba ?_
 refine Abf fun hlim=>D6 [(0,(.int .u8 c)),(3,(.str [123,125,40,41,59,44,61,35,47,60,33,45,46])),(4,(.I 0))] (FI J)<|Eo (P:=Tryz.prog) [123,125,40,41,59,44,61,35,47,60,33,45,46] (fun _ a=>fun _=>So c a) ((Dz (fun _=>.ok false) (fun r=>.ok r)):(Unit ⊕ Bool)→R Bool) (fun j=>fun _=>fun(fr:Nat→AV) (h:Ag)=>fr=A5 [(0,(.int .u8 c)),(3,(.str [123,125,40,41,59,44,61,35,47,60,33,45,46])),(4,(.I (j:Int)))]∧h=hp h0 ids []) () ?_ ?_ ?_
 ·exact⟨J,J⟩
 ·rintro j a ha W hW _ fr h ⟨rfl,rfl⟩
  refine Al (m':=So c a) J (Al (So.eq_1 _ _) ?_)
  refine Y<|Y<|O<|Ab 2 [] [(6,(.str [123,125,40,41,59,44,61,35,47,60,33,45,46])),(5,(.I (j:Int)))] ?_
  refine Aa (.I ([123,125,40,41,59,44,61,35,47,60,33,45,46].length:Int)) J (A2 (Fe Cf))<|Aa (.bool (decide ((j:Int)<([123,125,40,41,59,44,61,35,47,60,33,45,46].length:Int)))) J (Bh J J J)<|Z<|Dg J (Int.ofNat_lt.2 (Bg ha))<|Ax<|Y<|Ba ?_
  refine Y<|O<|Ab 2 [] [(12,(.I (j:Int))),(11,(.str [123,125,40,41,59,44,61,35,47,60,33,45,46]))] ?_
  refine Aa (.int .u8 (a.toNat:Int)) J (N9 (Abc Cf ha))<|Ab 2 [] [(15,(.bool ((a.toNat:Int)==c)))] ?_
  refine Z<|Bx J (fun hc=>?_) (fun hc=>?_)
  ·refine Y<|O<|Aa (.bool true) J Ai<|Z<|E7<|Fh<|Bl (a:=true) (vs:=[(.bool true)]) Tryz.func87 hI J (.same _)
  refine Ax<|Bi<|O<|Ab 3 [] [(4,(.I (IntKind.wrap .i64 ((j:Int)+1))))] ?_
  refine Z<|Bo (E8 (hW () _ _ ⟨J,J⟩)) (.cons J (.cons J (.cons (Eg (Bg ha) hlim) .nil)))
 rintro _ fr h ⟨rfl,rfl⟩
 refine Al (Fb _ _ _)<|Y<|Y<|O<|Ab 2 [] [(6,(.str [123,125,40,41,59,44,61,35,47,60,33,45,46])),(5,(.I ([123,125,40,41,59,44,61,35,47,60,33,45,46].length:Int)))] ?_
 refine Aa (.I ([123,125,40,41,59,44,61,35,47,60,33,45,46].length:Int)) J (A2 (Fe Cf))<|Aa (.bool (decide (([123,125,40,41,59,44,61,35,47,60,33,45,46].length:Int)<([123,125,40,41,59,44,61,35,47,60,33,45,46].length:Int)))) J (Bh J J J)<|Z<|Df J (Int.lt_irrefl _)<|Cy J<|Y<|O ?_
 refine Aa (.bool false) J Ai<|Z<|Bl (a:=false) (vs:=[(.bool false)]) Tryz.func87 hI J (.same _)
theorem Ag7 (a:Ay):CP Tryz.prog 22 [(.str a)] (Ve a) (fun(p:((List Token)×Int×Int))=>AV.tup [(.sl 4 (List.map Ac p.1)),(.int .i64 p.2.1),(.int .i64 p.2.2)]):=by
 refine Cd (n:=138) 3 Tryz.func22 J (by decide) J J fun h0 ids hI=>Bn (Al (Ve.eq_1 _) ?_)
 refine Y<|O<|Ab 3 [] [] ?_
 refine Z<|Y<|Y<|O<|Aa (.str a) J Ad<|Aa (.I (a.length:Int)) J (A2 (Fe Cf))<|Aa (.bool (decide ((a.length:Int) > 65536))) J (Bh J J J) ?_
 refine Z<|Na J (fun hc=>?_) (fun hc=>?_)
 ·refine Y<|O<|Ab 3 [] [(4,(.I 2)),(3,(.I 0)),(2,.emp)] ?_
  refine Z<|Bl (a:=([],0,2)) (vs:=[.emp,(.I 0),(.I 2)]) Tryz.func22 hI J (.tupL (.cons (.emp _) (.cons (.same _) (.cons (.same _) .nil))))
 refine Ax<|Y<|O<|Apl J Ch C1<|Aa .emp J Ai<|Z<|Y ?_
 refine O<|Aa (.I 0) J Ai<|Z<|Y<|Dx (fun x8=>Ts x8) (fun x8=>fun(fr:Nat→AV) (h:Ag) => ∃ (v4:AV),∃ (g4:Nat),Av v4 (ix ids 0) g4 x8.length∧fr=A5 [(5,v4)]∧h=hp h0 ids [(Ah v4 g4 4 (List.map Ac x8)),none,none]) ?_ fun hJ8=>?_
 ·rintro x8 fr h ⟨v4,g4,vH4,rfl,rfl⟩
  refine Al (Ts.eq_1 _)<|Y<|O<|Ab 4 [] [(4,(.I 0)),(3,(.I 0)),(2,v4)] ?_
  refine Z<|Bl (a:=(x8,0,0)) (vs:=[v4,(.I 0),(.I 0)]) Tryz.func22 hI J (.tupL (.cons (D9 vH4 (hI.at J J) (hI.out J) (fun x=>Mq x)) (.cons (.same _) (.cons (.same _) .nil))))
 refine Ba<|D6 [(0,(.str a)),(5,.emp),(6,(.I 0))] (FI J)<|Lo (P:=Tryz.prog) (C4 fun x x1=>Ln a x x1) ((Dz (fun x8=>Ts x8) (fun r=>.ok r)):((List Token) ⊕ ((List Token)×Int×Int))→R ((List Token)×Int×Int)) (C4 fun x x1=>fun(fr:Nat→AV) (h:Ag) => ∃ (v:AV),∃ (g:Nat),Av v (ix ids 0) g x1.length∧fr=A5 [(0,(.str a)),(5,v),(6,(.I x))]∧h=hp h0 ids [(Ah v g 4 (List.map Ac x1)),none,none]) (0,[]) ?_ ?_
 ·exact⟨.emp,0,.nil,J,J⟩
 rintro vW hW ⟨x,x1⟩ fr h ⟨v,g,vH,rfl,rfl⟩
 refine Al (m':=Ln a x x1) J (Al (Ln.eq_1 _ _ _) ?_)
 refine Y<|Y<|O<|Ab 2 [] [(15,(.str a)),(14,(.I x))] ?_
 refine Aa (.I (a.length:Int)) J (A2 (Fe Cf))<|Aa (.bool (decide (x<(a.length:Int)))) J (Bh J J J)<|Z<|Na J (fun hc1=>?_) (fun hc1=>?_)
 ·refine Ax<|Ba<|Y<|O<|Ab 2 [] [(7,(.I x))] ?_
  refine Z<|Y<|Y<|O<|Ab 2 [] [(20,(.I x)),(19,(.str a))] ?_
  refine Dv fun a1 hz hx1=>Aa (.int .u8 (a1.toNat:Int)) J (N9 (Nz Cf hz hx1))<|A7 [(.int .u8 (a1.toNat:Int))] J J J J ((Aec (a1.toNat:Int)) _) (fun v _=>B0 Tryz.func22 hI) fun r _=>Z<|Bx J (fun hc2=>?_) (fun hc2=>?_)
  ·refine Y<|O<|Ab 3 [] [(6,(.I (IntKind.wrap .i64 (x+1))))] ?_
   refine Z<|Cy J<|Bo (G7 (hW ((IntKind.wrap .i64 (x+1)),x1) _ _ ⟨v,g,vH,J,J⟩))
  refine Ax<|Y<|Y<|O<|Ab 2 [] [(26,(.I x)),(25,(.str a))] ?_
  refine Aa (.int .u8 (a1.toNat:Int)) J (N9 (Nz Cf hz hx1))<|Ab 2 [] [(29,(.bool ((a1.toNat:Int)==47)))] ?_
  refine B2 6 [(0,(.str a)),(5,v),(6,(.I x)),(7,(.I x)),(35,(.bool (((a1.toNat:Int)==47)&&(decide ((IntKind.wrap .i64 (x+1))<(a.length:Int))))))] ?_ fun hJ=>Bw ((a1.toNat:Int)==47) (fun hb1=>?_) (fun hb1=>?_)
  ·refine Aa (.bool (((a1.toNat:Int)==47)&&(decide ((IntKind.wrap .i64 (x+1))<(a.length:Int))))) J Ad<|Cz 6 ((fun(b:Bool)=>if b then((loop (fun x2=>P5 a x2) x).bind (fun x3=>P0 x1 x3)) else((M7 (a1.toNat:Int)).bind fun r1=>if r1 then((loop (fun x4=>Qa a x4) x).bind (fun x5=>P6 a x x1 x5)) else((Nb (a1.toNat:Int)).bind fun r4=>if r4 then((loop (fun x6=>Qb a x6) x).bind (fun x7=>P8 a x x1 x7)) else((Ru (a1.toNat:Int)).bind fun r7=>if r7 then(if(0:Int)≤x∧x≤(IntKind.wrap .i64 (x+1))∧(IntKind.wrap .i64 (x+1))≤(a.length:Int) then if(x1.length+[({ Kind:=3,Text:=(Ih a x (IntKind.wrap .i64 (x+1))),N:=0,At:=x }:Token)].length) * 40≤Db then .ok (.inl ((IntKind.wrap .i64 (x+1)),(x1++[({ Kind:=3,Text:=(Ih a x (IntKind.wrap .i64 (x+1))),N:=0,At:=x }:Token)]))) else .bad else .bad) else(.ok (.inr (.inr (([],x,70))))))))):Bool→R ((Int×(List Token)) ⊕ ((List Token) ⊕ ((List Token)×Int×Int)))) (fun(b:Bool) (fr:Nat→AV) (h:Ag)=>fr=A5 [(0,(.str a)),(5,v),(6,(.I x)),(7,(.I x)),(42,(.bool b))]∧h=hp h0 ids [(Ah v g 4 (List.map Ac x1)),none,none]) ?_ fun hJ1=>Dd (fun hb3=>?_) (fun hb3=>?_)
   ·rintro b fr h ⟨rfl,rfl⟩
    refine Z<|Bx J (fun hc3=>?_) (fun hc3=>?_)
    ·refine Y<|Dx (fun x3=>P0 x1 x3) (fun x3=>fun(fr:Nat→AV) (h:Ag)=>fr=A5 [(0,(.str a)),(5,v),(6,(.I x3))]∧h=hp h0 ids [(Ah v g 4 (List.map Ac x1)),none,none]) ?_ fun hJ3=>?_
     ·rintro x3 fr h ⟨rfl,rfl⟩
      refine Al (P0.eq_1 _ _)<|Cy J<|Bo (G7 (hW (x3,x1) _ _ ⟨v,g,vH,J,J⟩))
     refine Ba<|D6 [(0,(.str a)),(5,v),(6,(.I x))] (FI J)<|Lo (P:=Tryz.prog) (fun x2=>P5 a x2) ((fun x3=>P0 x1 x3):Int→R ((Int×(List Token)) ⊕ ((List Token) ⊕ ((List Token)×Int×Int)))) (fun x2=>fun(fr:Nat→AV) (h:Ag)=>fr=A5 [(0,(.str a)),(5,v),(6,(.I x2))]∧h=hp h0 ids [(Ah v g 4 (List.map Ac x1)),none,none]) x ?_ ?_
     ·exact⟨J,J⟩
     rintro vW1 hW1 x2 fr h ⟨rfl,rfl⟩
     refine Al (m':=P5 a x2) J (Al (P5.eq_1 _ _) ?_)
     refine Y<|Y<|O<|Ab 2 [] [(44,(.str a)),(43,(.I x2))] ?_
     refine Aa (.I (a.length:Int)) J (A2 (Fe Cf))<|Ab 2 [] [(47,(.bool (decide (x2<(a.length:Int)))))] ?_
     refine Cz 5 ((fun(b1:Bool)=>if b1 then(.ok (.inl (IntKind.wrap .i64 (x2+1)))) else(.ok (.inr (x2)))):Bool→R (Int ⊕ Int)) (fun(b1:Bool) (fr:Nat→AV) (h:Ag)=>fr=A5 [(0,(.str a)),(5,v),(6,(.I x2)),(52,(.bool b1))]∧h=hp h0 ids [(Ah v g 4 (List.map Ac x1)),none,none]) ?_ fun hJ2=>Dd (fun hb5=>?_) (fun hb5=>?_)
     ·rintro b1 fr h ⟨rfl,rfl⟩
      refine Z<|Bx J (fun hc4=>?_) (fun hc4=>?_)
      ·refine Ax<|Ba<|O<|Ab 3 [] [(6,(.I (IntKind.wrap .i64 (x2+1))))] ?_
       refine Z<|Bi<|Bo (G7 (hW1 (IntKind.wrap .i64 (x2+1)) _ _ ⟨J,J⟩))
      refine Cy J<|Kq<|Bo (hJ3 x2 _ _ ⟨J,J⟩)
     ·refine Az (t:=47) hb5 J<|Ab 2 [] [(49,(.I x2)),(48,(.str a))] ?_
      refine Dv fun a3 hz2 hx3=>By (tj:=47) (.int .u8 (a3.toNat:Int)) J J J (N9 (Nz Cf hz2 hx3))<|Ab 2 [] [(52,(.bool ((a3.toNat:Int) != 10))),(51,(.bool ((a3.toNat:Int) != 10)))] ?_
      refine Bd<|B5 [(0,(.str a)),(5,v),(6,(.I x2)),(52,(.bool ((a3.toNat:Int) != 10)))] (FI J)<|hJ2 ((a3.toNat:Int) != 10) _ _ ⟨J,J⟩
     refine Az (t:=47) hb5 J<|Ab 5 [] [(52,(.bool false)),(51,.und),(50,.und),(49,.und),(48,.und)] ?_
     refine Bd<|B5 [(0,(.str a)),(5,v),(6,(.I x2)),(52,(.bool false))] (FI J)<|hJ2 false _ _ ⟨J,J⟩
    refine Ax<|Y<|Y<|O<|Ab 2 [] [(56,(.I x)),(55,(.str a))] ?_
    refine Aa (.int .u8 (a1.toNat:Int)) J (N9 (Nz Cf hz hx1))<|A7 [(.int .u8 (a1.toNat:Int))] J J J J ((Tw (a1.toNat:Int)) _) (fun v _=>B0 Tryz.func22 hI) fun r1 _=>Z<|Bx J (fun hc5=>?_) (fun hc5=>?_)
    ·refine Y<|Dx (fun x5=>P6 a x x1 x5) (fun x5=>fun(fr:Nat→AV) (h:Ag)=>fr=A5 [(0,(.str a)),(5,v),(6,(.I x5)),(7,(.I x))]∧h=hp h0 ids [(Ah v g 4 (List.map Ac x1)),none,none]) ?_ fun hJ5=>?_
     ·rintro x5 fr h ⟨rfl,rfl⟩
      refine Al (P6.eq_1 _ _ _ _)<|Y<|Y<|O<|Ab 3 [] [(73,(.I x5)),(72,(.I x)),(71,(.str a))] ?_
      refine Ee fun hs=>Aa (.str (Ih a x x5)) J (Fr (Yq Cf hs))<|A7 [(.str (Ih a x x5))] J J J J ((Afg (Ih a x x5)) _) (fun v _=>B0 Tryz.func22 hI) fun r3 _=>Aa (.bool (!r3)) J (Oa J)<|Z<|D2 J (fun hc7=>?_) (fun hc7=>?_)
      ·refine Ax<|Y<|O<|Ab 4 [] [(81,(.I x5)),(80,(.I x)),(79,(.str a)),(78,v)] ?_
       refine Ee fun hs1=>Aa (.str (Ih a x x5)) J (Fr (Yq Cf hs1))<|Ab 2 [] [(84,(.agg [(.I 1),(.str (Ih a x x5)),(.I 0),(.I x)]))] ?_
       refine C3 (e:=Ac) (L:=[({ Kind:=1,Text:=(Ih a x x5),N:=0,At:=x }:Token)]) (st:=4) (rows:=[[(.I 1),(.str (Ih a x x5)),(.I 0),(.I x)]]) J Ch C1 J J J J J (.cons (.cons (.same _) (.cons (.same _) (.cons (.same _) (.cons (.same _) .nil)))) .nil) (fun x=>Mq x) J J<|Ee fun hl=>Ha (e:=Ac) (L:=x1) (L2:=[({ Kind:=1,Text:=(Ih a x x5),N:=0,At:=x }:Token)]) (v:=v) (g:=g) (st:=4) (j:=0) hI J J J J vH J (Gb J) Ch Ch J C1 J J J hl fun v1 g1 vH1=>Aa v1 J Ai<|Z<|Aj ?_
       refine Cy J<|Bo (G7 (hW (x5,(x1++[({ Kind:=1,Text:=(Ih a x x5),N:=0,At:=x }:Token)])) _ _ ⟨v1,g1,vH1,J,J⟩))
      refine Y<|O<|Ab 4 [] [(4,(.I 70)),(3,(.I x)),(2,.emp)] ?_
      refine Z<|Kq<|Fh<|Bl (a:=([],x,70)) (vs:=[.emp,(.I x),(.I 70)]) Tryz.func22 hI J (.tupL (.cons (.emp _) (.cons (.same _) (.cons (.same _) .nil))))
     refine Ba<|D6 [(0,(.str a)),(5,v),(6,(.I x)),(7,(.I x))] (FI J)<|Lo (P:=Tryz.prog) (fun x4=>Qa a x4) ((fun x5=>P6 a x x1 x5):Int→R ((Int×(List Token)) ⊕ ((List Token) ⊕ ((List Token)×Int×Int)))) (fun x4=>fun(fr:Nat→AV) (h:Ag)=>fr=A5 [(0,(.str a)),(5,v),(6,(.I x4)),(7,(.I x))]∧h=hp h0 ids [(Ah v g 4 (List.map Ac x1)),none,none]) x ?_ ?_
     ·exact⟨J,J⟩
     rintro vW2 hW2 x4 fr h ⟨rfl,rfl⟩
     refine Al (m':=Qa a x4) J (Al (Qa.eq_1 _ _) ?_)
     refine Y<|Y<|O<|Ab 2 [] [(60,(.str a)),(59,(.I x4))] ?_
     refine Aa (.I (a.length:Int)) J (A2 (Fe Cf))<|Ab 2 [] [(63,(.bool (decide (x4<(a.length:Int)))))] ?_
     refine Cz 5 ((fun(b2:Bool)=>if b2 then(.ok (.inl (IntKind.wrap .i64 (x4+1)))) else(.ok (.inr (x4)))):Bool→R (Int ⊕ Int)) (fun(b2:Bool) (fr:Nat→AV) (h:Ag)=>fr=A5 [(0,(.str a)),(5,v),(6,(.I x4)),(7,(.I x)),(68,(.bool b2))]∧h=hp h0 ids [(Ah v g 4 (List.map Ac x1)),none,none]) ?_ fun hJ4=>Dd (fun hb7=>?_) (fun hb7=>?_)
     ·rintro b2 fr h ⟨rfl,rfl⟩
      refine Z<|Bx J (fun hc6=>?_) (fun hc6=>?_)
      ·refine Ax<|Ba<|O<|Ab 3 [] [(6,(.I (IntKind.wrap .i64 (x4+1))))] ?_
       refine Z<|Bi<|Bo (G7 (hW2 (IntKind.wrap .i64 (x4+1)) _ _ ⟨J,J⟩))
      refine Cy J<|Kq<|Bo (hJ5 x4 _ _ ⟨J,J⟩)
     ·refine Az (t:=63) hb7 J<|Ab 2 [] [(65,(.I x4)),(64,(.str a))] ?_
      refine Dv fun a4 hz3 hx4=>By (tj:=63) (.int .u8 (a4.toNat:Int)) J J J (N9 (Nz Cf hz3 hx4))<|A7 [(.int .u8 (a4.toNat:Int))] J (Cq (tj:=63) J J) J J ((Aab (a4.toNat:Int)) _) (fun v _=>B0 Tryz.func22 hI) fun r2 _=>Aa (.bool r2) J (Et (t:=true) J J)<|Bd<|B5 [(0,(.str a)),(5,v),(6,(.I x4)),(7,(.I x)),(68,(.bool r2))] (FI J)<|hJ4 r2 _ _ ⟨J,J⟩
     refine Az (t:=63) hb7 J<|Ab 5 [] [(68,(.bool false)),(67,.und),(66,.und),(65,.und),(64,.und)] ?_
     refine Bd<|B5 [(0,(.str a)),(5,v),(6,(.I x4)),(7,(.I x)),(68,(.bool false))] (FI J)<|hJ4 false _ _ ⟨J,J⟩
    refine Ax<|Y<|Y<|O<|Ab 2 [] [(88,(.I x)),(87,(.str a))] ?_
    refine Aa (.int .u8 (a1.toNat:Int)) J (N9 (Nz Cf hz hx1))<|A7 [(.int .u8 (a1.toNat:Int))] J J J J ((Tr (a1.toNat:Int)) _) (fun v _=>B0 Tryz.func22 hI) fun r4 _=>Z<|Bx J (fun hc8=>?_) (fun hc8=>?_)
    ·refine Y<|Dx (fun x7=>P8 a x x1 x7) (fun x7=>fun(fr:Nat→AV) (h:Ag)=>fr=A5 [(0,(.str a)),(5,v),(6,(.I x7)),(7,(.I x))]∧h=hp h0 ids [(Ah v g 4 (List.map Ac x1)),none,none]) ?_ fun hJ7=>?_
     ·rintro x7 fr h ⟨rfl,rfl⟩
      refine Al (P8.eq_1 _ _ _ _)<|Y<|O<|Ab 3 [] [(106,(.I x7)),(105,(.I x)),(104,(.str a))] ?_
      refine Ee fun hs2=>Aa (.str (Ih a x x7)) J (Fr (Yq Cf hs2))<|A7 [(.str (Ih a x x7))] J J J J ((Adr (Ih a x x7)) _) (fun v _=>B0 Tryz.func22 hI) fun r6 _=>Ab 5 [] [(9,(.bool r6.2)),(8,(.I r6.1))] ?_
      refine Z<|Y<|Y<|O<|Ab 2 [] [(112,(.bool (!r6.2)))] ?_
      refine Z<|D2 J (fun hc10=>?_) (fun hc10=>?_)
      ·refine Ax<|Y<|O<|Ab 4 [] [(117,(.agg [(.I 2),(.str []),(.I r6.1),(.I x)])),(114,v)] ?_
       refine C3 (e:=Ac) (L:=[({ Kind:=2,Text:=[],N:=r6.1,At:=x }:Token)]) (st:=4) (rows:=[[(.I 2),(.str []),(.I r6.1),(.I x)]]) J Ch C1 J J J J J (.cons (.cons (.same _) (.cons (.same _) (.cons (.same _) (.cons (.same _) .nil)))) .nil) (fun x=>Mq x) J J<|Ee fun hl1=>Ha (e:=Ac) (L:=x1) (L2:=[({ Kind:=2,Text:=[],N:=r6.1,At:=x }:Token)]) (v:=v) (g:=g) (st:=4) (j:=0) hI J J J J vH J (Gb J) Ch Ch J C1 J J J hl1 fun v2 g2 vH2=>Aa v2 J Ai<|Z<|Aj ?_
       refine Cy J<|Bo (G7 (hW (x7,(x1++[({ Kind:=2,Text:=[],N:=r6.1,At:=x }:Token)])) _ _ ⟨v2,g2,vH2,J,J⟩))
      refine Y<|O<|Ab 4 [] [(4,(.I 70)),(3,(.I x)),(2,.emp)] ?_
      refine Z<|Kq<|Fh<|Bl (a:=([],x,70)) (vs:=[.emp,(.I x),(.I 70)]) Tryz.func22 hI J (.tupL (.cons (.emp _) (.cons (.same _) (.cons (.same _) .nil))))
     refine Ba<|D6 [(0,(.str a)),(5,v),(6,(.I x)),(7,(.I x))] (FI J)<|Lo (P:=Tryz.prog) (fun x6=>Qb a x6) ((fun x7=>P8 a x x1 x7):Int→R ((Int×(List Token)) ⊕ ((List Token) ⊕ ((List Token)×Int×Int)))) (fun x6=>fun(fr:Nat→AV) (h:Ag)=>fr=A5 [(0,(.str a)),(5,v),(6,(.I x6)),(7,(.I x))]∧h=hp h0 ids [(Ah v g 4 (List.map Ac x1)),none,none]) x ?_ ?_
     ·exact⟨J,J⟩
     rintro vW3 hW3 x6 fr h ⟨rfl,rfl⟩
     refine Al (m':=Qb a x6) J (Al (Qb.eq_1 _ _) ?_)
     refine Y<|Y<|O<|Ab 2 [] [(92,(.str a)),(91,(.I x6))] ?_
     refine Aa (.I (a.length:Int)) J (A2 (Fe Cf))<|Ab 2 [] [(95,(.bool (decide (x6<(a.length:Int)))))] ?_
     refine Cz 5 ((fun(b3:Bool)=>if b3 then(.ok (.inl (IntKind.wrap .i64 (x6+1)))) else(.ok (.inr (x6)))):Bool→R (Int ⊕ Int)) (fun(b3:Bool) (fr:Nat→AV) (h:Ag)=>fr=A5 [(0,(.str a)),(5,v),(6,(.I x6)),(7,(.I x)),(100,(.bool b3))]∧h=hp h0 ids [(Ah v g 4 (List.map Ac x1)),none,none]) ?_ fun hJ6=>Dd (fun hb9=>?_) (fun hb9=>?_)
     ·rintro b3 fr h ⟨rfl,rfl⟩
      refine Z<|Bx J (fun hc9=>?_) (fun hc9=>?_)
      ·refine Ax<|Ba<|O<|Ab 3 [] [(6,(.I (IntKind.wrap .i64 (x6+1))))] ?_
       refine Z<|Bi<|Bo (G7 (hW3 (IntKind.wrap .i64 (x6+1)) _ _ ⟨J,J⟩))
      refine Cy J<|Kq<|Bo (hJ7 x6 _ _ ⟨J,J⟩)
     ·refine Az (t:=95) hb9 J<|Ab 2 [] [(97,(.I x6)),(96,(.str a))] ?_
      refine Dv fun a5 hz4 hx5=>By (tj:=95) (.int .u8 (a5.toNat:Int)) J J J (N9 (Nz Cf hz4 hx5))<|A7 [(.int .u8 (a5.toNat:Int))] J (Cq (tj:=95) J J) J J ((Tr (a5.toNat:Int)) _) (fun v _=>B0 Tryz.func22 hI) fun r5 _=>Aa (.bool r5) J (Et (t:=true) J J)<|Bd<|B5 [(0,(.str a)),(5,v),(6,(.I x6)),(7,(.I x)),(100,(.bool r5))] (FI J)<|hJ6 r5 _ _ ⟨J,J⟩
     refine Az (t:=95) hb9 J<|Ab 5 [] [(100,(.bool false)),(99,.und),(98,.und),(97,.und),(96,.und)] ?_
     refine Bd<|B5 [(0,(.str a)),(5,v),(6,(.I x6)),(7,(.I x)),(100,(.bool false))] (FI J)<|hJ6 false _ _ ⟨J,J⟩
    refine Ax<|Y<|Y<|O<|Ab 2 [] [(121,(.I x)),(120,(.str a))] ?_
    refine Aa (.int .u8 (a1.toNat:Int)) J (N9 (Nz Cf hz hx1))<|A7 [(.int .u8 (a1.toNat:Int))] J J J J ((Aff (a1.toNat:Int)) _) (fun v _=>B0 Tryz.func22 hI) fun r7 _=>Aa (.bool (!r7)) J (Oa J)<|Z<|D2 J (fun hc11=>?_) (fun hc11=>?_)
    ·refine Ax<|Y<|O<|Ab 3 [] [(6,(.I (IntKind.wrap .i64 (x+1))))] ?_
     refine Z<|O<|Ab 4 [] [(131,(.I (IntKind.wrap .i64 (x+1)))),(130,(.I x)),(129,(.str a)),(128,v)] ?_
     refine Ee fun hs3=>Aa (.str (Ih a x (IntKind.wrap .i64 (x+1)))) J (Fr (Yq Cf hs3))<|Ab 2 [] [(134,(.agg [(.I 3),(.str (Ih a x (IntKind.wrap .i64 (x+1)))),(.I 0),(.I x)]))] ?_
     refine C3 (e:=Ac) (L:=[({ Kind:=3,Text:=(Ih a x (IntKind.wrap .i64 (x+1))),N:=0,At:=x }:Token)]) (st:=4) (rows:=[[(.I 3),(.str (Ih a x (IntKind.wrap .i64 (x+1)))),(.I 0),(.I x)]]) J Ch C1 J J J J J (.cons (.cons (.same _) (.cons (.same _) (.cons (.same _) (.cons (.same _) .nil)))) .nil) (fun x=>Mq x) J J<|Ee fun hl2=>Ha (e:=Ac) (L:=x1) (L2:=[({ Kind:=3,Text:=(Ih a x (IntKind.wrap .i64 (x+1))),N:=0,At:=x }:Token)]) (v:=v) (g:=g) (st:=4) (j:=0) hI J J J J vH J (Gb J) Ch Ch J C1 J J J hl2 fun v3 g3 vH3=>Aa v3 J Ai<|Z<|Aj ?_
     refine Bi<|Bo (G7 (hW ((IntKind.wrap .i64 (x+1)),(x1++[({ Kind:=3,Text:=(Ih a x (IntKind.wrap .i64 (x+1))),N:=0,At:=x }:Token)])) _ _ ⟨v3,g3,vH3,J,J⟩))
    refine Y<|O<|Ab 4 [] [(4,(.I 70)),(3,(.I x)),(2,.emp)] ?_
    refine Z<|Kq<|Fh<|Bl (a:=([],x,70)) (vs:=[.emp,(.I x),(.I 70)]) Tryz.func22 hI J (.tupL (.cons (.emp _) (.cons (.same _) (.cons (.same _) .nil))))
   ·refine Az (t:=36) hb3 J<|Ab 3 [] [(39,(.I (IntKind.wrap .i64 (x+1)))),(38,(.I x)),(37,(.str a))] ?_
    refine Dv fun a2 hz1 hx2=>By (tj:=36) (.int .u8 (a2.toNat:Int)) J J J (N9 (Nz Cf hz1 hx2))<|Ab 2 [] [(42,(.bool ((a2.toNat:Int)==47))),(41,(.bool ((a2.toNat:Int)==47)))] ?_
    refine Bd<|B5 [(0,(.str a)),(5,v),(6,(.I x)),(7,(.I x)),(42,(.bool ((a2.toNat:Int)==47)))] (FI J)<|hJ1 ((a2.toNat:Int)==47) _ _ ⟨J,J⟩
   refine Az (t:=36) hb3 J<|Ab 6 [] [(42,(.bool false)),(41,.und),(40,.und),(39,.und),(38,.und),(37,.und)] ?_
   refine Bd<|B5 [(0,(.str a)),(5,v),(6,(.I x)),(7,(.I x)),(42,(.bool false))] (FI J)<|hJ1 false _ _ ⟨J,J⟩
  ·refine Az (t:=29) hb1 J<|Ab 3 [] [(32,(.str a)),(31,(.I (IntKind.wrap .i64 (x+1)))),(30,(.I x))] ?_
   refine By (tj:=29) (.I (a.length:Int)) J J J (A2 (Fe Cf))<|Ab 2 [] [(35,(.bool (decide ((IntKind.wrap .i64 (x+1))<(a.length:Int))))),(34,(.bool (decide ((IntKind.wrap .i64 (x+1))<(a.length:Int)))))] ?_
   exact Bf hJ (.cons J (.cons J (.cons J (.cons J (.cons (Hk hb1) .nil)))))
  refine Az (t:=29) hb1 J<|Ab 6 [] [(35,(.bool false)),(34,.und),(33,.und),(32,.und),(31,.und),(30,.und)] ?_
  exact Bf hJ (.cons J (.cons J (.cons J (.cons J (.cons (Hl hb1) .nil)))))
 refine Cy J<|Kq<|Apm<|Bo (hJ8 x1 _ _ ⟨v,g,vH,J,J⟩)
theorem Og (p:T69)(kind:Int)(text:Ay):CP Tryz.prog 113 [(.agg (A4 p)),(.int .i64 kind),(.str text)] (F1 p kind text) (fun(x:Bool)=>(AV.bool x)):=by
 refine Cd (n:=40) 1 Tryz.func113 J (by decide) J J fun h0 ids hI=>Bn (Al (F1.eq_1 _ _ _) ?_)
 refine Y<|O<|Cl (v:=(.agg (A4 p))) (j:=0) hI J J J J J J J fun g=>Aa (.bool false) J Ai<|Z<|Aj ?_
 refine Y<|O<|Ab 4 [0] [(10,(.bool (p.E==0)))] ?_
 refine B2 7 [(1,(.I kind)),(2,(.str text)),(3,(.q ids 0 g)),(17,(.bool ((p.E==0)&&(decide (p.N<(p.L.length:Int))))))] ?_ fun hJ=>Bw (p.E==0) (fun hb1=>?_) (fun hb1=>?_)
 ·refine Aa (.bool ((p.E==0)&&(decide (p.N<(p.L.length:Int))))) J Ad<|Cz 10 ((fun(b:Bool)=>(if b then(C0 p.L p.N).bind fun a1=>R.ok (a1.Text==text) else R.ok false).bind (fun(b1:Bool)=>.ok b1)):Bool→R Bool) (fun(b:Bool) (fr:Nat→AV) (h:Ag)=>fr=A5 [(2,(.str text)),(3,(.q ids 0 g)),(28,(.bool b))]∧h=hp h0 ids [(some (.rows g 5 [(A4 p)]))]) ?_ fun hJ1=>Dd (fun hb3=>?_) (fun hb3=>?_)
  ·rintro b fr h ⟨rfl,rfl⟩
   refine Aa (.bool b) J Ad<|Cz 10 ((fun(b1:Bool)=>.ok b1):Bool→R Bool) (fun(b1:Bool) (fr:Nat→AV) (h:Ag)=>fr=A5 [(39,(.bool b1))]∧h=hp h0 ids [(some (.rows g 5 [(A4 p)]))]) ?_ fun hJ2=>Dd (fun hb5=>?_) (fun hb5=>?_)
   ·rintro b1 fr h ⟨rfl,rfl⟩
    refine Aa (.bool b1) J Ai<|Z<|Bl (a:=b1) (vs:=[(.bool b1)]) Tryz.func113 hI J (.same _)
   ·refine Az (t:=29) hb5 J<|Ab 4 [0,0] [(33,(.I p.N)),(31,(.sl 4 (List.map Ac p.L)))] ?_
    refine Dv fun a1 hz1 hx2=>By (tj:=29) (.cp (Ac a1) 0) J J J (Bz (Dc Ch C1 J hz1 hx2))<|Ab 5 [] [(39,(.bool (a1.Text==text)))] ?_
    refine Bd<|B5 [(39,(.bool (a1.Text==text)))] (FI J)<|hJ2 (a1.Text==text) _ _ ⟨J,J⟩
   refine Az (t:=29) hb5 J<|Ab 10 [] [(39,(.bool false))] ?_
   refine Bd<|B5 [(39,(.bool false))] (FI J)<|hJ2 false _ _ ⟨J,J⟩
  ·refine Az (t:=18) hb3 J<|Ab 4 [0,0] [(22,(.I p.N)),(20,(.sl 4 (List.map Ac p.L)))] ?_
   refine Dv fun a hz hx1=>By (tj:=18) (.cp (Ac a) 0) J J J (Bz (Dc Ch C1 J hz hx1))<|Ab 5 [] [(28,(.bool (a.Kind==kind)))] ?_
   refine Bd<|B5 [(2,(.str text)),(3,(.q ids 0 g)),(28,(.bool (a.Kind==kind)))] (FI J)<|hJ1 (a.Kind==kind) _ _ ⟨J,J⟩
  refine Az (t:=18) hb3 J<|Ab 10 [] [(28,(.bool false))] ?_
  refine Bd<|B5 [(2,(.str text)),(3,(.q ids 0 g)),(28,(.bool false))] (FI J)<|hJ1 false _ _ ⟨J,J⟩
 ·refine Az (t:=10) hb1 J<|Ab 4 [0,0] [(14,(.sl 4 (List.map Ac p.L))),(12,(.I p.N))] ?_
  refine By (tj:=10) (.I (p.L.length:Int)) J J J (A2 (Bk Ch))<|Ab 2 [] [(17,(.bool (decide (p.N<(p.L.length:Int)))))] ?_
  exact Bf hJ (.cons J (.cons J (.cons J (.cons (Hk hb1) .nil))))
 refine Az (t:=10) hb1 J<|Ab 7 [] [(17,(.bool false))] ?_
 exact Bf hJ (.cons J (.cons J (.cons J (.cons (Hl hb1) .nil))))
theorem Adl (p:T69):CP Tryz.prog 88 [(.agg (A4 p))] (Rn p) (fun(x:Int)=>(AV.int .i64 x)):=by
 refine Cd (n:=33) 1 Tryz.func88 J (by decide) J J fun h0 ids hI=>Bn (Al (Rn.eq_1 _) ?_)
 refine Y<|O<|Cl (v:=(.agg (A4 p))) (j:=0) hI J J J J J J J fun g=>Aa (.I 0) J Ai<|Z<|Aj ?_
 refine Y<|O<|C3 (e:=rS) (L:=[[118,111,108,117,109,101],[115,101,99,116,111,114],[99,111,110,102,105,103],[115,101,103,109,101,110,116],[114,111,117,116,101],[97,105,114,112,111,114,116],[99,108,97,115,115]]) (st:=1) (rows:=[[(.str [118,111,108,117,109,101])],[(.str [115,101,99,116,111,114])],[(.str [99,111,110,102,105,103])],[(.str [115,101,103,109,101,110,116])],[(.str [114,111,117,116,101])],[(.str [97,105,114,112,111,114,116])],[(.str [99,108,97,115,115])]]) J D0 Cf J J J J J (.cons (RowSim.refl _) (.cons (RowSim.refl _) (.cons (RowSim.refl _) (.cons (RowSim.refl _) (.cons (RowSim.refl _) (.cons (RowSim.refl _) (.cons (RowSim.refl _) .nil))))))) (fun x=>Gp x) J J<|Aa (.sl 1 (List.map rS [[118,111,108,117,109,101],[115,101,99,116,111,114],[99,111,110,102,105,103],[115,101,103,109,101,110,116],[114,111,117,116,101],[97,105,114,112,111,114,116],[99,108,97,115,115]])) J Ai<|Z<|Y<|Y ?_
 refine O<|Aa (.I 0) J Ai<|Z<|Ba<|D6 [(1,(.q ids 0 g)),(3,(.sl 1 (List.map rS [[118,111,108,117,109,101],[115,101,99,116,111,114],[99,111,110,102,105,103],[115,101,103,109,101,110,116],[114,111,117,116,101],[97,105,114,112,111,114,116],[99,108,97,115,115]]))),(4,(.I 0))] (FI J)<|Eo (P:=Tryz.prog) [[118,111,108,117,109,101],[115,101,99,116,111,114],[99,111,110,102,105,103],[115,101,103,109,101,110,116],[114,111,117,116,101],[97,105,114,112,111,114,116],[99,108,97,115,115]] (fun j a=>fun _=>K9 p j a) ((Dz (fun _=>(F1 p 1 [99,117,114,102,101,119]).bind fun r1=>(if r1 then R.ok true else(F1 p 1 [101,120,101,109,112,116]).bind fun r2=>R.ok r2).bind (fun(b:Bool)=>(if b then R.ok true else(F1 p 1 [119,101,105,103,104,116]).bind fun r3=>R.ok r3).bind (fun(b1:Bool)=>(if b1 then R.ok true else(F1 p 1 [108,111,110,103,101,115,116]).bind fun r4=>R.ok r4).bind (fun(b2:Bool)=>if b2 then(.ok 7) else(.ok (-1)))))) (fun r=>.ok r)):(Unit ⊕ Int)→R Int) (fun j=>fun _=>fun(fr:Nat→AV) (h:Ag)=>fr=A5 [(1,(.q ids 0 g)),(3,(.sl 1 (List.map rS [[118,111,108,117,109,101],[115,101,99,116,111,114],[99,111,110,102,105,103],[115,101,103,109,101,110,116],[114,111,117,116,101],[97,105,114,112,111,114,116],[99,108,97,115,115]]))),(4,(.I (j:Int)))]∧h=hp h0 ids [(some (.rows g 5 [(A4 p)]))]) () ?_ ?_ ?_
 ·exact⟨J,J⟩
 ·rintro j a ha W hW _ fr h ⟨rfl,rfl⟩
  refine Al (m':=K9 p j a) J (Al (K9.eq_1 _ _ _) ?_)
  refine Y<|Y<|O<|Ab 2 [] [(7,(.sl 1 (List.map rS [[118,111,108,117,109,101],[115,101,99,116,111,114],[99,111,110,102,105,103],[115,101,103,109,101,110,116],[114,111,117,116,101],[97,105,114,112,111,114,116],[99,108,97,115,115]]))),(6,(.I (j:Int)))] ?_
  refine Aa (.I ([[118,111,108,117,109,101],[115,101,99,116,111,114],[99,111,110,102,105,103],[115,101,103,109,101,110,116],[114,111,117,116,101],[97,105,114,112,111,114,116],[99,108,97,115,115]].length:Int)) J (A2 (Bk D0))<|Aa (.bool (decide ((j:Int)<([[118,111,108,117,109,101],[115,101,99,116,111,114],[99,111,110,102,105,103],[115,101,103,109,101,110,116],[114,111,117,116,101],[97,105,114,112,111,114,116],[99,108,97,115,115]].length:Int)))) J (Bh J J J)<|Z<|Ev (t:=3) (L:=[[118,111,108,117,109,101],[115,101,99,116,111,114],[99,111,110,102,105,103],[115,101,103,109,101,110,116],[114,111,117,116,101],[97,105,114,112,111,114,116],[99,108,97,115,115]]) J fun hlim=>Dg J (Int.ofNat_lt.2 (Bg ha))<|Ax<|Y ?_
  refine Ba<|Y<|Ct Es [[],[],[],[1,2],[1,2,3],[0,1,2,3,4]] [(false,0),(false,1),(false,2),(false,3),(false,4),(true,5)] (by kernel_rfl)<|Af (.agg (A4 p)) J J (Au (A3 hI J J J Cr J))<|Af (.sl 1 (List.map rS [[118,111,108,117,109,101],[115,101,99,116,111,114],[99,111,110,102,105,103],[115,101,103,109,101,110,116],[114,111,117,116,101],[97,105,114,112,111,114,116],[99,108,97,115,115]])) J J Ad<|Af (.I (j:Int)) J J Ad<|Af (.cp [(.str a)] 0) J J (Bz (Ea D0 Cf J ha)) ?_
  refine Af (.str a) J J (Au (C7 Cf J))<|Oy [(.agg (A4 p)),(.I 1),(.str a)] J J J J J ((Og p 1 a) _) (fun v _ _ _=>B0 Tryz.func88 hI) (Ae J (Ae J (Ae J (Ae J (Ae J Bp))))) fun r _=>Ck<|Bx J (fun hc=>?_) (fun hc=>?_)
  ·refine Y<|O<|Ab 2 [] [(2,(.I (j:Int)))] ?_
   refine Z<|E7<|Fh<|Bl (a:=(j:Int)) (vs:=[(.I (j:Int))]) Tryz.func88 hI J (.same _)
  refine Ax<|Bi<|O<|Ab 3 [] [(4,(.I (IntKind.wrap .i64 ((j:Int)+1))))] ?_
  refine Z<|Bo (E8 (hW () _ _ ⟨J,J⟩)) (.cons J (.cons J (.cons (Eg (Bg ha) hlim) .nil)))
 rintro _ fr h ⟨rfl,rfl⟩
 refine Al (Fb _ _ _)<|Y<|Y<|O<|Ab 2 [] [(7,(.sl 1 (List.map rS [[118,111,108,117,109,101],[115,101,99,116,111,114],[99,111,110,102,105,103],[115,101,103,109,101,110,116],[114,111,117,116,101],[97,105,114,112,111,114,116],[99,108,97,115,115]]))),(6,(.I ([[118,111,108,117,109,101],[115,101,99,116,111,114],[99,111,110,102,105,103],[115,101,103,109,101,110,116],[114,111,117,116,101],[97,105,114,112,111,114,116],[99,108,97,115,115]].length:Int)))] ?_
 refine Aa (.I ([[118,111,108,117,109,101],[115,101,99,116,111,114],[99,111,110,102,105,103],[115,101,103,109,101,110,116],[114,111,117,116,101],[97,105,114,112,111,114,116],[99,108,97,115,115]].length:Int)) J (A2 (Bk D0))<|Aa (.bool (decide (([[118,111,108,117,109,101],[115,101,99,116,111,114],[99,111,110,102,105,103],[115,101,103,109,101,110,116],[114,111,117,116,101],[97,105,114,112,111,114,116],[99,108,97,115,115]].length:Int)<([[118,111,108,117,109,101],[115,101,99,116,111,114],[99,111,110,102,105,103],[115,101,103,109,101,110,116],[114,111,117,116,101],[97,105,114,112,111,114,116],[99,108,97,115,115]].length:Int)))) J (Bh J J J)<|Z<|Df J (Int.lt_irrefl _)<|Cy J<|Y<|Y ?_
 refine O<|Ab 1 [0] [(19,(.agg (A4 p)))] ?_
 refine A7 [(.agg (A4 p)),(.I 1),(.str [99,117,114,102,101,119])] J J J J ((Og p 1 [99,117,114,102,101,119]) _) (fun v _=>B0 Tryz.func88 hI) fun r1 _=>Aa (.bool r1) J Ad<|Cz 3 ((fun(b:Bool)=>(if b then R.ok true else(F1 p 1 [119,101,105,103,104,116]).bind fun r3=>R.ok r3).bind (fun(b1:Bool)=>(if b1 then R.ok true else(F1 p 1 [108,111,110,103,101,115,116]).bind fun r4=>R.ok r4).bind (fun(b2:Bool)=>if b2 then(.ok 7) else(.ok (-1))))):Bool→R Int) (fun(b:Bool) (fr:Nat→AV) (h:Ag)=>fr=A5 [(1,(.q ids 0 g)),(24,(.bool b))]∧h=hp h0 ids [(some (.rows g 5 [(A4 p)]))]) ?_ fun hJ=>Dd (fun hb1=>?_) (fun hb1=>?_)
 ·rintro b fr h ⟨rfl,rfl⟩
  refine Aa (.bool b) J Ad<|Cz 3 ((fun(b1:Bool)=>(if b1 then R.ok true else(F1 p 1 [108,111,110,103,101,115,116]).bind fun r4=>R.ok r4).bind (fun(b2:Bool)=>if b2 then(.ok 7) else(.ok (-1)))):Bool→R Int) (fun(b1:Bool) (fr:Nat→AV) (h:Ag)=>fr=A5 [(1,(.q ids 0 g)),(28,(.bool b1))]∧h=hp h0 ids [(some (.rows g 5 [(A4 p)]))]) ?_ fun hJ1=>Dd (fun hb3=>?_) (fun hb3=>?_)
  ·rintro b1 fr h ⟨rfl,rfl⟩
   refine Aa (.bool b1) J Ad<|Cz 3 ((fun(b2:Bool)=>if b2 then(.ok 7) else(.ok (-1))):Bool→R Int) (fun(b2:Bool) (fr:Nat→AV) (h:Ag)=>fr=A5 [(32,(.bool b2))]∧h=hp h0 ids [(some (.rows g 5 [(A4 p)]))]) ?_ fun hJ2=>Dd (fun hb5=>?_) (fun hb5=>?_)
   ·rintro b2 fr h ⟨rfl,rfl⟩
    refine Z<|Bx J (fun hc1=>?_) (fun hc1=>?_)
    ·refine Y<|O<|Aa (.I 7) J Ai<|Z<|Bl (a:=7) (vs:=[(.I 7)]) Tryz.func88 hI J (.same _)
    refine Ax<|Y<|O<|Aa (.I (-1)) J Ai<|Z<|Bl (a:=(-1)) (vs:=[(.I (-1))]) Tryz.func88 hI J (.same _)
   ·refine Az (t:=29) hb5 J<|Ab 3 [] [(32,(.bool true))] ?_
    refine Bd<|B5 [(32,(.bool true))] (FI J)<|hJ2 true _ _ ⟨J,J⟩
   refine Az (t:=29) hb5 J<|Ab 1 [0] [(30,(.agg (A4 p)))] ?_
   refine A7 [(.agg (A4 p)),(.I 1),(.str [108,111,110,103,101,115,116])] J (Cq (tj:=29) J J) J J ((Og p 1 [108,111,110,103,101,115,116]) _) (fun v _=>B0 Tryz.func88 hI) fun r4 _=>Aa (.bool r4) J (Et (t:=false) J J)<|Bd<|B5 [(32,(.bool r4))] (FI J)<|hJ2 r4 _ _ ⟨J,J⟩
  ·refine Az (t:=25) hb3 J<|Ab 3 [] [(28,(.bool true))] ?_
   refine Bd<|B5 [(1,(.q ids 0 g)),(28,(.bool true))] (FI J)<|hJ1 true _ _ ⟨J,J⟩
  refine Az (t:=25) hb3 J<|Ab 1 [0] [(26,(.agg (A4 p)))] ?_
  refine A7 [(.agg (A4 p)),(.I 1),(.str [119,101,105,103,104,116])] J (Cq (tj:=25) J J) J J ((Og p 1 [119,101,105,103,104,116]) _) (fun v _=>B0 Tryz.func88 hI) fun r3 _=>Aa (.bool r3) J (Et (t:=false) J J)<|Bd<|B5 [(1,(.q ids 0 g)),(28,(.bool r3))] (FI J)<|hJ1 r3 _ _ ⟨J,J⟩
 ·refine Az (t:=21) hb1 J<|Ab 3 [] [(24,(.bool true))] ?_
  refine Bd<|B5 [(1,(.q ids 0 g)),(24,(.bool true))] (FI J)<|hJ true _ _ ⟨J,J⟩
 refine Az (t:=21) hb1 J<|Ab 1 [0] [(22,(.agg (A4 p)))] ?_
 refine A7 [(.agg (A4 p)),(.I 1),(.str [101,120,101,109,112,116])] J (Cq (tj:=21) J J) J J ((Og p 1 [101,120,101,109,112,116]) _) (fun v _=>B0 Tryz.func88 hI) fun r2 _=>Aa (.bool r2) J (Et (t:=false) J J)<|Bd<|B5 [(1,(.q ids 0 g)),(24,(.bool r2))] (FI J)<|hJ r2 _ _ ⟨J,J⟩
theorem Ou (p:T69)(e:Int):CP Tryz.prog 89 [(.agg (A4 p)),(.int .i64 e)] (F4 p e) (fun(x:T69)=>(AV.agg (A4 x))):=by
 refine Cd (n:=29) 2 Tryz.func89 J (by decide) J J fun h0 ids hI=>Bn (Al (F4.eq_1 _ _) ?_)
 refine Y<|O<|Cl (v:=(.agg (A4 p))) (j:=0) hI J J J J J J J fun g=>A8 (j:=1) hI J J J J Cr J fun g1=>Z<|Aj ?_
 refine Y<|Y<|O<|Ab 3 [0] [(7,(.bool (p.E != 0)))] ?_
 refine Z<|Bx J (fun hc=>?_) (fun hc=>?_)
 ·refine Y<|O<|Ab 1 [0] [(8,(.agg (A4 p)))] ?_
  refine An (Aq (v:=(.agg (A4 p))) hI J J J J Cr J J J J J)<|Z<|Aj ?_
  exact Bl (a:=p) (vs:=[(.agg (A4 p))]) Tryz.func89 hI (Cc (A3 hI J J J Cr J) C8) (.same _)
 refine Ax<|Y<|O<|Ab 2 [] [(10,(.ptr (ix ids 0) g 0 3)),(9,(.I e))] ?_
 refine An (Aq (v:=(.I e)) hI J J J J K5 J J J J J)<|Z<|Aj ?_
 refine Y<|O<|Ab 3 [0] [(13,(.ptr (ix ids 0) g 0 4)),(12,(.I p.End))] ?_
 refine An (Aq (v:=(.I p.End)) hI J J J J C2 J J J J J)<|Z<|Aj ?_
 refine Y<|Y<|O<|Ab 4 [0,0] [(17,(.sl 4 (List.map Ac p.L))),(15,(.I p.N))] ?_
 refine Aa (.I (p.L.length:Int)) J (A2 (Bk Ch))<|Aa (.bool (decide (p.N<(p.L.length:Int)))) J (Bh J J J)<|Z<|Na J (fun hc1=>?_) (fun hc1=>?_)
 ·refine O<|Ab 4 [0,0] [(23,(.I p.N)),(21,(.sl 4 (List.map Ac p.L)))] ?_
  refine Dv fun a hz hx1=>Aa (.cp (Ac a) 0) J (Bz (Dc Ch C1 J hz hx1))<|Ab 3 [] [(27,(.ptr (ix ids 0) g 0 4)),(26,(.I a.At))] ?_
  refine An (Aq (v:=(.I a.At)) hI J J J J C2 J J J J J)<|Z<|Aj ?_
  refine Y<|O<|Ab 1 [0] [(28,(.agg [(.sl 4 (List.map Ac p.L)),(.I p.N),(.I p.End),(.I e),(.I a.At)]))] ?_
  refine An (Aq (v:=(.agg [(.sl 4 (List.map Ac p.L)),(.I p.N),(.I p.End),(.I e),(.I a.At)])) hI J J J J Cr J J J J J)<|Z<|Aj ?_
  exact Bl (a:=({ L:=p.L,N:=p.N,End:=p.End,E:=e,At:=a.At }:T69)) (vs:=[(.agg [(.sl 4 (List.map Ac p.L)),(.I p.N),(.I p.End),(.I e),(.I a.At)])]) Tryz.func89 hI (Cc (A3 hI J J J Cr J) C8) (.aggL (.cons (.same _) (.cons (.same _) (.cons (.same _) (.cons (.same _) (.cons (.same _) .nil))))))
 refine Ax<|Y<|O<|Ab 1 [0] [(28,(.agg [(.sl 4 (List.map Ac p.L)),(.I p.N),(.I p.End),(.I e),(.I p.End)]))] ?_
 refine An (Aq (v:=(.agg [(.sl 4 (List.map Ac p.L)),(.I p.N),(.I p.End),(.I e),(.I p.End)])) hI J J J J Cr J J J J J)<|Z<|Aj ?_
 exact Bl (a:=({ L:=p.L,N:=p.N,End:=p.End,E:=e,At:=p.End }:T69)) (vs:=[(.agg [(.sl 4 (List.map Ac p.L)),(.I p.N),(.I p.End),(.I e),(.I p.End)])]) Tryz.func89 hI (Cc (A3 hI J J J Cr J) C8) (.aggL (.cons (.same _) (.cons (.same _) (.cons (.same _) (.cons (.same _) (.cons (.same _) .nil))))))
theorem Afd (a:Airspace)(kind:Int):CP Tryz.prog 90 [(.agg (A6 a)),(.int .i64 kind)] (H9 a kind) (fun(x:Bool)=>(AV.bool x)):=by
 refine Cd (n:=42) 1 Tryz.func90 J (by decide) J J fun h0 ids hI=>Bn (Al (H9.eq_1 _ _) ?_)
 refine Y<|O<|Cl (v:=(.agg (A6 a))) (j:=0) hI J J J J J J J fun g=>Aa (.bool false) J Ai<|Z<|Aj ?_
 refine Y<|O<|Ab 2 [0] [(8,(.sl 2 (List.map Aw a.Volumes)))] ?_
 refine Aa (.I (a.Volumes.length:Int)) J (A2 (Bk Hj))<|Ab 2 [0] [(11,(.sl 5 (List.map A9 a.Sectors)))] ?_
 refine Aa (.I (a.Sectors.length:Int)) J (A2 (Bk J1))<|Ab 2 [0] [(14,(.sl 3 (List.map Bj a.Configs)))] ?_
 refine Aa (.I (a.Configs.length:Int)) J (A2 (Bk L1))<|Ab 2 [0] [(17,(.sl 5 (List.map Be a.Segments)))] ?_
 refine Aa (.I (a.Segments.length:Int)) J (A2 (Bk L0))<|Ab 2 [0] [(20,(.sl 7 (List.map Bu a.Routes)))] ?_
 refine Aa (.I (a.Routes.length:Int)) J (A2 (Bk Ly))<|Ab 2 [0] [(23,(.sl 2 (List.map Bb a.Airports)))] ?_
 refine Aa (.I (a.Airports.length:Int)) J (A2 (Bk Lc))<|Ab 2 [0] [(26,(.sl 4 (List.map B4 a.Classes)))] ?_
 refine Aa (.I (a.Classes.length:Int)) J (A2 (Bk J2))<|Ab 2 [0] [(29,(.sl 8 (List.map Bc a.Rules)))] ?_
 refine Aa (.I (a.Rules.length:Int)) J (A2 (Bk Fg))<|C3 (e:=(rI .i64)) (L:=[(a.Volumes.length:Int),(a.Sectors.length:Int),(a.Configs.length:Int),(a.Segments.length:Int),(a.Routes.length:Int),(a.Airports.length:Int),(a.Classes.length:Int),(a.Rules.length:Int)]) (st:=1) (rows:=[[(.I (a.Volumes.length:Int))],[(.I (a.Sectors.length:Int))],[(.I (a.Configs.length:Int))],[(.I (a.Segments.length:Int))],[(.I (a.Routes.length:Int))],[(.I (a.Airports.length:Int))],[(.I (a.Classes.length:Int))],[(.I (a.Rules.length:Int))]]) J O9 C2 J J J J J (.cons (RowSim.refl _) (.cons (RowSim.refl _) (.cons (RowSim.refl _) (.cons (RowSim.refl _) (.cons (RowSim.refl _) (.cons (RowSim.refl _) (.cons (RowSim.refl _) (.cons (RowSim.refl _) .nil)))))))) (fun x=>Adz x) J J<|Aa (.sl 1 (List.map (rI .i64) [(a.Volumes.length:Int),(a.Sectors.length:Int),(a.Configs.length:Int),(a.Segments.length:Int),(a.Routes.length:Int),(a.Airports.length:Int),(a.Classes.length:Int),(a.Rules.length:Int)])) J Ai<|Z<|Y<|O<|C3 (e:=(rI .i64)) (L:=[64,64,32,128,64,16,8,64]) (st:=1) (rows:=[[(.I 64)],[(.I 64)],[(.I 32)],[(.I 128)],[(.I 64)],[(.I 16)],[(.I 8)],[(.I 64)]]) J O9 C2 J J J J J (.cons (RowSim.refl _) (.cons (RowSim.refl _) (.cons (RowSim.refl _) (.cons (RowSim.refl _) (.cons (RowSim.refl _) (.cons (RowSim.refl _) (.cons (RowSim.refl _) (.cons (RowSim.refl _) .nil)))))))) (fun x=>Adz x) J J ?_
 refine Aa (.sl 1 (List.map (rI .i64) [64,64,32,128,64,16,8,64])) J Ai<|Z<|Y<|Ct Es [[],[],[0,1],[0,1,2],[],[],[4,5],[4,5,6],[0,1,2,3,4,5,6,7],[0,1,2,3,4,5,6,7,8,8]] [(false,0),(false,1),(false,2),(false,3),(false,4),(false,5),(false,6),(false,7),(false,8),(false,9)] (by kernel_rfl)<|Af (.sl 1 (List.map (rI .i64) [(a.Volumes.length:Int),(a.Sectors.length:Int),(a.Configs.length:Int),(a.Segments.length:Int),(a.Routes.length:Int),(a.Airports.length:Int),(a.Classes.length:Int),(a.Rules.length:Int)])) J J Ad<|Af (.I kind) J J Ad<|Ny fun a1 hz hx1=>?_
 refine Af (.cp [(.I a1)] 0) J J (Bz (Dc O9 C2 J hz hx1))<|Af (.I a1) J J (Au (C7 C2 J))<|Af (.sl 1 (List.map (rI .i64) [64,64,32,128,64,16,8,64])) J J Ad<|Af (.I kind) J J Ad<|Ny fun a2 hz1 hx2=>Af (.cp [(.I a2)] 0) J J (Bz (Dc O9 C2 J hz1 hx2))<|Af (.I a2) J J (Au (C7 C2 J)) ?_
 refine Af (.bool (decide (a1≥a2))) J J (Bh J J J)<|Af (.bool (decide (a1≥a2))) J J Ai<|Ck<|Bl (a:=(decide (a1≥a2))) (vs:=[(.bool (decide (a1≥a2)))]) Tryz.func90 hI J (.same _)
theorem Nw (p:T69):CP Tryz.prog 91 [(.agg (A4 p))] (Gj p) (fun(p:(Ay×T69))=>AV.tup [(.str p.1),(.agg (A4 p.2))]):=by
 refine Cd (n:=41) 2 Tryz.func91 J (by decide) J J fun h0 ids hI=>Bn (Al (Gj.eq_1 _) ?_)
 refine Y<|O<|Cl (v:=(.agg (A4 p))) (j:=0) hI J J J J J J J fun g=>Aa (.str []) J Ai<|A8 (j:=1) hI J J J J Cr J fun g1=>Z<|Aj ?_
 refine Y<|Y<|O<|Ab 4 [0] [(8,(.bool (p.E != 0)))] ?_
 refine B2 7 [(1,(.q ids 0 g)),(3,(.q ids 1 g1)),(15,(.bool ((p.E != 0)||(decide (p.N≥(p.L.length:Int))))))] ?_ fun hJ=>Bw (p.E != 0) (fun hb1=>?_) (fun hb1=>?_)
 ·refine Aa (.bool ((p.E != 0)||(decide (p.N≥(p.L.length:Int))))) J Ad<|Cz 9 ((fun(b:Bool)=>if b then((F4 p 80).bind fun r=>.ok ([],r)) else((C0 p.L p.N).bind fun a1=>.ok (a1.Text,({ L:=p.L,N:=(IntKind.wrap .i64 (p.N+1)),End:=p.End,E:=p.E,At:=p.At }:T69)))):Bool→R (Ay×T69)) (fun(b:Bool) (fr:Nat→AV) (h:Ag)=>fr=A5 [(1,(.q ids 0 g)),(3,(.q ids 1 g1)),(25,(.bool b))]∧h=hp h0 ids [(some (.rows g 5 [(A4 p)])),(some (.rows g1 5 [[.emp,(.I 0),(.I 0),(.I 0),(.I 0)]]))]) ?_ fun hJ1=>Dd (fun hb3=>?_) (fun hb3=>?_)
  ·rintro b fr h ⟨rfl,rfl⟩
   refine Z<|Bx J (fun hc=>?_) (fun hc=>?_)
   ·refine Y<|O<|Ab 1 [0] [(26,(.agg (A4 p)))] ?_
    refine A7 [(.agg (A4 p)),(.I 80)] J J J J ((Ou p 80) _) (fun v _=>B0 Tryz.func91 hI) fun r _=>Aa (.str []) J Ai<|An (Aq (v:=(.agg (A4 r))) hI J J J J Cr J J J J J)<|Z<|Aj ?_
    exact Bl (a:=([],r)) (vs:=[(.str []),(.agg (A4 r))]) Tryz.func91 hI (Jl (Cc (A3 hI J J J Cr J) C8)) (.tupL (.cons (.same _) (.cons (.same _) .nil)))
   refine Ax<|Y<|O<|Ab 4 [0,0] [(31,(.I p.N)),(29,(.sl 4 (List.map Ac p.L)))] ?_
   refine Dv fun a1 hz1 hx2=>Aa (.cp (Ac a1) 0) J (Bz (Dc Ch C1 J hz1 hx2))<|Ab 3 [] [(4,(.str a1.Text))] ?_
   refine Z<|Y<|O<|Ab 4 [0] [(38,(.ptr (ix ids 0) g 0 1)),(37,(.I (IntKind.wrap .i64 (p.N+1))))] ?_
   refine An (Aq (v:=(.I (IntKind.wrap .i64 (p.N+1)))) hI J J J J C2 J J J J J)<|Z<|Aj ?_
   refine Y<|Ct Es [[],[],[0,0],[0,1,1,2,2]] [(false,0),(false,1),(false,2),(true,3)] (by kernel_rfl)<|Af (.str a1.Text) J J Ad<|Af (.agg [(.sl 4 (List.map Ac p.L)),(.I (IntKind.wrap .i64 (p.N+1))),(.I p.End),(.I p.E),(.I p.At)]) J J (Au (A3 hI J J J Cr J))<|Af (.str a1.Text) J J Ai<|D7 J (fun _ _=>J) (fun K hK=>Co (Aq (v:=(.agg [(.sl 4 (List.map Ac p.L)),(.I (IntKind.wrap .i64 (p.N+1))),(.I p.End),(.I p.E),(.I p.At)])) hI J J J J Cr J J J J J) (hK _ _ (Ae J (Ae J (Ae J Bp))) ?_))
   clear hK K
   refine Ck<|Aj ?_
   exact Bl (a:=(a1.Text,({ L:=p.L,N:=(IntKind.wrap .i64 (p.N+1)),End:=p.End,E:=p.E,At:=p.At }:T69))) (vs:=[(.str a1.Text),(.agg [(.sl 4 (List.map Ac p.L)),(.I (IntKind.wrap .i64 (p.N+1))),(.I p.End),(.I p.E),(.I p.At)])]) Tryz.func91 hI (Jl (Cc (A3 hI J J J Cr J) C8)) (.tupL (.cons (.same _) (.cons (.aggL (.cons (.same _) (.cons (.same _) (.cons (.same _) (.cons (.same _) (.cons (.same _) .nil)))))) .nil)))
  ·refine Az (t:=16) hb3 J<|Ab 9 [] [(25,(.bool true))] ?_
   refine Bd<|B5 [(1,(.q ids 0 g)),(3,(.q ids 1 g1)),(25,(.bool true))] (FI J)<|hJ1 true _ _ ⟨J,J⟩
  refine Az (t:=16) hb3 J<|Ab 4 [0,0] [(20,(.I p.N)),(18,(.sl 4 (List.map Ac p.L)))] ?_
  refine Dv fun a hz hx1=>By (tj:=16) (.cp (Ac a) 0) J J J (Bz (Dc Ch C1 J hz hx1))<|Ab 4 [] [(25,(.bool (a.Kind != 1)))] ?_
  refine Bd<|B5 [(1,(.q ids 0 g)),(3,(.q ids 1 g1)),(25,(.bool (a.Kind != 1)))] (FI J)<|hJ1 (a.Kind != 1) _ _ ⟨J,J⟩
 ·refine Az (t:=8) hb1 J<|Ab 7 [] [(15,(.bool true))] ?_
  exact Bf hJ (.cons J (.cons J (.cons (E6 hb1) .nil)))
 refine Az (t:=8) hb1 J<|Ab 4 [0,0] [(12,(.sl 4 (List.map Ac p.L))),(10,(.I p.N))] ?_
 refine By (tj:=8) (.I (p.L.length:Int)) J J J (A2 (Bk Ch))<|Ab 2 [] [(15,(.bool (decide (p.N≥(p.L.length:Int)))))] ?_
 exact Bf hJ (.cons J (.cons J (.cons (E5 hb1) .nil)))
theorem Gk (p:T69)(least:Int)(most:Int)(step:Int):CP Tryz.prog 95 [(.agg (A4 p)),(.int .i64 least),(.int .i64 most),(.int .i64 step)] (Ex p least most step) (fun(p:(Int×T69))=>AV.tup [(.int .i64 p.1),(.agg (A4 p.2))]):=by
 refine Cd (n:=81) 2 Tryz.func95 J (by decide) J J fun h0 ids hI=>Bn (Al (Ex.eq_1 _ _ _ _) ?_)
 refine Y<|O<|Cl (v:=(.agg (A4 p))) (j:=0) hI J J J J J J J fun g=>Aa (.I 0) J Ai<|A8 (j:=1) hI J J J J Cr J fun g1=>Z<|Aj ?_
 refine Y<|Y<|O<|Ab 4 [0] [(14,(.bool (p.E != 0)))] ?_
 refine B2 7 [(1,(.I least)),(2,(.I most)),(3,(.I step)),(4,(.q ids 0 g)),(9,(.q ids 1 g1)),(21,(.bool ((p.E != 0)||(decide (p.N≥(p.L.length:Int))))))] ?_ fun hJ=>Bw (p.E != 0) (fun hb1=>?_) (fun hb1=>?_)
 ·refine Aa (.bool ((p.E != 0)||(decide (p.N≥(p.L.length:Int))))) J Ad<|Cz 9 ((fun(b:Bool)=>(if b then R.ok true else(C0 p.L p.N).bind fun a1=>R.ok (decide (a1.N<least))).bind (fun(b1:Bool)=>(if b1 then R.ok true else(C0 p.L p.N).bind fun a2=>R.ok (decide (a2.N > most))).bind (fun(b2:Bool)=>(if b2 then R.ok true else(C0 p.L p.N).bind fun a3=>if step≠0 then R.ok ((Int.tmod a3.N step) != 0) else .bad).bind (fun(b3:Bool)=>if b3 then((F4 p 80).bind fun r=>.ok (0,r)) else((C0 p.L p.N).bind fun a4=>.ok (a4.N,({ L:=p.L,N:=(IntKind.wrap .i64 (p.N+1)),End:=p.End,E:=p.E,At:=p.At }:T69))))))):Bool→R (Int×T69)) (fun(b:Bool) (fr:Nat→AV) (h:Ag)=>fr=A5 [(1,(.I least)),(2,(.I most)),(3,(.I step)),(4,(.q ids 0 g)),(9,(.q ids 1 g1)),(31,(.bool b))]∧h=hp h0 ids [(some (.rows g 5 [(A4 p)])),(some (.rows g1 5 [[.emp,(.I 0),(.I 0),(.I 0),(.I 0)]]))]) ?_ fun hJ1=>Dd (fun hb3=>?_) (fun hb3=>?_)
  ·rintro b fr h ⟨rfl,rfl⟩
   refine Aa (.bool b) J Ad<|Cz 10 ((fun(b1:Bool)=>(if b1 then R.ok true else(C0 p.L p.N).bind fun a2=>R.ok (decide (a2.N > most))).bind (fun(b2:Bool)=>(if b2 then R.ok true else(C0 p.L p.N).bind fun a3=>if step≠0 then R.ok ((Int.tmod a3.N step) != 0) else .bad).bind (fun(b3:Bool)=>if b3 then((F4 p 80).bind fun r=>.ok (0,r)) else((C0 p.L p.N).bind fun a4=>.ok (a4.N,({ L:=p.L,N:=(IntKind.wrap .i64 (p.N+1)),End:=p.End,E:=p.E,At:=p.At }:T69)))))):Bool→R (Int×T69)) (fun(b1:Bool) (fr:Nat→AV) (h:Ag)=>fr=A5 [(2,(.I most)),(3,(.I step)),(4,(.q ids 0 g)),(9,(.q ids 1 g1)),(42,(.bool b1))]∧h=hp h0 ids [(some (.rows g 5 [(A4 p)])),(some (.rows g1 5 [[.emp,(.I 0),(.I 0),(.I 0),(.I 0)]]))]) ?_ fun hJ2=>Dd (fun hb5=>?_) (fun hb5=>?_)
   ·rintro b1 fr h ⟨rfl,rfl⟩
    refine Aa (.bool b1) J Ad<|Cz 10 ((fun(b2:Bool)=>(if b2 then R.ok true else(C0 p.L p.N).bind fun a3=>if step≠0 then R.ok ((Int.tmod a3.N step) != 0) else .bad).bind (fun(b3:Bool)=>if b3 then((F4 p 80).bind fun r=>.ok (0,r)) else((C0 p.L p.N).bind fun a4=>.ok (a4.N,({ L:=p.L,N:=(IntKind.wrap .i64 (p.N+1)),End:=p.End,E:=p.E,At:=p.At }:T69))))):Bool→R (Int×T69)) (fun(b2:Bool) (fr:Nat→AV) (h:Ag)=>fr=A5 [(3,(.I step)),(4,(.q ids 0 g)),(9,(.q ids 1 g1)),(53,(.bool b2))]∧h=hp h0 ids [(some (.rows g 5 [(A4 p)])),(some (.rows g1 5 [[.emp,(.I 0),(.I 0),(.I 0),(.I 0)]]))]) ?_ fun hJ3=>Dd (fun hb7=>?_) (fun hb7=>?_)
    ·rintro b2 fr h ⟨rfl,rfl⟩
     refine Aa (.bool b2) J Ad<|Cz 11 ((fun(b3:Bool)=>if b3 then((F4 p 80).bind fun r=>.ok (0,r)) else((C0 p.L p.N).bind fun a4=>.ok (a4.N,({ L:=p.L,N:=(IntKind.wrap .i64 (p.N+1)),End:=p.End,E:=p.E,At:=p.At }:T69)))):Bool→R (Int×T69)) (fun(b3:Bool) (fr:Nat→AV) (h:Ag)=>fr=A5 [(4,(.q ids 0 g)),(9,(.q ids 1 g1)),(65,(.bool b3))]∧h=hp h0 ids [(some (.rows g 5 [(A4 p)])),(some (.rows g1 5 [[.emp,(.I 0),(.I 0),(.I 0),(.I 0)]]))]) ?_ fun hJ4=>Dd (fun hb9=>?_) (fun hb9=>?_)
     ·rintro b3 fr h ⟨rfl,rfl⟩
      refine Z<|Bx J (fun hc=>?_) (fun hc=>?_)
      ·refine Y<|O<|Ab 1 [0] [(66,(.agg (A4 p)))] ?_
       refine A7 [(.agg (A4 p)),(.I 80)] J J J J ((Ou p 80) _) (fun v _=>B0 Tryz.func95 hI) fun r _=>Aa (.I 0) J Ai<|An (Aq (v:=(.agg (A4 r))) hI J J J J Cr J J J J J)<|Z<|Aj ?_
       exact Bl (a:=(0,r)) (vs:=[(.I 0),(.agg (A4 r))]) Tryz.func95 hI (Jl (Cc (A3 hI J J J Cr J) C8)) (.tupL (.cons (.same _) (.cons (.same _) .nil)))
      refine Ax<|Y<|O<|Ab 4 [0,0] [(71,(.I p.N)),(69,(.sl 4 (List.map Ac p.L)))] ?_
      refine Dv fun a4 hz5 hx5=>Aa (.cp (Ac a4) 0) J (Bz (Dc Ch C1 J hz5 hx5))<|Ab 3 [] [(10,(.I a4.N))] ?_
      refine Z<|Y<|O<|Ab 4 [0] [(78,(.ptr (ix ids 0) g 0 1)),(77,(.I (IntKind.wrap .i64 (p.N+1))))] ?_
      refine An (Aq (v:=(.I (IntKind.wrap .i64 (p.N+1)))) hI J J J J C2 J J J J J)<|Z<|Aj ?_
      refine Y<|Ct Es [[],[],[0,0],[0,1,1,2,2]] [(false,0),(false,1),(false,2),(true,3)] (by kernel_rfl)<|Af (.I a4.N) J J Ad<|Af (.agg [(.sl 4 (List.map Ac p.L)),(.I (IntKind.wrap .i64 (p.N+1))),(.I p.End),(.I p.E),(.I p.At)]) J J (Au (A3 hI J J J Cr J))<|Af (.I a4.N) J J Ai<|D7 J (fun _ _=>J) (fun K hK=>Co (Aq (v:=(.agg [(.sl 4 (List.map Ac p.L)),(.I (IntKind.wrap .i64 (p.N+1))),(.I p.End),(.I p.E),(.I p.At)])) hI J J J J Cr J J J J J) (hK _ _ (Ae J (Ae J (Ae J Bp))) ?_))
      clear hK K
      refine Ck<|Aj ?_
      exact Bl (a:=(a4.N,({ L:=p.L,N:=(IntKind.wrap .i64 (p.N+1)),End:=p.End,E:=p.E,At:=p.At }:T69))) (vs:=[(.I a4.N),(.agg [(.sl 4 (List.map Ac p.L)),(.I (IntKind.wrap .i64 (p.N+1))),(.I p.End),(.I p.E),(.I p.At)])]) Tryz.func95 hI (Jl (Cc (A3 hI J J J Cr J) C8)) (.tupL (.cons (.same _) (.cons (.aggL (.cons (.same _) (.cons (.same _) (.cons (.same _) (.cons (.same _) (.cons (.same _) .nil)))))) .nil)))
     ·refine Az (t:=54) hb9 J<|Ab 11 [] [(65,(.bool true))] ?_
      refine Bd<|B5 [(4,(.q ids 0 g)),(9,(.q ids 1 g1)),(65,(.bool true))] (FI J)<|hJ4 true _ _ ⟨J,J⟩
     refine Az (t:=54) hb9 J<|Ab 4 [0,0] [(58,(.I p.N)),(56,(.sl 4 (List.map Ac p.L)))] ?_
     refine Dv fun a3 hz3 hx4=>By (tj:=54) (.cp (Ac a3) 0) J J J (Bz (Dc Ch C1 J hz3 hx4))<|Ab 3 [] [(62,(.I step)),(61,(.I a3.N))] ?_
     refine Ee fun hz4=>By (tj:=54) (.I (Int.tmod a3.N step)) J J J (Bh J J (Ad0 J hz4))<|Ab 2 [] [(65,(.bool ((Int.tmod a3.N step) != 0)))] ?_
     refine Bd<|B5 [(4,(.q ids 0 g)),(9,(.q ids 1 g1)),(65,(.bool ((Int.tmod a3.N step) != 0)))] (FI J)<|hJ4 ((Int.tmod a3.N step) != 0) _ _ ⟨J,J⟩
    ·refine Az (t:=43) hb7 J<|Ab 10 [] [(53,(.bool true))] ?_
     refine Bd<|B5 [(3,(.I step)),(4,(.q ids 0 g)),(9,(.q ids 1 g1)),(53,(.bool true))] (FI J)<|hJ3 true _ _ ⟨J,J⟩
    refine Az (t:=43) hb7 J<|Ab 4 [0,0] [(47,(.I p.N)),(45,(.sl 4 (List.map Ac p.L)))] ?_
    refine Dv fun a2 hz2 hx3=>By (tj:=43) (.cp (Ac a2) 0) J J J (Bz (Dc Ch C1 J hz2 hx3))<|Ab 5 [] [(53,(.bool (decide (a2.N > most))))] ?_
    refine Bd<|B5 [(3,(.I step)),(4,(.q ids 0 g)),(9,(.q ids 1 g1)),(53,(.bool (decide (a2.N > most))))] (FI J)<|hJ3 (decide (a2.N > most)) _ _ ⟨J,J⟩
   ·refine Az (t:=32) hb5 J<|Ab 10 [] [(42,(.bool true))] ?_
    refine Bd<|B5 [(2,(.I most)),(3,(.I step)),(4,(.q ids 0 g)),(9,(.q ids 1 g1)),(42,(.bool true))] (FI J)<|hJ2 true _ _ ⟨J,J⟩
   refine Az (t:=32) hb5 J<|Ab 4 [0,0] [(36,(.I p.N)),(34,(.sl 4 (List.map Ac p.L)))] ?_
   refine Dv fun a1 hz1 hx2=>By (tj:=32) (.cp (Ac a1) 0) J J J (Bz (Dc Ch C1 J hz1 hx2))<|Ab 5 [] [(42,(.bool (decide (a1.N<least))))] ?_
   refine Bd<|B5 [(2,(.I most)),(3,(.I step)),(4,(.q ids 0 g)),(9,(.q ids 1 g1)),(42,(.bool (decide (a1.N<least))))] (FI J)<|hJ2 (decide (a1.N<least)) _ _ ⟨J,J⟩
  ·refine Az (t:=22) hb3 J<|Ab 9 [] [(31,(.bool true))] ?_
   refine Bd<|B5 [(1,(.I least)),(2,(.I most)),(3,(.I step)),(4,(.q ids 0 g)),(9,(.q ids 1 g1)),(31,(.bool true))] (FI J)<|hJ1 true _ _ ⟨J,J⟩
  refine Az (t:=22) hb3 J<|Ab 4 [0,0] [(26,(.I p.N)),(24,(.sl 4 (List.map Ac p.L)))] ?_
  refine Dv fun a hz hx1=>By (tj:=22) (.cp (Ac a) 0) J J J (Bz (Dc Ch C1 J hz hx1))<|Ab 4 [] [(31,(.bool (a.Kind != 2)))] ?_
  refine Bd<|B5 [(1,(.I least)),(2,(.I most)),(3,(.I step)),(4,(.q ids 0 g)),(9,(.q ids 1 g1)),(31,(.bool (a.Kind != 2)))] (FI J)<|hJ1 (a.Kind != 2) _ _ ⟨J,J⟩
 ·refine Az (t:=14) hb1 J<|Ab 7 [] [(21,(.bool true))] ?_
  exact Bf hJ (.cons J (.cons J (.cons J (.cons J (.cons J (.cons (E6 hb1) .nil))))))
 refine Az (t:=14) hb1 J<|Ab 4 [0,0] [(18,(.sl 4 (List.map Ac p.L))),(16,(.I p.N))] ?_
 refine By (tj:=14) (.I (p.L.length:Int)) J J J (A2 (Bk Ch))<|Ab 2 [] [(21,(.bool (decide (p.N≥(p.L.length:Int)))))] ?_
 exact Bf hJ (.cons J (.cons J (.cons J (.cons J (.cons J (.cons (E5 hb1) .nil))))))
theorem Xx (p:T69)(kind:Int)(text:Ay):CP Tryz.prog 114 [(.agg (A4 p)),(.int .i64 kind),(.str text)] (J4 p kind text) (fun(x:T69)=>(AV.agg (A4 x))):=by
 refine Cd (n:=19) 2 Tryz.func114 J (by decide) J J fun h0 ids hI=>Bn (Al (J4.eq_1 _ _ _) ?_)
 refine Y<|O<|Cl (v:=(.agg (A4 p))) (j:=0) hI J J J J J J J fun g=>A8 (j:=1) hI J J J J Cr J fun g1=>Z<|Aj ?_
 refine Y<|Y<|O<|Ab 3 [0] [(9,(.str text)),(8,(.I kind)),(7,(.agg (A4 p)))] ?_
 refine A7 [(.agg (A4 p)),(.I kind),(.str text)] J J J J ((Og p kind text) _) (fun v _=>B0 Tryz.func114 hI) fun r _=>Aa (.bool (!r)) J (Oa J)<|Z<|D2 J (fun hc=>?_) (fun hc=>?_)
 ·refine Ax<|Y<|O<|Ab 4 [0] [(17,(.ptr (ix ids 0) g 0 1)),(16,(.I (IntKind.wrap .i64 (p.N+1))))] ?_
  refine An (Aq (v:=(.I (IntKind.wrap .i64 (p.N+1)))) hI J J J J C2 J J J J J)<|Z<|Aj ?_
  refine Y<|O<|Ab 1 [0] [(18,(.agg [(.sl 4 (List.map Ac p.L)),(.I (IntKind.wrap .i64 (p.N+1))),(.I p.End),(.I p.E),(.I p.At)]))] ?_
  refine An (Aq (v:=(.agg [(.sl 4 (List.map Ac p.L)),(.I (IntKind.wrap .i64 (p.N+1))),(.I p.End),(.I p.E),(.I p.At)])) hI J J J J Cr J J J J J)<|Z<|Aj ?_
  exact Bl (a:=({ L:=p.L,N:=(IntKind.wrap .i64 (p.N+1)),End:=p.End,E:=p.E,At:=p.At }:T69)) (vs:=[(.agg [(.sl 4 (List.map Ac p.L)),(.I (IntKind.wrap .i64 (p.N+1))),(.I p.End),(.I p.E),(.I p.At)])]) Tryz.func114 hI (Cc (A3 hI J J J Cr J) C8) (.aggL (.cons (.same _) (.cons (.same _) (.cons (.same _) (.cons (.same _) (.cons (.same _) .nil))))))
 refine Y<|O<|Ab 1 [0] [(12,(.agg (A4 p)))] ?_
 refine A7 [(.agg (A4 p)),(.I 80)] J J J J ((Ou p 80) _) (fun v _=>B0 Tryz.func114 hI) fun r1 _=>An (Aq (v:=(.agg (A4 r1))) hI J J J J Cr J J J J J)<|Z<|Aj ?_
 exact Bl (a:=r1) (vs:=[(.agg (A4 r1))]) Tryz.func114 hI (Cc (A3 hI J J J Cr J) C8) (.same _)
theorem Gh (p:T69)(text:Ay):CP Tryz.prog 96 [(.agg (A4 p)),(.str text)] (Fk p text) (fun(x:T69)=>(AV.agg (A4 x))):=by
 refine Cd (n:=8) 2 Tryz.func96 J (by decide) J J fun h0 ids hI=>Bn (Al (Fk.eq_1 _ _) ?_)
 refine Y<|O<|Cl (v:=(.agg (A4 p))) (j:=0) hI J J J J J J J fun g=>A8 (j:=1) hI J J J J Cr J fun g1=>Z<|Aj ?_
 refine Y<|O<|Ab 2 [0] [(6,(.str text)),(5,(.agg (A4 p)))] ?_
 refine A7 [(.agg (A4 p)),(.I 1),(.str text)] J J J J ((Xx p 1 text) _) (fun v _=>B0 Tryz.func96 hI) fun r _=>An (Aq (v:=(.agg (A4 r))) hI J J J J Cr J J J J J)<|Z<|Aj ?_
 exact Bl (a:=r) (vs:=[(.agg (A4 r))]) Tryz.func96 hI (Cc (A3 hI J J J Cr J) C8) (.same _)
theorem Y2 (p:T69):CP Tryz.prog 98 [(.agg (A4 p))] (Mx p) (fun(p:(Span×T69))=>AV.tup [(.agg (B7 p.1)),(.agg (A4 p.2))]):=by
 refine Cd (n:=24) 3 Tryz.func98 J (by decide) J J fun h0 ids hI=>Bn (Al (Mx.eq_1 _) ?_)
 refine Y<|O<|Cl (v:=(.agg (A4 p))) (j:=0) hI J J J J J J J fun g=>A8 (j:=1) hI J J J J Hz J fun g1=>A8 (j:=2) hI J J J J Cr J fun g2=>Z<|Aj ?_
 refine Y<|O<|Ab 1 [0] [(7,(.agg (A4 p)))] ?_
 refine A7 [(.agg (A4 p)),(.I 0),(.I 1439),(.I 1)] J J J J ((Gk p 0 1439 1) _) (fun v _=>B0 Tryz.func98 hI) fun r _=>Ab 4 [] [(4,(.I r.1)),(10,(.agg (A4 r.2)))] ?_
 refine An (Aq (v:=(.agg (A4 r.2))) hI J J J J Cr J J J J J)<|Z<|Aj ?_
 refine Y<|O<|Ab 1 [0] [(11,(.agg (A4 r.2)))] ?_
 refine A7 [(.agg (A4 r.2)),(.str [116,111])] J J J J ((Gh r.2 [116,111]) _) (fun v _=>B0 Tryz.func98 hI) fun r1 _=>An (Aq (v:=(.agg (A4 r1))) hI J J J J Cr J J J J J)<|Z<|Aj ?_
 refine Y<|O<|Ab 3 [0] [(16,(.I (IntKind.wrap .i64 (r.1+1)))),(14,(.agg (A4 r1)))] ?_
 refine A7 [(.agg (A4 r1)),(.I (IntKind.wrap .i64 (r.1+1))),(.I 1440),(.I 1)] J J J J ((Gk r1 (IntKind.wrap .i64 (r.1+1)) 1440 1) _) (fun v _=>B0 Tryz.func98 hI) fun r2 _=>Ab 4 [] [(5,(.I r2.1)),(19,(.agg (A4 r2.2)))] ?_
 refine An (Aq (v:=(.agg (A4 r2.2))) hI J J J J Cr J J J J J)<|Z<|Aj ?_
 refine Y<|Ct Es [[],[],[0,1],[],[0,1,2,2],[0,1,2,3,3,4,4]] [(false,0),(false,1),(false,2),(false,3),(true,4),(true,5)] (by kernel_rfl)<|Af (.I r.1) J J Ad<|Af (.I r2.1) J J Ad<|Af (.agg [(.I r.1),(.I r2.1)]) J J (Hy (Oq Hz Aqw J))<|Af (.agg (A4 r2.2)) J J (Au (A3 hI J J J Cr J))<|D7 J (fun _ _=>J) (fun K hK=>Co (Aq (v:=(.agg [(.I r.1),(.I r2.1)])) hI J J J J Hz J J J J J) (hK _ _ (Bt J (Au (A3 hI J J J Cr J)) (Ae J (Ae J (Ae J Bp)))) ?_))
 clear hK K
 refine D7 J (fun _ _=>J) (fun K hK=>Co (Aq (v:=(.agg (A4 r2.2))) hI J J J J Cr J J J J J) (hK _ _ (Ae J (Ae J (Ae J (Ae J Bp)))) ?_))
 clear hK K
 refine Ck<|Aj ?_
 exact Bl (a:=(({ From:=r.1,To:=r2.1 }:Span),r2.2)) (vs:=[(.agg [(.I r.1),(.I r2.1)]),(.agg (A4 r2.2))]) Tryz.func98 hI (Cc (A3 hI J J J Hz J) (Cc (A3 hI J J J Cr J) C8)) (.tupL (.cons (.aggL (.cons (.same _) (.cons (.same _) .nil))) (.cons (.same _) .nil)))
end Go.Am
namespace Go.Am
open Go Go.Proofs
set_option maxRecDepth 100000
set_option maxHeartbeats 4000000
set_option linter.unusedSimpArgs false
set_option linter.unusedVariables false
theorem T8 (p:T69)(full:Bool):CP Tryz.prog 97 [(.agg (A4 p)),(.bool full)] (Ir p full) (fun(p:(Bool×T69))=>AV.tup [(.bool p.1),(.agg (A4 p.2))]):=by
 refine Cd (n:=18) 2 Tryz.func97 J (by decide) J J fun h0 ids hI=>Bn (Al (Ir.eq_1 _ _) ?_)
 refine Y<|O<|Cl (v:=(.agg (A4 p))) (j:=0) hI J J J J J J J fun g=>Aa (.bool false) J Ai<|A8 (j:=1) hI J J J J Cr J fun g1=>Z<|Aj ?_
 refine Y<|Y<|O<|Ab 1 [0] [(6,(.agg (A4 p)))] ?_
 refine A7 [(.agg (A4 p)),(.I 3),(.str [44])] J J J J ((Og p 3 [44]) _) (fun v _=>B0 Tryz.func97 hI) fun r _=>Aa (.bool (!r)) J (Oa J)<|Z<|D2 J (fun hc=>?_) (fun hc=>?_)
 ·refine Ax<|Y<|Y<|O<|Aa (.bool full) J Ad<|Z<|Bx J (fun hc1=>?_) (fun hc1=>?_)
  ·refine Y<|O<|Ab 1 [0] [(11,(.agg (A4 p)))] ?_
   refine A7 [(.agg (A4 p)),(.I 2)] J J J J ((Ou p 2) _) (fun v _=>B0 Tryz.func97 hI) fun r1 _=>Aa (.bool false) J Ai<|An (Aq (v:=(.agg (A4 r1))) hI J J J J Cr J J J J J)<|Z<|Aj ?_
   exact Bl (a:=(false,r1)) (vs:=[(.bool false),(.agg (A4 r1))]) Tryz.func97 hI (Jl (Cc (A3 hI J J J Cr J) C8)) (.tupL (.cons (.same _) (.cons (.same _) .nil)))
  refine Ax<|Y<|O<|Ab 4 [0] [(16,(.ptr (ix ids 0) g 0 1)),(15,(.I (IntKind.wrap .i64 (p.N+1))))] ?_
  refine An (Aq (v:=(.I (IntKind.wrap .i64 (p.N+1)))) hI J J J J C2 J J J J J)<|Z<|Aj ?_
  refine Y<|Ct Es [[],[],[0,0,1,1]] [(false,0),(false,1),(true,2)] (by kernel_rfl)<|Af (.agg [(.sl 4 (List.map Ac p.L)),(.I (IntKind.wrap .i64 (p.N+1))),(.I p.End),(.I p.E),(.I p.At)]) J J (Au (A3 hI J J J Cr J))<|Af (.bool true) J J Ai<|D7 J (fun _ _=>J) (fun K hK=>Co (Aq (v:=(.agg [(.sl 4 (List.map Ac p.L)),(.I (IntKind.wrap .i64 (p.N+1))),(.I p.End),(.I p.E),(.I p.At)])) hI J J J J Cr J J J J J) (hK _ _ (Ae J (Ae J Bp)) ?_))
  clear hK K
  refine Ck<|Aj ?_
  exact Bl (a:=(true,({ L:=p.L,N:=(IntKind.wrap .i64 (p.N+1)),End:=p.End,E:=p.E,At:=p.At }:T69))) (vs:=[(.bool true),(.agg [(.sl 4 (List.map Ac p.L)),(.I (IntKind.wrap .i64 (p.N+1))),(.I p.End),(.I p.E),(.I p.At)])]) Tryz.func97 hI (Jl (Cc (A3 hI J J J Cr J) C8)) (.tupL (.cons (.same _) (.cons (.aggL (.cons (.same _) (.cons (.same _) (.cons (.same _) (.cons (.same _) (.cons (.same _) .nil)))))) .nil)))
 refine Y<|Ct Es [[],[],[0,0,1,1]] [(false,0),(false,1),(true,2)] (by kernel_rfl)<|Af (.agg (A4 p)) J J (Au (A3 hI J J J Cr J))<|Af (.bool false) J J Ai<|D7 J (fun _ _=>J) (fun K hK=>Co (Aq (v:=(.agg (A4 p))) hI J J J J Cr J J J J J) (hK _ _ (Ae J (Ae J Bp)) ?_))
 clear hK K
 refine Ck<|Aj ?_
 exact Bl (a:=(false,p)) (vs:=[(.bool false),(.agg (A4 p))]) Tryz.func97 hI (Jl (Cc (A3 hI J J J Cr J) C8)) (.tupL (.cons (.same _) (.cons (.same _) .nil)))
theorem Y0 (p:T69)(text:Ay):CP Tryz.prog 92 [(.agg (A4 p)),(.str text)] (Of p text) (fun(p:((List Span)×T69))=>AV.tup [(.sl 2 (List.map B7 p.1)),(.agg (A4 p.2))]):=by
 refine Cd (n:=40) 5 Tryz.func92 J (by decide) J J fun h0 ids hI=>Bn (Al (Of.eq_1 _ _) ?_)
 refine Y<|O<|Cl (v:=(.agg (A4 p))) (j:=0) hI J J J J J J J fun g=>Aa .emp J Ai<|A8 (j:=1) hI J J J J Cr J fun g1=>Z<|Aj ?_
 refine Y<|O<|Aa .emp J Ai<|Z<|Y<|Y<|O ?_
 refine Ab 2 [0] [(11,(.str text)),(10,(.agg (A4 p)))] ?_
 refine A7 [(.agg (A4 p)),(.I 1),(.str text)] J J J J ((Og p 1 text) _) (fun v _=>B0 Tryz.func92 hI) fun r _=>Aa (.bool (!r)) J (Oa J)<|Z<|D2 J (fun hc=>?_) (fun hc=>?_)
 ·refine Ax<|Y<|O<|Ab 4 [0] [(19,(.ptr (ix ids 0) g 0 1)),(18,(.I (IntKind.wrap .i64 (p.N+1))))] ?_
  refine An (Aq (v:=(.I (IntKind.wrap .i64 (p.N+1)))) hI J J J J C2 J J J J J)<|Z<|Aj ?_
  refine Y<|O<|Aa (.bool true) J Ai<|Z<|Y<|Dx (C4 fun o l1=>R8 o l1) (C4 fun o l1=>fun(fr:Nat→AV) (h:Ag) => ∃ (v2:AV),∃ (g6:Nat),Av v2 (ix ids 4) g6 l1.length∧fr=A5 [(2,(.q ids 0 g)),(5,(.q ids 1 g1)),(6,v2)]∧h=hp h0 ids [(some (.rows g 5 [(A4 o)])),(some (.rows g1 5 [[.emp,(.I 0),(.I 0),(.I 0),(.I 0)]])),none,none,(Ah v2 g6 2 (List.map B7 l1))]) ?_ fun hJ=>?_
  ·rintro⟨o,l1⟩ fr h ⟨v2,g6,vH2,rfl,rfl⟩
   refine Al (R8.eq_1 _ _)<|Y<|Ct Es [[],[],[0,0],[0,1,1,2,2]] [(false,0),(false,1),(false,2),(true,3)] (by kernel_rfl)<|Af v2 J J Ad<|Af (.agg (A4 o)) J J (Au (A3 hI J J J Cr J))<|Af v2 J J Ai<|D7 J (fun _ _=>J) (fun K hK=>Co (Aq (v:=(.agg (A4 o))) hI J J J J Cr J J J J J) (hK _ _ (Ae J (Ae J (Ae J Bp))) ?_))
   clear hK K
   refine Ck<|Aj ?_
   exact Bl (a:=(l1,o)) (vs:=[v2,(.agg (A4 o))]) Tryz.func92 hI (Jl (Cc (A3 hI J J J Cr J) C8)) (.tupL (.cons (D9 vH2 (hI.at J J) (hI.out J) (fun x=>Abm x)) (.cons (.same _) .nil)))
  refine Ba<|D6 [(2,(.q ids 0 g)),(5,(.q ids 1 g1)),(6,.emp),(7,(.bool true))] (FI J)<|Lo (P:=Tryz.prog) (un7 fun more vL vN vEnd vE vAt l=>Pv more vL vN vEnd vE vAt l) ((C4 fun o l1=>R8 o l1):(T69×(List Span))→R ((List Span)×T69)) (un7 fun more vL vN vEnd vE vAt l=>fun(fr:Nat→AV) (h:Ag) => ∃ (v:AV),∃ (g2:Nat),Av v (ix ids 4) g2 l.length∧fr=A5 [(2,(.q ids 0 g)),(5,(.q ids 1 g1)),(6,v),(7,(.bool more))]∧h=hp h0 ids [(some (.rows g 5 [[(.sl 4 (List.map Ac vL)),(.I vN),(.I vEnd),(.I vE),(.I vAt)]])),(some (.rows g1 5 [[.emp,(.I 0),(.I 0),(.I 0),(.I 0)]])),none,none,(Ah v g2 2 (List.map B7 l))]) (true,p.L,(IntKind.wrap .i64 (p.N+1)),p.End,p.E,p.At,[]) ?_ ?_
  ·exact⟨.emp,0,.nil,J,J⟩
  rintro vW hW ⟨more,vL,vN,vEnd,vE,vAt,l⟩ fr h ⟨v,g2,vH,rfl,rfl⟩
  refine Al (m':=Pv more vL vN vEnd vE vAt l) J (Al (Pv.eq_1 _ _ _ _ _ _ _) ?_)
  refine Y<|Y<|O<|Aa (.bool more) J Ad<|Z<|Bx J (fun hc1=>?_) (fun hc1=>?_)
  ·refine Ax<|Ba<|Y<|O<|Ab 1 [0] [(22,(.agg [(.sl 4 (List.map Ac vL)),(.I vN),(.I vEnd),(.I vE),(.I vAt)]))] ?_
   refine A7 [(.agg [(.sl 4 (List.map Ac vL)),(.I vN),(.I vEnd),(.I vE),(.I vAt)])] J J J J (fun hb=>Bq.weak (.cons (.aggL (.cons (.same _) (.cons (.same _) (.cons (.same _) (.cons (.same _) (.cons (.same _) .nil)))))) .nil) ((Y2 ({ L:=vL,N:=vN,End:=vEnd,E:=vE,At:=vAt }:T69)) _ hb)) (fun v _=>B0 Tryz.func92 hI) fun r1 _=>Ab 3 [] [(25,(.agg (A4 r1.2))),(24,(.agg (B7 r1.1)))] ?_
   refine A8 (j:=2) hI J J J J Hz J fun g3=>A8 (j:=3) hI J J J J Cr J fun g4=>An (Aq (v:=(.agg (B7 r1.1))) hI J J J J Hz J J J J J)<|An (Aq (v:=(.agg (A4 r1.2))) hI J J J J Cr J J J J J)<|Z<|Aj ?_
   refine Y<|O<|Ab 2 [2] [(27,(.agg (B7 r1.1))),(26,v)] ?_
   refine C3 (e:=B7) (L:=[r1.1]) (st:=2) (rows:=[[(.I r1.1.From),(.I r1.1.To)]]) J Ki Hz J J J J J (.cons (RowSim.refl _) .nil) (fun x=>Abm x) J J<|Ee fun hl=>Ha (e:=B7) (L:=l) (L2:=[r1.1]) (v:=v) (g:=g2) (st:=2) (j:=4) hI J J J J vH J (Gb J) Ki Ki J Hz J J J hl fun v1 g5 vH1=>Aa v1 J Ai<|Z<|Aj ?_
   refine O<|Ab 2 [3] [(32,v1),(31,(.agg (A4 r1.2)))] ?_
   refine Aa (.I ((l++[r1.1]).length:Int)) J (A2 (Av.len vH1 Ki))<|Aa (.bool (((l++[r1.1]).length:Int)==16)) J (Bh J J J)<|A7 [(.agg (A4 r1.2)),(.bool (((l++[r1.1]).length:Int)==16))] J J J J ((T8 r1.2 (((l++[r1.1]).length:Int)==16)) _) (fun v _=>B0 Tryz.func92 hI) fun r2 _=>Ab 4 [] [(7,(.bool r2.1)),(37,(.agg (A4 r2.2)))] ?_
   refine An (Aq (v:=(.agg (A4 r2.2))) hI J J J J Cr J J J J J)<|Z<|Aj ?_
   refine Bi<|Eb [(some (.rows g 5 [(A4 r2.2)])),(some (.rows g1 5 [[.emp,(.I 0),(.I 0),(.I 0),(.I 0)]])),none,none,(Ah v1 g5 2 (List.map B7 (l++[r1.1])))] hI J (.keep (.keep (.drop (.drop (.keep .nil)))))<|Bo (G7 (hW (r2.1,r2.2.L,r2.2.N,r2.2.End,r2.2.E,r2.2.At,(l++[r1.1])) _ _ ⟨v1,g5,vH1,J,J⟩))
  refine Cy J<|Kq<|Bo (hJ (({ L:=vL,N:=vN,End:=vEnd,E:=vE,At:=vAt }:T69),l) _ _ ⟨v,g2,vH,J,J⟩)
 refine Y<|Ct Es [[],[],[0,0],[0,1,1,2,2]] [(false,0),(false,1),(false,2),(true,3)] (by kernel_rfl)<|Af .emp J J Ad<|Af (.agg (A4 p)) J J (Au (A3 hI J J J Cr J))<|Af .emp J J Ai<|D7 J (fun _ _=>J) (fun K hK=>Co (Aq (v:=(.agg (A4 p))) hI J J J J Cr J J J J J) (hK _ _ (Ae J (Ae J (Ae J Bp))) ?_))
 clear hK K
 refine Ck<|Aj ?_
 exact Bl (a:=([],p)) (vs:=[.emp,(.agg (A4 p))]) Tryz.func92 hI (Jl (Cc (A3 hI J J J Cr J) C8)) (.tupL (.cons (.emp _) (.cons (.same _) .nil)))
theorem V1 (p:T69)(text:Ay):CP Tryz.prog 94 [(.agg (A4 p)),(.str text)] (O0 p text) (fun(x:T69)=>(AV.agg (A4 x))):=by
 refine Cd (n:=8) 2 Tryz.func94 J (by decide) J J fun h0 ids hI=>Bn (Al (O0.eq_1 _ _) ?_)
 refine Y<|O<|Cl (v:=(.agg (A4 p))) (j:=0) hI J J J J J J J fun g=>A8 (j:=1) hI J J J J Cr J fun g1=>Z<|Aj ?_
 refine Y<|O<|Ab 2 [0] [(6,(.str text)),(5,(.agg (A4 p)))] ?_
 refine A7 [(.agg (A4 p)),(.I 3),(.str text)] J J J J ((Xx p 3 text) _) (fun v _=>B0 Tryz.func94 hI) fun r _=>An (Aq (v:=(.agg (A4 r))) hI J J J J Cr J J J J J)<|Z<|Aj ?_
 exact Bl (a:=r) (vs:=[(.agg (A4 r))]) Tryz.func94 hI (Cc (A3 hI J J J Cr J) C8) (.same _)
theorem Td (p:T69)(most:Int):CP Tryz.prog 93 [(.agg (A4 p)),(.int .i64 most)] (Fa p most) (fun(p:((List Ay)×T69))=>AV.tup [(.sl 1 (List.map rS p.1)),(.agg (A4 p.2))]):=by
 refine Cd (n:=31) 4 Tryz.func93 J (by decide) J J fun h0 ids hI=>Bn (Al (Fa.eq_1 _ _) ?_)
 refine Y<|O<|Cl (v:=(.agg (A4 p))) (j:=0) hI J J J J J J J fun g=>Aa .emp J Ai<|A8 (j:=1) hI J J J J Cr J fun g1=>Z<|Aj ?_
 refine Y<|O<|Aa .emp J Ai<|Z<|Y<|O<|Aa (.bool true) J Ai ?_
 refine Z<|Y<|Dx (C4 fun o1 l1=>Ra o1 l1) (C4 fun o1 l1=>fun(fr:Nat→AV) (h:Ag) => ∃ (v2:AV),∃ (g5:Nat),Av v2 (ix ids 3) g5 l1.length∧fr=A5 [(2,(.q ids 0 g)),(5,(.q ids 1 g1)),(6,v2)]∧h=hp h0 ids [(some (.rows g 5 [(A4 o1)])),(some (.rows g1 5 [[.emp,(.I 0),(.I 0),(.I 0),(.I 0)]])),none,(Ah v2 g5 1 (List.map rS l1))]) ?_ fun hJ=>?_
 ·rintro⟨o1,l1⟩ fr h ⟨v2,g5,vH2,rfl,rfl⟩
  refine Al (Ra.eq_1 _ _)<|Y<|Ct Es [[],[],[0,0],[0,1,1,2,2]] [(false,0),(false,1),(false,2),(true,3)] (by kernel_rfl)<|Af v2 J J Ad<|Af (.agg (A4 o1)) J J (Au (A3 hI J J J Cr J))<|Af v2 J J Ai<|D7 J (fun _ _=>J) (fun K hK=>Co (Aq (v:=(.agg (A4 o1))) hI J J J J Cr J J J J J) (hK _ _ (Ae J (Ae J (Ae J Bp))) ?_))
  clear hK K
  refine Ck<|Aj ?_
  exact Bl (a:=(l1,o1)) (vs:=[v2,(.agg (A4 o1))]) Tryz.func93 hI (Jl (Cc (A3 hI J J J Cr J) C8)) (.tupL (.cons (D9 vH2 (hI.at J J) (hI.out J) (fun x=>Gp x)) (.cons (.same _) .nil)))
 refine Ba<|D6 [(1,(.I most)),(2,(.q ids 0 g)),(5,(.q ids 1 g1)),(6,.emp),(7,(.bool true))] (FI J)<|Lo (P:=Tryz.prog) (X4 fun more o l=>Nr most more o l) ((C4 fun o1 l1=>Ra o1 l1):(T69×(List Ay))→R ((List Ay)×T69)) (X4 fun more o l=>fun(fr:Nat→AV) (h:Ag) => ∃ (v:AV),∃ (g2:Nat),Av v (ix ids 3) g2 l.length∧fr=A5 [(1,(.I most)),(2,(.q ids 0 g)),(5,(.q ids 1 g1)),(6,v),(7,(.bool more))]∧h=hp h0 ids [(some (.rows g 5 [(A4 o)])),(some (.rows g1 5 [[.emp,(.I 0),(.I 0),(.I 0),(.I 0)]])),none,(Ah v g2 1 (List.map rS l))]) (true,p,[]) ?_ ?_
 ·exact⟨.emp,0,.nil,J,J⟩
 rintro vW hW ⟨more,o,l⟩ fr h ⟨v,g2,vH,rfl,rfl⟩
 refine Al (m':=Nr most more o l) J (Al (Nr.eq_1 _ _ _ _) ?_)
 refine Y<|Y<|O<|Aa (.bool more) J Ad<|Z<|Bx J (fun hc=>?_) (fun hc=>?_)
 ·refine Ax<|Ba<|Y<|O<|Ab 1 [0] [(12,(.agg (A4 o)))] ?_
  refine A7 [(.agg (A4 o))] J J J J ((Nw o) _) (fun v _=>B0 Tryz.func93 hI) fun r _=>Ab 3 [] [(15,(.agg (A4 r.2))),(14,(.str r.1))] ?_
  refine A8 (j:=2) hI J J J J Cr J fun g3=>Aa (.str r.1) J Ai<|An (Aq (v:=(.agg (A4 r.2))) hI J J J J Cr J J J J J)<|Z<|Aj ?_
  refine Y<|O<|Ab 2 [] [(17,(.str r.1)),(16,v)] ?_
  refine C3 (e:=rS) (L:=[r.1]) (st:=1) (rows:=[[(.str r.1)]]) J D0 Cf J J J J J (.cons (RowSim.refl _) .nil) (fun x=>Gp x) J J<|Ee fun hl=>Ha (e:=rS) (L:=l) (L2:=[r.1]) (v:=v) (g:=g2) (st:=1) (j:=3) hI J J J J vH J (Gb J) D0 D0 J Cf J J J hl fun v1 g4 vH1=>Aa v1 J Ai<|Z<|Aj ?_
  refine O<|Ab 2 [2] [(22,v1),(21,(.agg (A4 r.2)))] ?_
  refine Aa (.I ((l++[r.1]).length:Int)) J (A2 (Av.len vH1 D0))<|Ab 2 [] [(25,(.bool (((l++[r.1]).length:Int)==most)))] ?_
  refine A7 [(.agg (A4 r.2)),(.bool (((l++[r.1]).length:Int)==most))] J J J J ((T8 r.2 (((l++[r.1]).length:Int)==most)) _) (fun v _=>B0 Tryz.func93 hI) fun r1 _=>Ab 4 [] [(7,(.bool r1.1)),(28,(.agg (A4 r1.2)))] ?_
  refine An (Aq (v:=(.agg (A4 r1.2))) hI J J J J Cr J J J J J)<|Z<|Aj ?_
  refine Bi<|Eb [(some (.rows g 5 [(A4 r1.2)])),(some (.rows g1 5 [[.emp,(.I 0),(.I 0),(.I 0),(.I 0)]])),none,(Ah v1 g4 1 (List.map rS (l++[r.1])))] hI J (.keep (.keep (.drop (.keep .nil))))<|Bo (G7 (hW (r1.1,r1.2,(l++[r.1])) _ _ ⟨v1,g4,vH1,J,J⟩))
 refine Cy J<|Kq<|Bo (hJ (o,l) _ _ ⟨v,g2,vH,J,J⟩)
theorem Yj (b:T69)(l:List Volume)(l1:List Sector)(l2:List Config)(l3:List Segment)(l4:List Route)(l5:List Airport)(l6:List Class)(l7:List Rule)(h0:Ag)(o0:Nat)(o1:Nat)(o2:Nat)(o3:Nat)(o4:Nat)(o5:Nat)(o6:Nat)(o7:Nat)(v1:AV)(g:Nat)(v2:AV)(g1:Nat)(v3:AV)(g2:Nat)(v4:AV)(g3:Nat)(v5:AV)(g4:Nat)(v6:AV)(g5:Nat)(v7:AV)(g6:Nat)(v8:AV)(g7:Nat)(vH:Av v1 o0 g l.length)(vH1:Av v2 o1 g1 l1.length)(vH2:Av v3 o2 g2 l2.length)(vH3:Av v4 o3 g3 l3.length)(vH4:Av v5 o4 g4 l4.length)(vH5:Av v6 o5 g5 l5.length)(vH6:Av v7 o6 g6 l6.length)(vH7:Av v8 o7 g7 l7.length)(hI0:Ids h0 [o0,o1,o2,o3,o4,o5,o6,o7] 8):Ca b l l1 l2 l3 l4 l5 l6 l7≠.bad→Bq Tryz.prog 23 [(.agg [v1,v2,v3,v4,v5,v6,v7,v8]),(.agg (A4 b))] (hp h0 [o0,o1,o2,o3,o4,o5,o6,o7] [Ah v1 g 2 (List.map Aw l),Ah v2 g1 5 (List.map A9 l1),Ah v3 g2 3 (List.map Bj l2),Ah v4 g3 5 (List.map Be l3),Ah v5 g4 7 (List.map Bu l4),Ah v6 g5 2 (List.map Bb l5),Ah v7 g6 4 (List.map B4 l6),Ah v8 g7 8 (List.map Bc l7)]) (C5 (fun a_ v h' => ∃ (v28:AV),∃ (g40:Nat),∃ (v29:AV),∃ (g41:Nat),∃ (v30:AV),∃ (g42:Nat),∃ (v31:AV),∃ (g43:Nat),∃ (v32:AV),∃ (g44:Nat),∃ (v33:AV),∃ (g45:Nat),∃ (v34:AV),∃ (g46:Nat),∃ (v35:AV),∃ (g47:Nat),Av v28 o0 g40 a_.2.1.length∧Av v29 o1 g41 a_.2.2.1.length∧Av v30 o2 g42 a_.2.2.2.1.length∧Av v31 o3 g43 a_.2.2.2.2.1.length∧Av v32 o4 g44 a_.2.2.2.2.2.1.length∧Av v33 o5 g45 a_.2.2.2.2.2.2.1.length∧Av v34 o6 g46 a_.2.2.2.2.2.2.2.1.length∧Av v35 o7 g47 a_.2.2.2.2.2.2.2.2.length∧v=(.tup [(.agg [v28,v29,v30,v31,v32,v33,v34,v35]),(.agg (A4 a_.1))])∧h'=hp h0 [o0,o1,o2,o3,o4,o5,o6,o7] [Ah v28 g40 2 (List.map Aw a_.2.1),Ah v29 g41 5 (List.map A9 a_.2.2.1),Ah v30 g42 3 (List.map Bj a_.2.2.2.1),Ah v31 g43 5 (List.map Be a_.2.2.2.2.1),Ah v32 g44 7 (List.map Bu a_.2.2.2.2.2.1),Ah v33 g45 2 (List.map Bb a_.2.2.2.2.2.2.1),Ah v34 g46 4 (List.map B4 a_.2.2.2.2.2.2.2.1),Ah v35 g47 8 (List.map Bc a_.2.2.2.2.2.2.2.2)]) h0 (Ca b l l1 l2 l3 l4 l5 l6 l7)):=by
 refine Bm (n:=298) 14 Tryz.func23 J (by decide) J J hI0 J fun ids he hI=>?_
 clear hI0
 obtain rfl:ix ids 0=o0:=he 0 rfl
 obtain rfl:ix ids 1=o1:=he 1 rfl
 obtain rfl:ix ids 2=o2:=he 2 rfl
 obtain rfl:ix ids 3=o3:=he 3 rfl
 obtain rfl:ix ids 4=o4:=he 4 rfl
 obtain rfl:ix ids 5=o5:=he 5 rfl
 obtain rfl:ix ids 6=o6:=he 6 rfl
 obtain rfl:ix ids 7=o7:=he 7 rfl
 clear he
 refine Bn (Al (Ca.eq_1 _ _ _ _ _ _ _ _ _) ?_)
 refine Aj ?_
 refine Y<|O<|Cl (v:=(.agg [v1,v2,v3,v4,v5,v6,v7,v8])) (j:=8) hI J J J J J J (Bs (Av.flat vH) (Bs (Av.flat vH1) (Bs (Av.flat vH2) (Bs (Av.flat vH3) (Bs (Av.flat vH4) (Bs (Av.flat vH5) (Bs (Av.flat vH6) (Bs (Av.flat vH7) Pe)))))))) fun g8=>Cl (v:=(.agg (A4 b))) (j:=9) hI J J J J J J J fun g9=>A8 (j:=10) hI J J J J Dl J fun g10=>A8 (j:=11) hI J J J J Cr J fun g11=>Z ?_
 refine Aj ?_
 refine Y<|O<|Ab 1 [9] [(21,(.agg (A4 b)))] ?_
 refine A7 [(.agg (A4 b))] J J J J ((Adl b) _) (fun v _=>Ao (K:=8) (N:=14) Tryz.func23 hI) fun r _=>Aa (.I r) J Ai<|Z<|Y<|Y<|O<|Ab 2 [] [(24,(.bool (decide (r<0))))] ?_
 refine Z<|Na J (fun hc=>?_) (fun hc=>?_)
 ·refine Y<|Ct Es [[],[],[1],[0,1,2],[0,1,2,2,3,3]] [(false,0),(false,1),(true,2),(true,3),(true,4)] (by kernel_rfl)<|Af (.agg [v1,v2,v3,v4,v5,v6,v7,v8]) J J (Au (A3 hI J J J Dl J))<|Af (.agg (A4 b)) J J (Au (A3 hI J J J Cr J))<|Oy [(.agg (A4 b)),(.I 80)] J J J J J ((Ou b 80) _) (fun v _ _ _=>Ao (K:=8) (N:=14) Tryz.func23 hI) (Ae J (Bt J (Au (A3 hI J J J Dl J)) Bp)) fun r1 _=>D7 J (fun _ _=>J) (fun K hK=>Co (Aq (v:=(.agg [v1,v2,v3,v4,v5,v6,v7,v8])) hI J J J J Dl J J J J (Bs (Av.flat vH) (Bs (Av.flat vH1) (Bs (Av.flat vH2) (Bs (Av.flat vH3) (Bs (Av.flat vH4) (Bs (Av.flat vH5) (Bs (Av.flat vH6) (Bs (Av.flat vH7) Pe))))))))) (hK _ _ (Ae J (Ae J Bp)) ?_))
  clear hK K
  refine D7 J (fun _ _=>J) (fun K hK=>Co (Aq (v:=(.agg (A4 r1))) hI J J J J Cr J J J J J) (hK _ _ (Ae J (Ae J Bp)) ?_))
  clear hK K
  refine Ck<|Aj ?_
  exact D4 (K:=8) (N:=14) (a:=(r1,l,l1,l2,l3,l4,l5,l6,l7)) (vs:=[(.agg [v1,v2,v3,v4,v5,v6,v7,v8]),(.agg (A4 r1))]) [Ah v1 g 2 (List.map Aw l),Ah v2 g1 5 (List.map A9 l1),Ah v3 g2 3 (List.map Bj l2),Ah v4 g3 5 (List.map Be l3),Ah v5 g4 7 (List.map Bu l4),Ah v6 g5 2 (List.map Bb l5),Ah v7 g6 4 (List.map B4 l6),Ah v8 g7 8 (List.map Bc l7)] Tryz.func23 hI J (Cc (A3 hI J J J Dl J) (Cc (A3 hI J J J Cr J) C8)) J (.keep (.keep (.keep (.keep (.keep (.keep (.keep (.keep (.drop (.drop (.drop (.drop (.keep (.keep (.keep (.keep (.keep (.keep (.keep (.keep (.keep (.keep .nil)))))))))))))))))))))) (.same _) ⟨v1,g,v2,g1,v3,g2,v4,g3,v5,g4,v6,g5,v7,g6,v8,g7,vH,vH1,vH2,vH3,vH4,vH5,vH6,vH7,J,J⟩
 refine Ax<|Y<|Y<|O<|Ab 2 [8] [(29,(.I r)),(28,(.agg [v1,v2,v3,v4,v5,v6,v7,v8]))] ?_
 refine A7 [(.agg [v1,v2,v3,v4,v5,v6,v7,v8]),(.I r)] J J J J (CP.lend (Afd ({ Volumes:=l,Sectors:=l1,Configs:=l2,Segments:=l3,Routes:=l4,Airports:=l5,Classes:=l6,Rules:=l7 }:Airspace) r) (LF.lfz (.cons (.aggL (.cons (D9 vH (hI.at J J) J (fun x=>Rm x)) (.cons (D9 vH1 (hI.at J J) J (fun x=>Qe x)) (.cons (D9 vH2 (hI.at J J) J (fun x=>S2 x)) (.cons (D9 vH3 (hI.at J J) J (fun x=>Rw x)) (.cons (D9 vH4 (hI.at J J) J (fun x=>Ut x)) (.cons (D9 vH5 (hI.at J J) J (fun x=>Qu x)) (.cons (D9 vH6 (hI.at J J) J (fun x=>Uq x)) (.cons (D9 vH7 (hI.at J J) J (fun x=>Q4 x)) .nil))))))))) (.cons (.same _) .nil))) (fun _ _=>(.bool _))) (fun v _=>Ao (K:=8) (N:=14) Tryz.func23 hI) fun r2 _=>Z<|Bx J (fun hc1=>?_) (fun hc1=>?_)
 ·refine Y<|Ct Es [[],[],[1],[0,1,2],[0,1,2,2,3,3]] [(false,0),(false,1),(true,2),(true,3),(true,4)] (by kernel_rfl)<|Af (.agg [v1,v2,v3,v4,v5,v6,v7,v8]) J J (Au (A3 hI J J J Dl J))<|Af (.agg (A4 b)) J J (Au (A3 hI J J J Cr J))<|Oy [(.agg (A4 b)),(.I 2)] J J J J J ((Ou b 2) _) (fun v _ _ _=>Ao (K:=8) (N:=14) Tryz.func23 hI) (Ae J (Bt J (Au (A3 hI J J J Dl J)) Bp)) fun r3 _=>D7 J (fun _ _=>J) (fun K hK=>Co (Aq (v:=(.agg [v1,v2,v3,v4,v5,v6,v7,v8])) hI J J J J Dl J J J J (Bs (Av.flat vH) (Bs (Av.flat vH1) (Bs (Av.flat vH2) (Bs (Av.flat vH3) (Bs (Av.flat vH4) (Bs (Av.flat vH5) (Bs (Av.flat vH6) (Bs (Av.flat vH7) Pe))))))))) (hK _ _ (Ae J (Ae J Bp)) ?_))
  clear hK K
  refine D7 J (fun _ _=>J) (fun K hK=>Co (Aq (v:=(.agg (A4 r3))) hI J J J J Cr J J J J J) (hK _ _ (Ae J (Ae J Bp)) ?_))
  clear hK K
  refine Ck<|Aj ?_
  exact D4 (K:=8) (N:=14) (a:=(r3,l,l1,l2,l3,l4,l5,l6,l7)) (vs:=[(.agg [v1,v2,v3,v4,v5,v6,v7,v8]),(.agg (A4 r3))]) [Ah v1 g 2 (List.map Aw l),Ah v2 g1 5 (List.map A9 l1),Ah v3 g2 3 (List.map Bj l2),Ah v4 g3 5 (List.map Be l3),Ah v5 g4 7 (List.map Bu l4),Ah v6 g5 2 (List.map Bb l5),Ah v7 g6 4 (List.map B4 l6),Ah v8 g7 8 (List.map Bc l7)] Tryz.func23 hI J (Cc (A3 hI J J J Dl J) (Cc (A3 hI J J J Cr J) C8)) J (.keep (.keep (.keep (.keep (.keep (.keep (.keep (.keep (.drop (.drop (.drop (.drop (.keep (.keep (.keep (.keep (.keep (.keep (.keep (.keep (.keep (.keep .nil)))))))))))))))))))))) (.same _) ⟨v1,g,v2,g1,v3,g2,v4,g3,v5,g4,v6,g5,v7,g6,v8,g7,vH,vH1,vH2,vH3,vH4,vH5,vH6,vH7,J,J⟩
 refine Ax<|Y<|O<|Ab 4 [9,9] [(37,(.I b.N)),(35,(.sl 4 (List.map Ac b.L)))] ?_
 refine Dv fun a hz hx1=>Aa (.cp (Ac a) 0) J (Bz (Dc Ch C1 J hz hx1))<|Ab 3 [] [(7,(.str a.Text))] ?_
 refine Z<|Y<|O<|Ab 4 [9] [(44,(.ptr (ix ids 9) g9 0 1)),(43,(.I (IntKind.wrap .i64 (b.N+1))))] ?_
 refine An (Aq (v:=(.I (IntKind.wrap .i64 (b.N+1)))) hI J J J J C2 J J J J J)<|Z<|Aj ?_
 refine Y<|O<|Ab 1 [9] [(46,(.agg [(.sl 4 (List.map Ac b.L)),(.I (IntKind.wrap .i64 (b.N+1))),(.I b.End),(.I b.E),(.I b.At)]))] ?_
 refine A7 [(.agg [(.sl 4 (List.map Ac b.L)),(.I (IntKind.wrap .i64 (b.N+1))),(.I b.End),(.I b.E),(.I b.At)])] J J J J (fun hb=>Bq.weak (.cons (.aggL (.cons (.same _) (.cons (.same _) (.cons (.same _) (.cons (.same _) (.cons (.same _) .nil)))))) .nil) ((Nw ({ L:=b.L,N:=(IntKind.wrap .i64 (b.N+1)),End:=b.End,E:=b.E,At:=b.At }:T69)) _ hb)) (fun v _=>Ao (K:=8) (N:=14) Tryz.func23 hI) fun r4 _=>Ab 4 [] [(8,(.str r4.1)),(49,(.agg (A4 r4.2)))] ?_
 refine An (Aq (v:=(.agg (A4 r4.2))) hI J J J J Cr J J J J J)<|Z<|Aj ?_
 refine Y<|Y<|O<|Aa (.I r) J Ad<|Z<|Dx (Xb fun l10 l11 l12 l13 l14 l15 l16 l17 o4=>Cm l10 l11 l12 l13 l14 l15 l16 l17 o4) (Xb fun l10 l11 l12 l13 l14 l15 l16 l17 o4=>fun(fr:Nat→AV) (h:Ag) => ∃ (v20:AV),∃ (g32:Nat),∃ (v21:AV),∃ (g33:Nat),∃ (v22:AV),∃ (g34:Nat),∃ (v23:AV),∃ (g35:Nat),∃ (v24:AV),∃ (g36:Nat),∃ (v25:AV),∃ (g37:Nat),∃ (v26:AV),∃ (g38:Nat),∃ (v27:AV),∃ (g39:Nat),Av v20 (ix ids 0) g32 l10.length∧Av v21 (ix ids 1) g33 l11.length∧Av v22 (ix ids 2) g34 l12.length∧Av v23 (ix ids 3) g35 l13.length∧Av v24 (ix ids 4) g36 l14.length∧Av v25 (ix ids 5) g37 l15.length∧Av v26 (ix ids 6) g38 l16.length∧Av v27 (ix ids 7) g39 l17.length∧fr=A5 [(2,(.q ids 8 g8)),(3,(.q ids 9 g9)),(4,(.q ids 10 g10)),(5,(.q ids 11 g11))]∧h=hp h0 ids [(Ah v20 g32 2 (List.map Aw l10)),(Ah v21 g33 5 (List.map A9 l11)),(Ah v22 g34 3 (List.map Bj l12)),(Ah v23 g35 5 (List.map Be l13)),(Ah v24 g36 7 (List.map Bu l14)),(Ah v25 g37 2 (List.map Bb l15)),(Ah v26 g38 4 (List.map B4 l16)),(Ah v27 g39 8 (List.map Bc l17)),(some (.rows g8 8 [[v20,v21,v22,v23,v24,v25,v26,v27]])),(some (.rows g9 5 [(A4 o4)])),(some (.rows g10 8 [[.emp,.emp,.emp,.emp,.emp,.emp,.emp,.emp]])),(some (.rows g11 5 [[.emp,(.I 0),(.I 0),(.I 0),(.I 0)]])),none,none,none,none,none,none,none,none,none,none]) ?_ fun hJ2=>?_
 ·rintro⟨l10,l11,l12,l13,l14,l15,l16,l17,o4⟩ fr h ⟨v20,g32,v21,g33,v22,g34,v23,g35,v24,g36,v25,g37,v26,g38,v27,g39,vH19,vH20,vH21,vH22,vH23,vH24,vH25,vH26,rfl,rfl⟩
  refine Al (Cm.eq_1 _ _ _ _ _ _ _ _ _)<|Y<|Ct Es [[],[],[1],[0,1,2],[0,1,2,2,3,3]] [(false,0),(false,1),(true,2),(true,3),(true,4)] (by kernel_rfl)<|Af (.agg [v20,v21,v22,v23,v24,v25,v26,v27]) J J (Au (A3 hI J J J Dl J))<|Af (.agg (A4 o4)) J J (Au (A3 hI J J J Cr J))<|Oy [(.agg (A4 o4)),(.str [59])] J J J J J ((V1 o4 [59]) _) (fun v _ _ _=>Ao (K:=8) (N:=14) Tryz.func23 hI) (Ae J (Bt J (Au (A3 hI J J J Dl J)) Bp)) fun r40 _=>D7 J (fun _ _=>J) (fun K hK=>Co (Aq (v:=(.agg [v20,v21,v22,v23,v24,v25,v26,v27])) hI J J J J Dl J J J J (Bs (Av.flat vH19) (Bs (Av.flat vH20) (Bs (Av.flat vH21) (Bs (Av.flat vH22) (Bs (Av.flat vH23) (Bs (Av.flat vH24) (Bs (Av.flat vH25) (Bs (Av.flat vH26) Pe))))))))) (hK _ _ (Ae J (Ae J Bp)) ?_))
  clear hK K
  refine D7 J (fun _ _=>J) (fun K hK=>Co (Aq (v:=(.agg (A4 r40))) hI J J J J Cr J J J J J) (hK _ _ (Ae J (Ae J Bp)) ?_))
  clear hK K
  refine Ck<|Aj ?_
  exact D4 (K:=8) (N:=14) (a:=(r40,l10,l11,l12,l13,l14,l15,l16,l17)) (vs:=[(.agg [v20,v21,v22,v23,v24,v25,v26,v27]),(.agg (A4 r40))]) [Ah v20 g32 2 (List.map Aw l10),Ah v21 g33 5 (List.map A9 l11),Ah v22 g34 3 (List.map Bj l12),Ah v23 g35 5 (List.map Be l13),Ah v24 g36 7 (List.map Bu l14),Ah v25 g37 2 (List.map Bb l15),Ah v26 g38 4 (List.map B4 l16),Ah v27 g39 8 (List.map Bc l17)] Tryz.func23 hI J (Cc (A3 hI J J J Dl J) (Cc (A3 hI J J J Cr J) C8)) J (.keep (.keep (.keep (.keep (.keep (.keep (.keep (.keep (.drop (.drop (.drop (.drop (.keep (.keep (.keep (.keep (.keep (.keep (.keep (.keep (.keep (.keep .nil)))))))))))))))))))))) (.same _) ⟨v20,g32,v21,g33,v22,g34,v23,g35,v24,g36,v25,g37,v26,g38,v27,g39,vH19,vH20,vH21,vH22,vH23,vH24,vH25,vH26,J,J⟩
 refine Ba<|Y<|O<|Ab 2 [] [(95,(.bool (r==0)))] ?_
 refine Z<|Bx J (fun hc2=>?_) (fun hc2=>?_)
 ·refine Y<|O<|Ab 1 [9] [(98,(.agg (A4 r4.2)))] ?_
  refine A7 [(.agg (A4 r4.2)),(.str [99,108,111,115,101,100])] J J J J ((Y0 r4.2 [99,108,111,115,101,100]) _) (fun v _=>Ao (K:=8) (N:=14) Tryz.func23 hI) fun r5 _=>Ab 3 [] [(101,(.agg (A4 r5.2))),(100,(.sl 2 (List.map B7 r5.1)))] ?_
  refine A8 (j:=12) hI J J J J Cr J fun g12=>Aa (.sl 2 (List.map B7 r5.1)) J Ai<|An (Aq (v:=(.agg (A4 r5.2))) hI J J J J Cr J J J J J)<|Z<|Aj ?_
  refine Y<|O<|Ab 1 [12] [(102,(.agg (A4 r5.2)))] ?_
  refine An (Aq (v:=(.agg (A4 r5.2))) hI J J J J Cr J J J J J)<|Z<|Aj ?_
  refine O<|Ab 5 [8] [(107,(.agg [(.str r4.1),(.sl 2 (List.map B7 r5.1))])),(104,v1)] ?_
  refine C3 (e:=Aw) (L:=[({ Name:=r4.1,Closed:=r5.1 }:Volume)]) (st:=2) (rows:=[[(.str r4.1),(.sl 2 (List.map B7 r5.1))]]) J Hj Ji J J J J J (.cons (.cons (.same _) (.cons (.same _) .nil)) .nil) (fun x=>Rm x) J J<|Ee fun hl=>Ha (e:=Aw) (L:=l) (L2:=[({ Name:=r4.1,Closed:=r5.1 }:Volume)]) (v:=v1) (g:=g) (st:=2) (j:=0) hI J J J J vH J (Gb J) Hj Hj J Ji J J J hl fun v9 g13 vH8=>Aa (.q ids 8 g8) J (Cb (B3 (c:=0) (off:=0) (i:=0) Dl J Hj J))<|An (G5 vH8 hI J J J J Hj J J J)<|Z<|Aj ?_
  refine Bi<|Eb [(Ah v9 g13 2 (List.map Aw (l++[({ Name:=r4.1,Closed:=r5.1 }:Volume)]))),(Ah v2 g1 5 (List.map A9 l1)),(Ah v3 g2 3 (List.map Bj l2)),(Ah v4 g3 5 (List.map Be l3)),(Ah v5 g4 7 (List.map Bu l4)),(Ah v6 g5 2 (List.map Bb l5)),(Ah v7 g6 4 (List.map B4 l6)),(Ah v8 g7 8 (List.map Bc l7)),(some (.rows g8 8 [[v9,v2,v3,v4,v5,v6,v7,v8]])),(some (.rows g9 5 [(A4 r5.2)])),(some (.rows g10 8 [[.emp,.emp,.emp,.emp,.emp,.emp,.emp,.emp]])),(some (.rows g11 5 [[.emp,(.I 0),(.I 0),(.I 0),(.I 0)]])),none,none,none,none,none,none,none,none,none,none] hI J (.keep (.keep (.keep (.keep (.keep (.keep (.keep (.keep (.keep (.keep (.keep (.keep (.drop (.keep (.keep (.keep (.keep (.keep (.keep (.keep (.keep (.keep .nil))))))))))))))))))))))<|Bo (hJ2 ((l++[({ Name:=r4.1,Closed:=r5.1 }:Volume)]),l1,l2,l3,l4,l5,l6,l7,r5.2) _ _ ⟨v9,g13,v2,g1,v3,g2,v4,g3,v5,g4,v6,g5,v7,g6,v8,g7,vH8,vH1,vH2,vH3,vH4,vH5,vH6,vH7,J,J⟩)
 refine Y<|O<|Ab 2 [] [(111,(.bool (r==1)))] ?_
 refine Z<|Bx J (fun hc3=>?_) (fun hc3=>?_)
 ·refine Y<|O<|Ab 2 [] [(114,(.agg [(.str r4.1),.emp,.emp,(.I 0),(.I 0)]))] ?_
  refine A8 (j:=13) hI J J J J Gn J fun g14=>An (Aq (v:=(.agg [(.str r4.1),.emp,.emp,(.I 0),(.I 0)])) hI J J J J Gn J J J J J)<|Z<|Aj ?_
  refine Y<|O<|Ab 1 [9] [(116,(.agg (A4 r4.2)))] ?_
  refine A7 [(.agg (A4 r4.2)),(.str [61])] J J J J ((V1 r4.2 [61]) _) (fun v _=>Ao (K:=8) (N:=14) Tryz.func23 hI) fun r6 _=>A7 [(.agg (A4 r6)),(.I 64)] J J J J ((Td r6 64) _) (fun v _=>Ao (K:=8) (N:=14) Tryz.func23 hI) fun r7 _=>Ab 4 [] [(121,(.ptr (ix ids 13) g14 0 1)),(120,(.agg (A4 r7.2))),(119,(.sl 1 (List.map rS r7.1)))] ?_
  refine An (Aq (v:=(.sl 1 (List.map rS r7.1))) hI J J J J D0 J J J J J)<|An (Aq (v:=(.agg (A4 r7.2))) hI J J J J Cr J J J J J)<|Z<|Aj ?_
  refine Y<|O<|Ab 1 [9] [(123,(.agg (A4 r7.2)))] ?_
  refine A7 [(.agg (A4 r7.2)),(.str [114,97,100,97,114])] J J J J ((Gh r7.2 [114,97,100,97,114]) _) (fun v _=>Ao (K:=8) (N:=14) Tryz.func23 hI) fun r8 _=>A7 [(.agg (A4 r8)),(.I 0),(.I 64),(.I 1)] J J J J ((Gk r8 0 64 1) _) (fun v _=>Ao (K:=8) (N:=14) Tryz.func23 hI) fun r9 _=>Ab 4 [] [(128,(.ptr (ix ids 13) g14 0 3)),(127,(.agg (A4 r9.2))),(126,(.I r9.1))] ?_
  refine An (Aq (v:=(.I r9.1)) hI J J J J C2 J J J J J)<|An (Aq (v:=(.agg (A4 r9.2))) hI J J J J Cr J J J J J)<|Z<|Aj ?_
  refine Y<|Ct Es [[],[0],[],[2],[0,1,2,3],[0,1,2,3,4],[0,1,2,3,4,5],[0,1,2,3,4,5],[0,1,2,3,4,5,6],[0,1,2,3,4,4,5,6,6,8],[0,1,2,3,4,5,6,7,7,8,9,9]] [(false,0),(false,2),(false,3),(true,1),(true,4),(false,5),(false,6),(false,7),(false,8),(true,9),(true,10)] (by kernel_rfl)<|Af (.agg (A4 r9.2)) J J (Au (A3 hI J J J Cr J))<|Af (.ptr (ix ids 13) g14 0 3) J J (Cb (B3 (c:=0) (off:=3) (i:=3) Gn J C2 J))<|Af (.I r9.1) J J (Au (A3 hI J J J C2 J))<|Oy [(.agg (A4 r9.2)),(.str [112,114,111,99,101,100,117,114,97,108])] J J J J J ((Gh r9.2 [112,114,111,99,101,100,117,114,97,108]) _) (fun v _ _ _=>Ao (K:=8) (N:=14) Tryz.func23 hI) (Bt J (Au (A3 hI J J J C2 J)) (Bt J (Cb (B3 (c:=0) (off:=3) (i:=3) Gn J C2 J)) (Ae J Bp))) fun r10 _=>Oy [(.agg (A4 r10)),(.I 0),(.I r9.1),(.I 1)] J J J J J ((Gk r10 0 r9.1 1) _) (fun v _ _ _=>Ao (K:=8) (N:=14) Tryz.func23 hI) (Ae J (Ae J (Ae J Bp))) fun r11 _=>?_
  refine Af (.tup [(.I r11.1),(.agg (A4 r11.2))]) J J Ad<|Af (.I r11.1) J J (F8 J)<|Af (.agg (A4 r11.2)) J J (F8 J)<|Af (.ptr (ix ids 13) g14 0 4) J J (Cb (B3 (c:=0) (off:=4) (i:=4) Gn J C2 J))<|D7 J (fun _ _=>J) (fun K hK=>Co (Aq (v:=(.I r11.1)) hI J J J J C2 J J J J J) (hK _ _ (Ae J (Bt J (F8 J) (Ae J (Ae J (Ae J (Ae J (Ae J Bp))))))) ?_))
  clear hK K
  refine D7 J (fun _ _=>J) (fun K hK=>Co (Aq (v:=(.agg (A4 r11.2))) hI J J J J Cr J J J J J) (hK _ _ (Ae J (Ae J (Ae J (Ae J (Ae J (Ae J (Ae J Bp))))))) ?_))
  clear hK K
  refine Ck<|Aj ?_
  refine O<|Ab 3 [8,13] [(140,(.agg [(.str r4.1),(.sl 1 (List.map rS r7.1)),.emp,(.I r9.1),(.I r11.1)])),(139,v2)] ?_
  refine C3 (e:=A9) (L:=[({ Name:=r4.1,Names:=r7.1,Volumes:=[],Radar:=r9.1,Procedural:=r11.1 }:Sector)]) (st:=5) (rows:=[[(.str r4.1),(.sl 1 (List.map rS r7.1)),.emp,(.I r9.1),(.I r11.1)]]) J J1 Gn J J J J J (.cons (.cons (.same _) (.cons (.same _) (.cons (.emp _) (.cons (.same _) (.cons (.same _) .nil))))) .nil) (fun x=>Qe x) J J<|Ee fun hl1=>Ha (e:=A9) (L:=l1) (L2:=[({ Name:=r4.1,Names:=r7.1,Volumes:=[],Radar:=r9.1,Procedural:=r11.1 }:Sector)]) (v:=v2) (g:=g1) (st:=5) (j:=1) hI J J J J vH1 J (Gb J) J1 J1 J Gn J J J hl1 fun v10 g15 vH9=>Aa (.ptr (ix ids 8) g8 0 1) J (Cb (B3 (c:=0) (off:=1) (i:=1) Dl J J1 J))<|An (G5 vH9 hI J J J J J1 J J J)<|Z<|Aj ?_
  refine Bi<|Eb [(Ah v1 g 2 (List.map Aw l)),(Ah v10 g15 5 (List.map A9 (l1++[({ Name:=r4.1,Names:=r7.1,Volumes:=[],Radar:=r9.1,Procedural:=r11.1 }:Sector)]))),(Ah v3 g2 3 (List.map Bj l2)),(Ah v4 g3 5 (List.map Be l3)),(Ah v5 g4 7 (List.map Bu l4)),(Ah v6 g5 2 (List.map Bb l5)),(Ah v7 g6 4 (List.map B4 l6)),(Ah v8 g7 8 (List.map Bc l7)),(some (.rows g8 8 [[v1,v10,v3,v4,v5,v6,v7,v8]])),(some (.rows g9 5 [(A4 r11.2)])),(some (.rows g10 8 [[.emp,.emp,.emp,.emp,.emp,.emp,.emp,.emp]])),(some (.rows g11 5 [[.emp,(.I 0),(.I 0),(.I 0),(.I 0)]])),none,none,none,none,none,none,none,none,none,none] hI J (.keep (.keep (.keep (.keep (.keep (.keep (.keep (.keep (.keep (.keep (.keep (.keep (.keep (.drop (.keep (.keep (.keep (.keep (.keep (.keep (.keep (.keep .nil))))))))))))))))))))))<|Bo (hJ2 (l,(l1++[({ Name:=r4.1,Names:=r7.1,Volumes:=[],Radar:=r9.1,Procedural:=r11.1 }:Sector)]),l2,l3,l4,l5,l6,l7,r11.2) _ _ ⟨v1,g,v10,g15,v3,g2,v4,g3,v5,g4,v6,g5,v7,g6,v8,g7,vH,vH9,vH2,vH3,vH4,vH5,vH6,vH7,J,J⟩)
 refine Y<|O<|Ab 2 [] [(144,(.bool (r==2)))] ?_
 refine Z<|Bx J (fun hc4=>?_) (fun hc4=>?_)
 ·refine Y<|O<|Ab 1 [9] [(147,(.agg (A4 r4.2)))] ?_
  refine A7 [(.agg (A4 r4.2)),(.str [61])] J J J J ((V1 r4.2 [61]) _) (fun v _=>Ao (K:=8) (N:=14) Tryz.func23 hI) fun r12 _=>A7 [(.agg (A4 r12)),(.I 64)] J J J J ((Td r12 64) _) (fun v _=>Ao (K:=8) (N:=14) Tryz.func23 hI) fun r13 _=>Ab 3 [] [(151,(.agg (A4 r13.2))),(150,(.sl 1 (List.map rS r13.1)))] ?_
  refine A8 (j:=14) hI J J J J Cr J fun g16=>Aa (.sl 1 (List.map rS r13.1)) J Ai<|An (Aq (v:=(.agg (A4 r13.2))) hI J J J J Cr J J J J J)<|Z<|Aj ?_
  refine Y<|O<|Ab 1 [14] [(152,(.agg (A4 r13.2)))] ?_
  refine An (Aq (v:=(.agg (A4 r13.2))) hI J J J J Cr J J J J J)<|Z<|Aj ?_
  refine O<|Ab 5 [8] [(157,(.agg [(.str r4.1),(.sl 1 (List.map rS r13.1)),.emp])),(154,v3)] ?_
  refine C3 (e:=Bj) (L:=[({ Name:=r4.1,Names:=r13.1,Sectors:=[] }:Config)]) (st:=3) (rows:=[[(.str r4.1),(.sl 1 (List.map rS r13.1)),.emp]]) J L1 Kg J J J J J (.cons (.cons (.same _) (.cons (.same _) (.cons (.emp _) .nil))) .nil) (fun x=>S2 x) J J<|Ee fun hl2=>Ha (e:=Bj) (L:=l2) (L2:=[({ Name:=r4.1,Names:=r13.1,Sectors:=[] }:Config)]) (v:=v3) (g:=g2) (st:=3) (j:=2) hI J J J J vH2 J (Gb J) L1 L1 J Kg J J J hl2 fun v11 g17 vH10=>Aa (.ptr (ix ids 8) g8 0 2) J (Cb (B3 (c:=0) (off:=2) (i:=2) Dl J L1 J))<|An (G5 vH10 hI J J J J L1 J J J)<|Z<|Aj ?_
  refine Bi<|Eb [(Ah v1 g 2 (List.map Aw l)),(Ah v2 g1 5 (List.map A9 l1)),(Ah v11 g17 3 (List.map Bj (l2++[({ Name:=r4.1,Names:=r13.1,Sectors:=[] }:Config)]))),(Ah v4 g3 5 (List.map Be l3)),(Ah v5 g4 7 (List.map Bu l4)),(Ah v6 g5 2 (List.map Bb l5)),(Ah v7 g6 4 (List.map B4 l6)),(Ah v8 g7 8 (List.map Bc l7)),(some (.rows g8 8 [[v1,v2,v11,v4,v5,v6,v7,v8]])),(some (.rows g9 5 [(A4 r13.2)])),(some (.rows g10 8 [[.emp,.emp,.emp,.emp,.emp,.emp,.emp,.emp]])),(some (.rows g11 5 [[.emp,(.I 0),(.I 0),(.I 0),(.I 0)]])),none,none,none,none,none,none,none,none,none,none] hI J (.keep (.keep (.keep (.keep (.keep (.keep (.keep (.keep (.keep (.keep (.keep (.keep (.keep (.keep (.drop (.keep (.keep (.keep (.keep (.keep (.keep (.keep .nil))))))))))))))))))))))<|Bo (hJ2 (l,l1,(l2++[({ Name:=r4.1,Names:=r13.1,Sectors:=[] }:Config)]),l3,l4,l5,l6,l7,r13.2) _ _ ⟨v1,g,v2,g1,v11,g17,v4,g3,v5,g4,v6,g5,v7,g6,v8,g7,vH,vH1,vH10,vH3,vH4,vH5,vH6,vH7,J,J⟩)
 refine Y<|O<|Ab 2 [] [(161,(.bool (r==3)))] ?_
 refine Z<|Bx J (fun hc5=>?_) (fun hc5=>?_)
 ·refine Y<|O<|Ab 2 [] [(164,(.agg [(.str r4.1),(.str []),(.I 0),(.I 0),.emp]))] ?_
  refine A8 (j:=15) hI J J J J H0 J fun g18=>An (Aq (v:=(.agg [(.str r4.1),(.str []),(.I 0),(.I 0),.emp])) hI J J J J H0 J J J J J)<|Z<|Aj ?_
  refine Y<|O<|Ab 1 [9] [(166,(.agg (A4 r4.2)))] ?_
  refine A7 [(.agg (A4 r4.2)),(.str [105,110])] J J J J ((Gh r4.2 [105,110]) _) (fun v _=>Ao (K:=8) (N:=14) Tryz.func23 hI) fun r14 _=>A7 [(.agg (A4 r14))] J J J J ((Nw r14) _) (fun v _=>Ao (K:=8) (N:=14) Tryz.func23 hI) fun r15 _=>Ab 4 [] [(171,(.ptr (ix ids 15) g18 0 1)),(170,(.agg (A4 r15.2))),(169,(.str r15.1))] ?_
  refine An (Aq (v:=(.str r15.1)) hI J J J J Cf J J J J J)<|An (Aq (v:=(.agg (A4 r15.2))) hI J J J J Cr J J J J J)<|Z<|Aj ?_
  refine Y<|O<|Ab 1 [9] [(173,(.agg (A4 r15.2)))] ?_
  refine A7 [(.agg (A4 r15.2)),(.str [108,101,110,103,116,104])] J J J J ((Gh r15.2 [108,101,110,103,116,104]) _) (fun v _=>Ao (K:=8) (N:=14) Tryz.func23 hI) fun r16 _=>A7 [(.agg (A4 r16)),(.I 1),(.I 4096),(.I 1)] J J J J ((Gk r16 1 4096 1) _) (fun v _=>Ao (K:=8) (N:=14) Tryz.func23 hI) fun r17 _=>Ab 4 [] [(178,(.ptr (ix ids 15) g18 0 3)),(177,(.agg (A4 r17.2))),(176,(.I r17.1))] ?_
  refine An (Aq (v:=(.I r17.1)) hI J J J J C2 J J J J J)<|An (Aq (v:=(.agg (A4 r17.2))) hI J J J J Cr J J J J J)<|Z<|Aj ?_
  refine Y<|O<|Ab 1 [9] [(180,(.agg (A4 r17.2)))] ?_
  refine A7 [(.agg (A4 r17.2)),(.str [111,112,101,110])] J J J J ((Y0 r17.2 [111,112,101,110]) _) (fun v _=>Ao (K:=8) (N:=14) Tryz.func23 hI) fun r18 _=>Ab 4 [] [(184,(.ptr (ix ids 15) g18 0 4)),(183,(.agg (A4 r18.2))),(182,(.sl 2 (List.map B7 r18.1)))] ?_
  refine An (Aq (v:=(.sl 2 (List.map B7 r18.1))) hI J J J J Ki J J J J J)<|An (Aq (v:=(.agg (A4 r18.2))) hI J J J J Cr J J J J J)<|Z<|Aj ?_
  refine O<|Ab 3 [8,15] [(187,(.agg [(.str r4.1),(.str r15.1),(.I 0),(.I r17.1),(.sl 2 (List.map B7 r18.1))])),(186,v4)] ?_
  refine C3 (e:=Be) (L:=[({ Name:=r4.1,In:=r15.1,Volume:=0,Length:=r17.1,Open:=r18.1 }:Segment)]) (st:=5) (rows:=[[(.str r4.1),(.str r15.1),(.I 0),(.I r17.1),(.sl 2 (List.map B7 r18.1))]]) J L0 H0 J J J J J (.cons (.cons (.same _) (.cons (.same _) (.cons (.same _) (.cons (.same _) (.cons (.same _) .nil))))) .nil) (fun x=>Rw x) J J<|Ee fun hl3=>Ha (e:=Be) (L:=l3) (L2:=[({ Name:=r4.1,In:=r15.1,Volume:=0,Length:=r17.1,Open:=r18.1 }:Segment)]) (v:=v4) (g:=g3) (st:=5) (j:=3) hI J J J J vH3 J (Gb J) L0 L0 J H0 J J J hl3 fun v12 g19 vH11=>Aa (.ptr (ix ids 8) g8 0 3) J (Cb (B3 (c:=0) (off:=3) (i:=3) Dl J L0 J))<|An (G5 vH11 hI J J J J L0 J J J)<|Z<|Aj ?_
  refine Bi<|Eb [(Ah v1 g 2 (List.map Aw l)),(Ah v2 g1 5 (List.map A9 l1)),(Ah v3 g2 3 (List.map Bj l2)),(Ah v12 g19 5 (List.map Be (l3++[({ Name:=r4.1,In:=r15.1,Volume:=0,Length:=r17.1,Open:=r18.1 }:Segment)]))),(Ah v5 g4 7 (List.map Bu l4)),(Ah v6 g5 2 (List.map Bb l5)),(Ah v7 g6 4 (List.map B4 l6)),(Ah v8 g7 8 (List.map Bc l7)),(some (.rows g8 8 [[v1,v2,v3,v12,v5,v6,v7,v8]])),(some (.rows g9 5 [(A4 r18.2)])),(some (.rows g10 8 [[.emp,.emp,.emp,.emp,.emp,.emp,.emp,.emp]])),(some (.rows g11 5 [[.emp,(.I 0),(.I 0),(.I 0),(.I 0)]])),none,none,none,none,none,none,none,none,none,none] hI J (.keep (.keep (.keep (.keep (.keep (.keep (.keep (.keep (.keep (.keep (.keep (.keep (.keep (.keep (.keep (.drop (.keep (.keep (.keep (.keep (.keep (.keep .nil))))))))))))))))))))))<|Bo (hJ2 (l,l1,l2,(l3++[({ Name:=r4.1,In:=r15.1,Volume:=0,Length:=r17.1,Open:=r18.1 }:Segment)]),l4,l5,l6,l7,r18.2) _ _ ⟨v1,g,v2,g1,v3,g2,v12,g19,v5,g4,v6,g5,v7,g6,v8,g7,vH,vH1,vH2,vH11,vH4,vH5,vH6,vH7,J,J⟩)
 refine Y<|O<|Ab 2 [] [(191,(.bool (r==4)))] ?_
 refine Z<|Bx J (fun hc6=>?_) (fun hc6=>?_)
 ·refine Y<|O<|Ab 2 [] [(194,(.agg [(.str r4.1),(.str []),(.str []),(.I 0),(.I 0),.emp,.emp]))] ?_
  refine A8 (j:=16) hI J J J J Hx J fun g20=>An (Aq (v:=(.agg [(.str r4.1),(.str []),(.str []),(.I 0),(.I 0),.emp,.emp])) hI J J J J Hx J J J J J)<|Z<|Aj ?_
  refine Y<|O<|Ab 1 [9] [(196,(.agg (A4 r4.2)))] ?_
  refine A7 [(.agg (A4 r4.2)),(.str [102,114,111,109])] J J J J ((Gh r4.2 [102,114,111,109]) _) (fun v _=>Ao (K:=8) (N:=14) Tryz.func23 hI) fun r19 _=>A7 [(.agg (A4 r19))] J J J J ((Nw r19) _) (fun v _=>Ao (K:=8) (N:=14) Tryz.func23 hI) fun r20 _=>Ab 4 [] [(201,(.ptr (ix ids 16) g20 0 1)),(200,(.agg (A4 r20.2))),(199,(.str r20.1))] ?_
  refine An (Aq (v:=(.str r20.1)) hI J J J J Cf J J J J J)<|An (Aq (v:=(.agg (A4 r20.2))) hI J J J J Cr J J J J J)<|Z<|Aj ?_
  refine Y<|O<|Ab 1 [9] [(203,(.agg (A4 r20.2)))] ?_
  refine A7 [(.agg (A4 r20.2)),(.str [116,111])] J J J J ((Gh r20.2 [116,111]) _) (fun v _=>Ao (K:=8) (N:=14) Tryz.func23 hI) fun r21 _=>A7 [(.agg (A4 r21))] J J J J ((Nw r21) _) (fun v _=>Ao (K:=8) (N:=14) Tryz.func23 hI) fun r22 _=>Ab 4 [] [(208,(.ptr (ix ids 16) g20 0 2)),(207,(.agg (A4 r22.2))),(206,(.str r22.1))] ?_
  refine An (Aq (v:=(.str r22.1)) hI J J J J Cf J J J J J)<|An (Aq (v:=(.agg (A4 r22.2))) hI J J J J Cr J J J J J)<|Z<|Aj ?_
  refine Y<|O<|Ab 1 [9] [(210,(.agg (A4 r22.2)))] ?_
  refine A7 [(.agg (A4 r22.2)),(.str [118,105,97])] J J J J ((Gh r22.2 [118,105,97]) _) (fun v _=>Ao (K:=8) (N:=14) Tryz.func23 hI) fun r23 _=>A7 [(.agg (A4 r23)),(.I 8)] J J J J ((Td r23 8) _) (fun v _=>Ao (K:=8) (N:=14) Tryz.func23 hI) fun r24 _=>Ab 4 [] [(215,(.ptr (ix ids 16) g20 0 5)),(214,(.agg (A4 r24.2))),(213,(.sl 1 (List.map rS r24.1)))] ?_
  refine An (Aq (v:=(.sl 1 (List.map rS r24.1))) hI J J J J D0 J J J J J)<|An (Aq (v:=(.agg (A4 r24.2))) hI J J J J Cr J J J J J)<|Z<|Aj ?_
  refine O<|Ab 3 [8,16] [(218,(.agg [(.str r4.1),(.str r20.1),(.str r22.1),(.I 0),(.I 0),(.sl 1 (List.map rS r24.1)),.emp])),(217,v5)] ?_
  refine C3 (e:=Bu) (L:=[({ Name:=r4.1,A:=r20.1,B:=r22.1,From:=0,To:=0,Names:=r24.1,Segments:=[] }:Route)]) (st:=7) (rows:=[[(.str r4.1),(.str r20.1),(.str r22.1),(.I 0),(.I 0),(.sl 1 (List.map rS r24.1)),.emp]]) J Ly Hx J J J J J (.cons (.cons (.same _) (.cons (.same _) (.cons (.same _) (.cons (.same _) (.cons (.same _) (.cons (.same _) (.cons (.emp _) .nil))))))) .nil) (fun x=>Ut x) J J<|Ee fun hl4=>Ha (e:=Bu) (L:=l4) (L2:=[({ Name:=r4.1,A:=r20.1,B:=r22.1,From:=0,To:=0,Names:=r24.1,Segments:=[] }:Route)]) (v:=v5) (g:=g4) (st:=7) (j:=4) hI J J J J vH4 J (Gb J) Ly Ly J Hx J J J hl4 fun v13 g21 vH12=>Aa (.ptr (ix ids 8) g8 0 4) J (Cb (B3 (c:=0) (off:=4) (i:=4) Dl J Ly J))<|An (G5 vH12 hI J J J J Ly J J J)<|Z<|Aj ?_
  refine Bi<|Eb [(Ah v1 g 2 (List.map Aw l)),(Ah v2 g1 5 (List.map A9 l1)),(Ah v3 g2 3 (List.map Bj l2)),(Ah v4 g3 5 (List.map Be l3)),(Ah v13 g21 7 (List.map Bu (l4++[({ Name:=r4.1,A:=r20.1,B:=r22.1,From:=0,To:=0,Names:=r24.1,Segments:=[] }:Route)]))),(Ah v6 g5 2 (List.map Bb l5)),(Ah v7 g6 4 (List.map B4 l6)),(Ah v8 g7 8 (List.map Bc l7)),(some (.rows g8 8 [[v1,v2,v3,v4,v13,v6,v7,v8]])),(some (.rows g9 5 [(A4 r24.2)])),(some (.rows g10 8 [[.emp,.emp,.emp,.emp,.emp,.emp,.emp,.emp]])),(some (.rows g11 5 [[.emp,(.I 0),(.I 0),(.I 0),(.I 0)]])),none,none,none,none,none,none,none,none,none,none] hI J (.keep (.keep (.keep (.keep (.keep (.keep (.keep (.keep (.keep (.keep (.keep (.keep (.keep (.keep (.keep (.keep (.drop (.keep (.keep (.keep (.keep (.keep .nil))))))))))))))))))))))<|Bo (hJ2 (l,l1,l2,l3,(l4++[({ Name:=r4.1,A:=r20.1,B:=r22.1,From:=0,To:=0,Names:=r24.1,Segments:=[] }:Route)]),l5,l6,l7,r24.2) _ _ ⟨v1,g,v2,g1,v3,g2,v4,g3,v13,g21,v6,g5,v7,g6,v8,g7,vH,vH1,vH2,vH3,vH12,vH5,vH6,vH7,J,J⟩)
 refine Y<|O<|Ab 2 [] [(222,(.bool (r==5)))] ?_
 refine Z<|Bx J (fun hc7=>?_) (fun hc7=>?_)
 ·refine Y<|O<|Ab 2 [] [(225,(.agg [(.str r4.1),.emp]))] ?_
  refine A8 (j:=17) hI J J J J Ho J fun g22=>An (Aq (v:=(.agg [(.str r4.1),.emp])) hI J J J J Ho J J J J J)<|Z<|Aj ?_
  refine Y<|O<|Aa (.bool true) J Ai<|Z<|Y<|Dx (C4 fun o1 l9=>Dq l l1 l2 l3 l4 l5 l6 l7 r4 o1 l9) (C4 fun o1 l9=>fun(fr:Nat→AV) (h:Ag) => ∃ (v16:AV),∃ (g26:Nat),Av v16 (ix ids 19) g26 l9.length∧fr=A5 [(2,(.q ids 8 g8)),(3,(.q ids 9 g9)),(4,(.q ids 10 g10)),(5,(.q ids 11 g11)),(16,(.q ids 17 g22))]∧h=hp h0 ids [(Ah v1 g 2 (List.map Aw l)),(Ah v2 g1 5 (List.map A9 l1)),(Ah v3 g2 3 (List.map Bj l2)),(Ah v4 g3 5 (List.map Be l3)),(Ah v5 g4 7 (List.map Bu l4)),(Ah v6 g5 2 (List.map Bb l5)),(Ah v7 g6 4 (List.map B4 l6)),(Ah v8 g7 8 (List.map Bc l7)),(some (.rows g8 8 [[v1,v2,v3,v4,v5,v6,v7,v8]])),(some (.rows g9 5 [(A4 o1)])),(some (.rows g10 8 [[.emp,.emp,.emp,.emp,.emp,.emp,.emp,.emp]])),(some (.rows g11 5 [[.emp,(.I 0),(.I 0),(.I 0),(.I 0)]])),none,none,none,none,none,(some (.rows g22 2 [[(.str r4.1),v16]])),none,(Ah v16 g26 2 (List.map Dy l9)),none,none]) ?_ fun hJ=>?_
  ·rintro⟨o1,l9⟩ fr h ⟨v16,g26,vH15,rfl,rfl⟩
   refine Al (Dq.eq_1 _ _ _ _ _ _ _ _ _ _ _)<|O<|Ab 3 [8,17] [(258,(.agg [(.str r4.1),v16])),(257,v6)] ?_
   refine Aph (h2:=hp h0 ids [(Ah v1 g 2 (List.map Aw l)),(Ah v2 g1 5 (List.map A9 l1)),(Ah v3 g2 3 (List.map Bj l2)),(Ah v4 g3 5 (List.map Be l3)),(Ah v5 g4 7 (List.map Bu l4)),(Ah v6 g5 2 (List.map Bb l5)),(Ah v7 g6 4 (List.map B4 l6)),(Ah v8 g7 8 (List.map Bc l7)),(some (.rows g8 8 [[v1,v2,v3,v4,v5,v6,v7,v8]])),(some (.rows g9 5 [(A4 o1)])),(some (.rows g10 8 [[.emp,.emp,.emp,.emp,.emp,.emp,.emp,.emp]])),(some (.rows g11 5 [[.emp,(.I 0),(.I 0),(.I 0),(.I 0)]])),none,none,none,none,none,none,none,none,none,none]) [(2,(.q ids 8 g8)),(3,(.q ids 9 g9)),(4,(.q ids 10 g10)),(5,(.q ids 11 g11)),(257,v6),(258,(.agg (Bb ({ Name:=r4.1,Modes:=l9 }:Airport))))] (Drops.sub (.keep (.keep (.keep (.keep (.keep (.keep (.keep (.keep (.keep (.keep (.keep (.keep (.keep (.keep (.keep (.keep (.keep (.drop (.keep (.drop (.keep (.keep .nil)))))))))))))))))))))) hI.len) (.cons (.same _) (.cons (.same _) (.cons (.same _) (.cons (.same _) (.cons (.same _) (.cons (.aggL (.cons (.same _) (.cons (D9 vH15 (hI.at J J) (hI.at J J) (fun x=>Abe x)) .nil))) .nil)))))) J J<|C3 (e:=Bb) (L:=[({ Name:=r4.1,Modes:=l9 }:Airport)]) (st:=2) (rows:=[[(.str ({ Name:=r4.1,Modes:=l9 }:Airport).Name),(.sl 2 (List.map Dy ({ Name:=r4.1,Modes:=l9 }:Airport).Modes))]]) J Lc Ho J J J J J (.cons (RowSim.refl _) .nil) (fun x=>Qu x) J J<|Ee fun hl6=>Ha (e:=Bb) (L:=l5) (L2:=[({ Name:=r4.1,Modes:=l9 }:Airport)]) (v:=v6) (g:=g5) (st:=2) (j:=5) hI J J J J vH5 J (Gb J) Lc Lc J Ho J J J hl6 fun v17 g27 vH16=>Aa (.ptr (ix ids 8) g8 0 5) J (Cb (B3 (c:=0) (off:=5) (i:=5) Dl J Lc J))<|An (G5 vH16 hI J J J J Lc J J J)<|Z ?_
   refine Aj ?_
   refine Bi<|Bo (hJ2 (l,l1,l2,l3,l4,(l5++[({ Name:=r4.1,Modes:=l9 }:Airport)]),l6,l7,o1) _ _ ⟨v1,g,v2,g1,v3,g2,v4,g3,v5,g4,v17,g27,v7,g6,v8,g7,vH,vH1,vH2,vH3,vH4,vH16,vH6,vH7,J,J⟩)
  refine Ba<|D6 [(2,(.q ids 8 g8)),(3,(.q ids 9 g9)),(4,(.q ids 10 g10)),(5,(.q ids 11 g11)),(16,(.q ids 17 g22)),(17,(.bool true))] (FI J)<|Lo (P:=Tryz.prog) (X4 fun x o l8=>Ek x o l8) ((C4 fun o1 l9=>Dq l l1 l2 l3 l4 l5 l6 l7 r4 o1 l9):(T69×(List Mode))→R (T69×(List Volume)×(List Sector)×(List Config)×(List Segment)×(List Route)×(List Airport)×(List Class)×(List Rule))) (X4 fun x o l8=>fun(fr:Nat→AV) (h:Ag) => ∃ (v14:AV),∃ (g23:Nat),Av v14 (ix ids 19) g23 l8.length∧fr=A5 [(2,(.q ids 8 g8)),(3,(.q ids 9 g9)),(4,(.q ids 10 g10)),(5,(.q ids 11 g11)),(16,(.q ids 17 g22)),(17,(.bool x))]∧h=hp h0 ids [(Ah v1 g 2 (List.map Aw l)),(Ah v2 g1 5 (List.map A9 l1)),(Ah v3 g2 3 (List.map Bj l2)),(Ah v4 g3 5 (List.map Be l3)),(Ah v5 g4 7 (List.map Bu l4)),(Ah v6 g5 2 (List.map Bb l5)),(Ah v7 g6 4 (List.map B4 l6)),(Ah v8 g7 8 (List.map Bc l7)),(some (.rows g8 8 [[v1,v2,v3,v4,v5,v6,v7,v8]])),(some (.rows g9 5 [(A4 o)])),(some (.rows g10 8 [[.emp,.emp,.emp,.emp,.emp,.emp,.emp,.emp]])),(some (.rows g11 5 [[.emp,(.I 0),(.I 0),(.I 0),(.I 0)]])),none,none,none,none,none,(some (.rows g22 2 [[(.str r4.1),v14]])),none,(Ah v14 g23 2 (List.map Dy l8)),none,none]) (true,r4.2,[]) ?_ ?_
  ·exact⟨.emp,0,.nil,J,J⟩
  rintro vW hW ⟨x,o,l8⟩ fr h ⟨v14,g23,vH13,rfl,rfl⟩
  refine Al (m':=Ek x o l8) J (Al (Ek.eq_1 _ _ _) ?_)
  refine Y<|Y<|O<|Aa (.bool x) J Ad<|Z<|Bx J (fun hc8=>?_) (fun hc8=>?_)
  ·refine Ax<|Ba<|Y<|O<|Aa (.agg [(.str []),(.I 0)]) J (Hy (Oq Nv Aqm J))<|A8 (j:=18) hI J J J J Nv J fun g24=>An (Aq (v:=(.agg [(.str []),(.I 0)])) hI J J J J Nv J J J J J) ?_
   refine Z<|Aj ?_
   refine Y<|O<|Ab 1 [9] [(229,(.agg (A4 o)))] ?_
   refine A7 [(.agg (A4 o)),(.str [109,111,100,101])] J J J J ((Gh o [109,111,100,101]) _) (fun v _=>Ao (K:=8) (N:=14) Tryz.func23 hI) fun r25 _=>A7 [(.agg (A4 r25))] J J J J ((Nw r25) _) (fun v _=>Ao (K:=8) (N:=14) Tryz.func23 hI) fun r26 _=>Ab 4 [] [(234,(.q ids 18 g24)),(233,(.agg (A4 r26.2))),(232,(.str r26.1))] ?_
   refine An (Aq (v:=(.str r26.1)) hI J J J J Cf J J J J J)<|An (Aq (v:=(.agg (A4 r26.2))) hI J J J J Cr J J J J J)<|Z<|Aj ?_
   refine Y<|O<|Ab 1 [9] [(236,(.agg (A4 r26.2)))] ?_
   refine A7 [(.agg (A4 r26.2)),(.I 0),(.I 64),(.I 1)] J J J J ((Gk r26.2 0 64 1) _) (fun v _=>Ao (K:=8) (N:=14) Tryz.func23 hI) fun r27 _=>Ab 4 [] [(240,(.ptr (ix ids 18) g24 0 1)),(239,(.agg (A4 r27.2))),(238,(.I r27.1))] ?_
   refine An (Aq (v:=(.I r27.1)) hI J J J J C2 J J J J J)<|An (Aq (v:=(.agg (A4 r27.2))) hI J J J J Cr J J J J J)<|Z<|Aj ?_
   refine Y<|O<|Ab 3 [17,18] [(243,(.agg [(.str r26.1),(.I r27.1)])),(242,v14)] ?_
   refine C3 (e:=Dy) (L:=[({ Name:=r26.1,Places:=r27.1 }:Mode)]) (st:=2) (rows:=[[(.str r26.1),(.I r27.1)]]) J K8 Nv J J J J J (.cons (.cons (.same _) (.cons (.same _) .nil)) .nil) (fun x=>Abe x) J J<|Ee fun hl5=>Ha (e:=Dy) (L:=l8) (L2:=[({ Name:=r26.1,Places:=r27.1 }:Mode)]) (v:=v14) (g:=g23) (st:=2) (j:=19) hI J J J J vH13 J (Gb J) K8 K8 J Nv J J J hl5 fun v15 g25 vH14=>Aa (.ptr (ix ids 17) g22 0 1) J (Cb (B3 (c:=0) (off:=1) (i:=1) Ho J K8 J))<|An (G5 vH14 hI J J J J K8 J J J)<|Z<|Aj ?_
   refine O<|Ab 3 [9,17] [(250,v15),(248,(.agg (A4 r27.2)))] ?_
   refine Aa (.I ((l8++[({ Name:=r26.1,Places:=r27.1 }:Mode)]).length:Int)) J (A2 (Av.len vH14 K8))<|Aa (.bool (((l8++[({ Name:=r26.1,Places:=r27.1 }:Mode)]).length:Int)==16)) J (Bh J J J)<|A7 [(.agg (A4 r27.2)),(.bool (((l8++[({ Name:=r26.1,Places:=r27.1 }:Mode)]).length:Int)==16))] J J J J ((T8 r27.2 (((l8++[({ Name:=r26.1,Places:=r27.1 }:Mode)]).length:Int)==16)) _) (fun v _=>Ao (K:=8) (N:=14) Tryz.func23 hI) fun r28 _=>Ab 4 [] [(17,(.bool r28.1)),(255,(.agg (A4 r28.2)))] ?_
   refine An (Aq (v:=(.agg (A4 r28.2))) hI J J J J Cr J J J J J)<|Z<|Aj ?_
   refine Bi<|Eb [(Ah v1 g 2 (List.map Aw l)),(Ah v2 g1 5 (List.map A9 l1)),(Ah v3 g2 3 (List.map Bj l2)),(Ah v4 g3 5 (List.map Be l3)),(Ah v5 g4 7 (List.map Bu l4)),(Ah v6 g5 2 (List.map Bb l5)),(Ah v7 g6 4 (List.map B4 l6)),(Ah v8 g7 8 (List.map Bc l7)),(some (.rows g8 8 [[v1,v2,v3,v4,v5,v6,v7,v8]])),(some (.rows g9 5 [(A4 r28.2)])),(some (.rows g10 8 [[.emp,.emp,.emp,.emp,.emp,.emp,.emp,.emp]])),(some (.rows g11 5 [[.emp,(.I 0),(.I 0),(.I 0),(.I 0)]])),none,none,none,none,none,(some (.rows g22 2 [[(.str r4.1),v15]])),none,(Ah v15 g25 2 (List.map Dy (l8++[({ Name:=r26.1,Places:=r27.1 }:Mode)]))),none,none] hI J (.keep (.keep (.keep (.keep (.keep (.keep (.keep (.keep (.keep (.keep (.keep (.keep (.keep (.keep (.keep (.keep (.keep (.keep (.drop (.keep (.keep (.keep .nil))))))))))))))))))))))<|Bo (G7 (hW (r28.1,r28.2,(l8++[({ Name:=r26.1,Places:=r27.1 }:Mode)])) _ _ ⟨v15,g25,vH14,J,J⟩))
  refine Cy J<|Kq<|Bo (hJ (o,l8) _ _ ⟨v14,g23,vH13,J,J⟩)
 refine Y<|O<|Ab 2 [] [(262,(.bool (r==6)))] ?_
 refine Z<|Bx J (fun hc9=>?_) (fun hc9=>?_)
 ·refine Y<|O<|Ab 2 [] [(265,(.agg [(.str r4.1),(.I 0),(.I 0),(.I 0)]))] ?_
  refine A8 (j:=20) hI J J J J Jj J fun g28=>An (Aq (v:=(.agg [(.str r4.1),(.I 0),(.I 0),(.I 0)])) hI J J J J Jj J J J J J)<|Z<|Aj ?_
  refine Y<|O<|Ab 1 [9] [(267,(.agg (A4 r4.2)))] ?_
  refine A7 [(.agg (A4 r4.2)),(.str [115,108,111,119])] J J J J ((Gh r4.2 [115,108,111,119]) _) (fun v _=>Ao (K:=8) (N:=14) Tryz.func23 hI) fun r29 _=>A7 [(.agg (A4 r29)),(.I 1),(.I 64),(.I 1)] J J J J ((Gk r29 1 64 1) _) (fun v _=>Ao (K:=8) (N:=14) Tryz.func23 hI) fun r30 _=>Ab 4 [] [(272,(.ptr (ix ids 20) g28 0 1)),(271,(.agg (A4 r30.2))),(270,(.I r30.1))] ?_
  refine An (Aq (v:=(.I r30.1)) hI J J J J C2 J J J J J)<|An (Aq (v:=(.agg (A4 r30.2))) hI J J J J Cr J J J J J)<|Z<|Aj ?_
  refine Y<|Ct Es [[],[0],[],[2],[0,1,2,3],[0,1,2,3,4],[0,1,2,3,4,5],[0,1,2,3,4,5],[0,1,2,3,4,5,6],[0,1,2,3,4,4,5,6,6,8],[0,1,2,3,4,5,6,7,7,8,9,9]] [(false,0),(false,2),(false,3),(true,1),(true,4),(false,5),(false,6),(false,7),(false,8),(true,9),(true,10)] (by kernel_rfl)<|Af (.agg (A4 r30.2)) J J (Au (A3 hI J J J Cr J))<|Af (.ptr (ix ids 20) g28 0 1) J J (Cb (B3 (c:=0) (off:=1) (i:=1) Jj J C2 J))<|Af (.I r30.1) J J (Au (A3 hI J J J C2 J))<|Oy [(.agg (A4 r30.2)),(.str [102,97,115,116])] J J J J J ((Gh r30.2 [102,97,115,116]) _) (fun v _ _ _=>Ao (K:=8) (N:=14) Tryz.func23 hI) (Bt J (Au (A3 hI J J J C2 J)) (Bt J (Cb (B3 (c:=0) (off:=1) (i:=1) Jj J C2 J)) (Ae J Bp))) fun r31 _=>Oy [(.agg (A4 r31)),(.I r30.1),(.I 64),(.I 1)] J J J J J ((Gk r31 r30.1 64 1) _) (fun v _ _ _=>Ao (K:=8) (N:=14) Tryz.func23 hI) (Ae J (Ae J (Ae J Bp))) fun r32 _=>?_
  refine Af (.tup [(.I r32.1),(.agg (A4 r32.2))]) J J Ad<|Af (.I r32.1) J J (F8 J)<|Af (.agg (A4 r32.2)) J J (F8 J)<|Af (.ptr (ix ids 20) g28 0 2) J J (Cb (B3 (c:=0) (off:=2) (i:=2) Jj J C2 J))<|D7 J (fun _ _=>J) (fun K hK=>Co (Aq (v:=(.I r32.1)) hI J J J J C2 J J J J J) (hK _ _ (Ae J (Bt J (F8 J) (Ae J (Ae J (Ae J (Ae J (Ae J Bp))))))) ?_))
  clear hK K
  refine D7 J (fun _ _=>J) (fun K hK=>Co (Aq (v:=(.agg (A4 r32.2))) hI J J J J Cr J J J J J) (hK _ _ (Ae J (Ae J (Ae J (Ae J (Ae J (Ae J (Ae J Bp))))))) ?_))
  clear hK K
  refine Ck<|Aj ?_
  refine Y<|O<|Ab 1 [9] [(283,(.agg (A4 r32.2)))] ?_
  refine A7 [(.agg (A4 r32.2)),(.str [112,108,97,99,101,115])] J J J J ((Gh r32.2 [112,108,97,99,101,115]) _) (fun v _=>Ao (K:=8) (N:=14) Tryz.func23 hI) fun r33 _=>A7 [(.agg (A4 r33)),(.I 1),(.I 8),(.I 1)] J J J J ((Gk r33 1 8 1) _) (fun v _=>Ao (K:=8) (N:=14) Tryz.func23 hI) fun r34 _=>Ab 4 [] [(288,(.ptr (ix ids 20) g28 0 3)),(287,(.agg (A4 r34.2))),(286,(.I r34.1))] ?_
  refine An (Aq (v:=(.I r34.1)) hI J J J J C2 J J J J J)<|An (Aq (v:=(.agg (A4 r34.2))) hI J J J J Cr J J J J J)<|Z<|Aj ?_
  refine O<|Ab 3 [8,20] [(291,(.agg [(.str r4.1),(.I r30.1),(.I r32.1),(.I r34.1)])),(290,v7)] ?_
  refine C3 (e:=B4) (L:=[({ Name:=r4.1,Slow:=r30.1,Fast:=r32.1,Places:=r34.1 }:Class)]) (st:=4) (rows:=[[(.str r4.1),(.I r30.1),(.I r32.1),(.I r34.1)]]) J J2 Jj J J J J J (.cons (.cons (.same _) (.cons (.same _) (.cons (.same _) (.cons (.same _) .nil)))) .nil) (fun x=>Uq x) J J<|Ee fun hl7=>Ha (e:=B4) (L:=l6) (L2:=[({ Name:=r4.1,Slow:=r30.1,Fast:=r32.1,Places:=r34.1 }:Class)]) (v:=v7) (g:=g6) (st:=4) (j:=6) hI J J J J vH6 J (Gb J) J2 J2 J Jj J J J hl7 fun v18 g29 vH17=>Aa (.ptr (ix ids 8) g8 0 6) J (Cb (B3 (c:=0) (off:=6) (i:=6) Dl J J2 J))<|An (G5 vH17 hI J J J J J2 J J J)<|Z<|Aj ?_
  refine Bi<|Eb [(Ah v1 g 2 (List.map Aw l)),(Ah v2 g1 5 (List.map A9 l1)),(Ah v3 g2 3 (List.map Bj l2)),(Ah v4 g3 5 (List.map Be l3)),(Ah v5 g4 7 (List.map Bu l4)),(Ah v6 g5 2 (List.map Bb l5)),(Ah v18 g29 4 (List.map B4 (l6++[({ Name:=r4.1,Slow:=r30.1,Fast:=r32.1,Places:=r34.1 }:Class)]))),(Ah v8 g7 8 (List.map Bc l7)),(some (.rows g8 8 [[v1,v2,v3,v4,v5,v6,v18,v8]])),(some (.rows g9 5 [(A4 r34.2)])),(some (.rows g10 8 [[.emp,.emp,.emp,.emp,.emp,.emp,.emp,.emp]])),(some (.rows g11 5 [[.emp,(.I 0),(.I 0),(.I 0),(.I 0)]])),none,none,none,none,none,none,none,none,none,none] hI J (.keep (.keep (.keep (.keep (.keep (.keep (.keep (.keep (.keep (.keep (.keep (.keep (.keep (.keep (.keep (.keep (.keep (.keep (.keep (.keep (.drop (.keep .nil))))))))))))))))))))))<|Bo (hJ2 (l,l1,l2,l3,l4,l5,(l6++[({ Name:=r4.1,Slow:=r30.1,Fast:=r32.1,Places:=r34.1 }:Class)]),l7,r34.2) _ _ ⟨v1,g,v2,g1,v3,g2,v4,g3,v5,g4,v6,g5,v18,g29,v8,g7,vH,vH1,vH2,vH3,vH4,vH5,vH17,vH7,J,J⟩)
 refine Y<|O<|Ab 2 [] [(52,(.agg [(.I 0),(.str r4.1),(.str []),(.I 0),(.I 0),(.I 0),(.I 0),(.I 0)]))] ?_
 refine A8 (j:=21) hI J J J J D3 J fun g30=>An (Aq (v:=(.agg [(.I 0),(.str r4.1),(.str []),(.I 0),(.I 0),(.I 0),(.I 0),(.I 0)])) hI J J J J D3 J J J J J)<|Z<|Aj ?_
 refine Y<|Y<|O<|Aa (.str a.Text) J Ad<|Z<|Dx (C4 fun o2 o3=>C9 l l1 l2 l3 l4 l5 l6 l7 o2 o3) (C4 fun o2 o3=>fun(fr:Nat→AV) (h:Ag)=>fr=A5 [(2,(.q ids 8 g8)),(3,(.q ids 9 g9)),(4,(.q ids 10 g10)),(5,(.q ids 11 g11)),(20,(.q ids 21 g30))]∧h=hp h0 ids [(Ah v1 g 2 (List.map Aw l)),(Ah v2 g1 5 (List.map A9 l1)),(Ah v3 g2 3 (List.map Bj l2)),(Ah v4 g3 5 (List.map Be l3)),(Ah v5 g4 7 (List.map Bu l4)),(Ah v6 g5 2 (List.map Bb l5)),(Ah v7 g6 4 (List.map B4 l6)),(Ah v8 g7 8 (List.map Bc l7)),(some (.rows g8 8 [[v1,v2,v3,v4,v5,v6,v7,v8]])),(some (.rows g9 5 [(A4 o2)])),(some (.rows g10 8 [[.emp,.emp,.emp,.emp,.emp,.emp,.emp,.emp]])),(some (.rows g11 5 [[.emp,(.I 0),(.I 0),(.I 0),(.I 0)]])),none,none,none,none,none,none,none,none,none,(some (.rows g30 8 [(Bc o3)]))]) ?_ fun hJ1=>?_
 ·rintro⟨o2,o3⟩ fr h ⟨rfl,rfl⟩
  refine Al (C9.eq_1 _ _ _ _ _ _ _ _ _ _)<|O<|Ab 3 [8,21] [(91,(.agg (Bc o3))),(90,v8)] ?_
  refine C3 (e:=Bc) (L:=[o3]) (st:=8) (rows:=[[(.I o3.Kind),(.str o3.C),(.str o3.A),(.I o3.Class),(.I o3.Airport),(.I o3.N),(.I o3.Hours.From),(.I o3.Hours.To)]]) J Fg D3 J J J J J (.cons (RowSim.refl _) .nil) (fun x=>Q4 x) J J<|Ee fun hl8=>Ha (e:=Bc) (L:=l7) (L2:=[o3]) (v:=v8) (g:=g7) (st:=8) (j:=7) hI J J J J vH7 J (Gb J) Fg Fg J D3 J J J hl8 fun v19 g31 vH18=>Aa (.ptr (ix ids 8) g8 0 7) J (Cb (B3 (c:=0) (off:=7) (i:=7) Dl J Fg J))<|An (G5 vH18 hI J J J J Fg J J J)<|Z<|Aj ?_
  refine Bi<|Eb [(Ah v1 g 2 (List.map Aw l)),(Ah v2 g1 5 (List.map A9 l1)),(Ah v3 g2 3 (List.map Bj l2)),(Ah v4 g3 5 (List.map Be l3)),(Ah v5 g4 7 (List.map Bu l4)),(Ah v6 g5 2 (List.map Bb l5)),(Ah v7 g6 4 (List.map B4 l6)),(Ah v19 g31 8 (List.map Bc (l7++[o3]))),(some (.rows g8 8 [[v1,v2,v3,v4,v5,v6,v7,v19]])),(some (.rows g9 5 [(A4 o2)])),(some (.rows g10 8 [[.emp,.emp,.emp,.emp,.emp,.emp,.emp,.emp]])),(some (.rows g11 5 [[.emp,(.I 0),(.I 0),(.I 0),(.I 0)]])),none,none,none,none,none,none,none,none,none,none] hI J (.keep (.keep (.keep (.keep (.keep (.keep (.keep (.keep (.keep (.keep (.keep (.keep (.keep (.keep (.keep (.keep (.keep (.keep (.keep (.keep (.keep (.drop .nil))))))))))))))))))))))<|Bo (hJ2 (l,l1,l2,l3,l4,l5,l6,(l7++[o3]),o2) _ _ ⟨v1,g,v2,g1,v3,g2,v4,g3,v5,g4,v6,g5,v7,g6,v19,g31,vH,vH1,vH2,vH3,vH4,vH5,vH6,vH18,J,J⟩)
 refine Ba<|Y<|O<|Ab 2 [] [(61,(.bool (a.Text==[99,117,114,102,101,119])))] ?_
 refine Z<|Bx J (fun hc10=>?_) (fun hc10=>?_)
 ·refine Y<|O<|Aa (.q ids 21 g30) J (Cb (B3 (c:=0) (off:=0) (i:=0) D3 J C2 J))<|An (Aq (v:=(.I 1)) hI J J J J C2 J J J J J)<|Z<|Aj ?_
  refine Y<|O<|Ab 1 [9] [(65,(.agg (A4 r4.2)))] ?_
  refine A7 [(.agg (A4 r4.2)),(.str [97,116])] J J J J ((Gh r4.2 [97,116]) _) (fun v _=>Ao (K:=8) (N:=14) Tryz.func23 hI) fun r35 _=>A7 [(.agg (A4 r35))] J J J J ((Nw r35) _) (fun v _=>Ao (K:=8) (N:=14) Tryz.func23 hI) fun r36 _=>Ab 4 [] [(70,(.ptr (ix ids 21) g30 0 2)),(69,(.agg (A4 r36.2))),(68,(.str r36.1))] ?_
  refine An (Aq (v:=(.str r36.1)) hI J J J J Cf J J J J J)<|An (Aq (v:=(.agg (A4 r36.2))) hI J J J J Cr J J J J J)<|Z<|Aj ?_
  refine O<|Ab 1 [9] [(72,(.agg (A4 r36.2)))] ?_
  refine A7 [(.agg (A4 r36.2))] J J J J ((Y2 r36.2) _) (fun v _=>Ao (K:=8) (N:=14) Tryz.func23 hI) fun r37 _=>Ab 4 [] [(76,(.ptr (ix ids 21) g30 0 6)),(75,(.agg (A4 r37.2))),(74,(.agg (B7 r37.1)))] ?_
  refine An (Aq (v:=(.agg (B7 r37.1))) hI J J J J Hz J J J J J)<|An (Aq (v:=(.agg (A4 r37.2))) hI J J J J Cr J J J J J)<|Z<|Aj ?_
  refine Bi<|Bo (hJ1 (r37.2,({ Kind:=1,C:=r4.1,A:=r36.1,Class:=0,Airport:=0,N:=0,Hours:=r37.1 }:Rule)) _ _ ⟨J,J⟩)
 refine Y<|O<|Ab 2 [] [(77,(.bool (a.Text==[101,120,101,109,112,116])))] ?_
 refine Z<|Bx J (fun hc11=>?_) (fun hc11=>?_)
 ·refine O<|Aa (.q ids 21 g30) J (Cb (B3 (c:=0) (off:=0) (i:=0) D3 J C2 J))<|An (Aq (v:=(.I 2)) hI J J J J C2 J J J J J)<|Z<|Aj ?_
  refine Bi<|Bo (hJ1 (r4.2,({ Kind:=2,C:=r4.1,A:=[],Class:=0,Airport:=0,N:=0,Hours:=({ From:=0,To:=0 }:Span) }:Rule)) _ _ ⟨J,J⟩)
 refine Y<|O<|Ab 2 [] [(80,(.bool (a.Text==[119,101,105,103,104,116])))] ?_
 refine Z<|Bx J (fun hc12=>?_) (fun hc12=>?_)
 ·refine Y<|O<|Aa (.q ids 21 g30) J (Cb (B3 (c:=0) (off:=0) (i:=0) D3 J C2 J))<|An (Aq (v:=(.I 3)) hI J J J J C2 J J J J J)<|Z<|Aj ?_
  refine O<|Ab 1 [9] [(84,(.agg (A4 r4.2)))] ?_
  refine A7 [(.agg (A4 r4.2)),(.I 1),(.I 8),(.I 1)] J J J J ((Gk r4.2 1 8 1) _) (fun v _=>Ao (K:=8) (N:=14) Tryz.func23 hI) fun r38 _=>Ab 4 [] [(88,(.ptr (ix ids 21) g30 0 5)),(87,(.agg (A4 r38.2))),(86,(.I r38.1))] ?_
  refine An (Aq (v:=(.I r38.1)) hI J J J J C2 J J J J J)<|An (Aq (v:=(.agg (A4 r38.2))) hI J J J J Cr J J J J J)<|Z<|Aj ?_
  refine Bi<|Bo (hJ1 (r38.2,({ Kind:=3,C:=r4.1,A:=[],Class:=0,Airport:=0,N:=r38.1,Hours:=({ From:=0,To:=0 }:Span) }:Rule)) _ _ ⟨J,J⟩)
 refine Y<|O<|Aa (.q ids 21 g30) J (Cb (B3 (c:=0) (off:=0) (i:=0) D3 J C2 J))<|An (Aq (v:=(.I 4)) hI J J J J C2 J J J J J)<|Z<|Aj ?_
 refine O<|Ab 1 [9] [(56,(.agg (A4 r4.2)))] ?_
 refine A7 [(.agg (A4 r4.2)),(.I 0),(.I 60),(.I 10)] J J J J ((Gk r4.2 0 60 10) _) (fun v _=>Ao (K:=8) (N:=14) Tryz.func23 hI) fun r39 _=>Ab 4 [] [(60,(.ptr (ix ids 21) g30 0 5)),(59,(.agg (A4 r39.2))),(58,(.I r39.1))] ?_
 refine An (Aq (v:=(.I r39.1)) hI J J J J C2 J J J J J)<|An (Aq (v:=(.agg (A4 r39.2))) hI J J J J Cr J J J J J)<|Z<|Aj ?_
 refine Bi<|Bo (hJ1 (r39.2,({ Kind:=4,C:=r4.1,A:=[],Class:=0,Airport:=0,N:=r39.1,Hours:=({ From:=0,To:=0 }:Span) }:Rule)) _ _ ⟨J,J⟩)
theorem Aej (src:Ay):CP Tryz.prog 11 [(.str src)] (Q5 src) (fun(p:(Airspace×Int×Int))=>AV.tup [(.agg (A6 p.1)),(.int .i64 p.2.1),(.int .i64 p.2.2)]):=by
 refine Cd (n:=52) 11 Tryz.func11 J (by decide) J J fun h0 ids hI=>Bn (Al (Q5.eq_1 _) ?_)
 refine Y<|O<|A8 (j:=0) hI J J J J Dl J fun g=>Ab 2 [] [] ?_
 refine Z<|Aj ?_
 refine Y<|O<|Aa (.str src) J Ad<|A7 [(.str src)] J J J J ((Ag7 src) _) (fun v _=>B0 Tryz.func11 hI) fun r _=>Ab 7 [] [(7,(.I r.2.2)),(6,(.I r.2.1)),(5,(.sl 4 (List.map Ac r.1)))] ?_
 refine Z<|Y<|Y<|O<|Ab 2 [] [(17,(.bool (r.2.2 != 0)))] ?_
 refine Z<|Bx J (fun hc=>?_) (fun hc=>?_)
 ·refine Y<|O<|Ab 3 [] [(20,(.I r.2.2)),(19,(.I r.2.1)),(18,(.agg [.emp,.emp,.emp,.emp,.emp,.emp,.emp,.emp]))] ?_
  refine An (Aq (v:=(.agg [.emp,.emp,.emp,.emp,.emp,.emp,.emp,.emp])) hI J J J J Dl J J J J J)<|Ab 2 [] [(4,(.I r.2.2)),(3,(.I r.2.1))] ?_
  refine Z<|Bl (a:=(({ Volumes:=[],Sectors:=[],Configs:=[],Segments:=[],Routes:=[],Airports:=[],Classes:=[],Rules:=[] }:Airspace),r.2.1,r.2.2)) (vs:=[(.agg [.emp,.emp,.emp,.emp,.emp,.emp,.emp,.emp]),(.I r.2.1),(.I r.2.2)]) Tryz.func11 hI (Cc (A3 hI J J J Dl J) (Jl (Jl C8))) (.tupL (.cons (.aggL (.cons (.emp _) (.cons (.emp _) (.cons (.emp _) (.cons (.emp _) (.cons (.emp _) (.cons (.emp _) (.cons (.emp _) (.cons (.emp _) .nil))))))))) (.cons (.same _) (.cons (.same _) .nil))))
 refine Ax<|Y<|O<|Ab 2 [] [(22,(.str src)),(21,(.sl 4 (List.map Ac r.1)))] ?_
 refine Aa (.I (src.length:Int)) J (A2 (Fe Cf))<|Aa (.agg [(.sl 4 (List.map Ac r.1)),(.I 0),(.I (src.length:Int)),(.I 0),(.I 0)]) J (Hy (Oq Cr Aqr J))<|A8 (j:=1) hI J J J J Cr J fun g1=>An (Aq (v:=(.agg [(.sl 4 (List.map Ac r.1)),(.I 0),(.I (src.length:Int)),(.I 0),(.I 0)])) hI J J J J Cr J J J J J)<|Z<|Aj ?_
 refine Y<|O<|Aa (.agg [.emp,.emp,.emp,.emp,.emp,.emp,.emp,.emp]) J (Hy (Oq Dl Ad2 J))<|A8 (j:=2) hI J J J J Dl J fun g2=>An (Aq (v:=(.agg [.emp,.emp,.emp,.emp,.emp,.emp,.emp,.emp])) hI J J J J Dl J J J J J)<|Z<|Aj ?_
 refine Y<|Dx (Xb fun o l8 l9 l10 l11 l12 l13 l14 l15=>Oh o l8 l9 l10 l11 l12 l13 l14 l15) (Xb fun o l8 l9 l10 l11 l12 l13 l14 l15=>fun(fr:Nat→AV) (h:Ag) => ∃ (v16:AV),∃ (g19:Nat),∃ (v17:AV),∃ (g20:Nat),∃ (v18:AV),∃ (g21:Nat),∃ (v19:AV),∃ (g22:Nat),∃ (v20:AV),∃ (g23:Nat),∃ (v21:AV),∃ (g24:Nat),∃ (v22:AV),∃ (g25:Nat),∃ (v23:AV),∃ (g26:Nat),Av v16 (ix ids 3) g19 l8.length∧Av v17 (ix ids 4) g20 l9.length∧Av v18 (ix ids 5) g21 l10.length∧Av v19 (ix ids 6) g22 l11.length∧Av v20 (ix ids 7) g23 l12.length∧Av v21 (ix ids 8) g24 l13.length∧Av v22 (ix ids 9) g25 l14.length∧Av v23 (ix ids 10) g26 l15.length∧fr=A5 [(2,(.q ids 0 g)),(8,(.q ids 1 g1)),(9,(.q ids 2 g2))]∧h=hp h0 ids [(some (.rows g 8 [[.emp,.emp,.emp,.emp,.emp,.emp,.emp,.emp]])),(some (.rows g1 5 [(A4 o)])),(some (.rows g2 8 [[v16,v17,v18,v19,v20,v21,v22,v23]])),(Ah v16 g19 2 (List.map Aw l8)),(Ah v17 g20 5 (List.map A9 l9)),(Ah v18 g21 3 (List.map Bj l10)),(Ah v19 g22 5 (List.map Be l11)),(Ah v20 g23 7 (List.map Bu l12)),(Ah v21 g24 2 (List.map Bb l13)),(Ah v22 g25 4 (List.map B4 l14)),(Ah v23 g26 8 (List.map Bc l15))]) ?_ fun hJ1=>?_
 ·rintro⟨o,l8,l9,l10,l11,l12,l13,l14,l15⟩ fr h ⟨v16,g19,v17,g20,v18,g21,v19,g22,v20,g23,v21,g24,v22,g25,v23,g26,vH16,vH17,vH18,vH19,vH20,vH21,vH22,vH23,rfl,rfl⟩
  refine Al (Oh.eq_1 _ _ _ _ _ _ _ _ _)<|Y<|Y<|O<|Ab 3 [1] [(45,(.bool (o.E != 0)))] ?_
  refine Z<|Bx J (fun hc2=>?_) (fun hc2=>?_)
  ·refine Y<|Ct Es [[],[],[1],[],[3],[0,0],[0,1,2,2,5,5],[0,1,2,3,4,4,5,6,6]] [(false,0),(false,1),(false,2),(false,3),(false,4),(true,5),(false,6),(false,7)] (by kernel_rfl)<|Af (.agg [.emp,.emp,.emp,.emp,.emp,.emp,.emp,.emp]) J J (Hy (Oq Dl Ad2 J))<|Af (.ptr (ix ids 1) g1 0 4) J J (Cb (B3 (c:=0) (off:=4) (i:=4) Cr J C2 J))<|Af (.I o.At) J J (Au (A3 hI J J J C2 J))<|Af (.ptr (ix ids 1) g1 0 3) J J (Cb (B3 (c:=0) (off:=3) (i:=3) Cr J K5 J))<|Af (.I o.E) J J (Au (A3 hI J J J K5 J)) ?_
   refine D7 J (fun _ _=>J) (fun K hK=>Co (Aq (v:=(.agg [.emp,.emp,.emp,.emp,.emp,.emp,.emp,.emp])) hI J J J J Dl J J J J J) (hK _ _ (Bt J (Au (A3 hI J J J K5 J)) (Bt J (Cb (B3 (c:=0) (off:=3) (i:=3) Cr J K5 J)) (Bt J (Au (A3 hI J J J C2 J)) (Bt J (Cb (B3 (c:=0) (off:=4) (i:=4) Cr J C2 J)) (Ae J Bp))))) ?_))
   clear hK K
   refine Af (.I o.At) J J Ai<|Af (.I o.E) J J Ai<|Ck<|Bl (a:=(({ Volumes:=[],Sectors:=[],Configs:=[],Segments:=[],Routes:=[],Airports:=[],Classes:=[],Rules:=[] }:Airspace),o.At,o.E)) (vs:=[(.agg [.emp,.emp,.emp,.emp,.emp,.emp,.emp,.emp]),(.I o.At),(.I o.E)]) Tryz.func11 hI (Cc (A3 hI J J J Dl J) (Jl (Jl C8))) (.tupL (.cons (.aggL (.cons (.emp _) (.cons (.emp _) (.cons (.emp _) (.cons (.emp _) (.cons (.emp _) (.cons (.emp _) (.cons (.emp _) (.cons (.emp _) .nil))))))))) (.cons (.same _) (.cons (.same _) .nil))))
  refine Ax<|Y<|O<|Ab 1 [2] [(51,(.agg [v16,v17,v18,v19,v20,v21,v22,v23]))] ?_
  refine An (Aq (v:=(.agg [v16,v17,v18,v19,v20,v21,v22,v23])) hI J J J J Dl J J J J (Bs (Av.flat vH16) (Bs (Av.flat vH17) (Bs (Av.flat vH18) (Bs (Av.flat vH19) (Bs (Av.flat vH20) (Bs (Av.flat vH21) (Bs (Av.flat vH22) (Bs (Av.flat vH23) Pe)))))))))<|Ab 2 [] [(4,(.I 0)),(3,(.I 0))] ?_
  refine Z<|Aj ?_
  exact Bl (a:=(({ Volumes:=l8,Sectors:=l9,Configs:=l10,Segments:=l11,Routes:=l12,Airports:=l13,Classes:=l14,Rules:=l15 }:Airspace),0,0)) (vs:=[(.agg [v16,v17,v18,v19,v20,v21,v22,v23]),(.I 0),(.I 0)]) Tryz.func11 hI (Cc (A3 hI J J J Dl J) (Jl (Jl C8))) (.tupL (.cons (.aggL (.cons (D9 vH16 (hI.at J J) (hI.out J) (fun x=>Rm x)) (.cons (D9 vH17 (hI.at J J) (hI.out J) (fun x=>Qe x)) (.cons (D9 vH18 (hI.at J J) (hI.out J) (fun x=>S2 x)) (.cons (D9 vH19 (hI.at J J) (hI.out J) (fun x=>Rw x)) (.cons (D9 vH20 (hI.at J J) (hI.out J) (fun x=>Ut x)) (.cons (D9 vH21 (hI.at J J) (hI.out J) (fun x=>Qu x)) (.cons (D9 vH22 (hI.at J J) (hI.out J) (fun x=>Uq x)) (.cons (D9 vH23 (hI.at J J) (hI.out J) (fun x=>Q4 x)) .nil))))))))) (.cons (.same _) (.cons (.same _) .nil))))
 refine Ba<|D6 [(2,(.q ids 0 g)),(8,(.q ids 1 g1)),(9,(.q ids 2 g2))] (FI J)<|Lo (P:=Tryz.prog) (Aat fun vL vN vEnd vE vAt l l1 l2 l3 l4 l5 l6 l7=>Eu vL vN vEnd vE vAt l l1 l2 l3 l4 l5 l6 l7) ((Xb fun o l8 l9 l10 l11 l12 l13 l14 l15=>Oh o l8 l9 l10 l11 l12 l13 l14 l15):(T69×(List Volume)×(List Sector)×(List Config)×(List Segment)×(List Route)×(List Airport)×(List Class)×(List Rule))→R (Airspace×Int×Int)) (Aat fun vL vN vEnd vE vAt l l1 l2 l3 l4 l5 l6 l7=>fun(fr:Nat→AV) (h:Ag) => ∃ (v:AV),∃ (g3:Nat),∃ (v1:AV),∃ (g4:Nat),∃ (v2:AV),∃ (g5:Nat),∃ (v3:AV),∃ (g6:Nat),∃ (v4:AV),∃ (g7:Nat),∃ (v5:AV),∃ (g8:Nat),∃ (v6:AV),∃ (g9:Nat),∃ (v7:AV),∃ (g10:Nat),Av v (ix ids 3) g3 l.length∧Av v1 (ix ids 4) g4 l1.length∧Av v2 (ix ids 5) g5 l2.length∧Av v3 (ix ids 6) g6 l3.length∧Av v4 (ix ids 7) g7 l4.length∧Av v5 (ix ids 8) g8 l5.length∧Av v6 (ix ids 9) g9 l6.length∧Av v7 (ix ids 10) g10 l7.length∧fr=A5 [(2,(.q ids 0 g)),(8,(.q ids 1 g1)),(9,(.q ids 2 g2))]∧h=hp h0 ids [(some (.rows g 8 [[.emp,.emp,.emp,.emp,.emp,.emp,.emp,.emp]])),(some (.rows g1 5 [[(.sl 4 (List.map Ac vL)),(.I vN),(.I vEnd),(.I vE),(.I vAt)]])),(some (.rows g2 8 [[v,v1,v2,v3,v4,v5,v6,v7]])),(Ah v g3 2 (List.map Aw l)),(Ah v1 g4 5 (List.map A9 l1)),(Ah v2 g5 3 (List.map Bj l2)),(Ah v3 g6 5 (List.map Be l3)),(Ah v4 g7 7 (List.map Bu l4)),(Ah v5 g8 2 (List.map Bb l5)),(Ah v6 g9 4 (List.map B4 l6)),(Ah v7 g10 8 (List.map Bc l7))]) (r.1,0,(src.length:Int),0,0,[],[],[],[],[],[],[],[]) ?_ ?_
 ·exact⟨.emp,0,.emp,0,.emp,0,.emp,0,.emp,0,.emp,0,.emp,0,.emp,0,.nil,.nil,.nil,.nil,.nil,.nil,.nil,.nil,J,J⟩
 rintro vW hW ⟨vL,vN,vEnd,vE,vAt,l,l1,l2,l3,l4,l5,l6,l7⟩ fr h ⟨v,g3,v1,g4,v2,g5,v3,g6,v4,g7,v5,g8,v6,g9,v7,g10,vH,vH1,vH2,vH3,vH4,vH5,vH6,vH7,rfl,rfl⟩
 refine Al (m':=Eu vL vN vEnd vE vAt l l1 l2 l3 l4 l5 l6 l7) J (Al (Eu.eq_1 _ _ _ _ _ _ _ _ _ _ _ _ _) ?_)
 refine Y<|Y<|O<|Ab 4 [1] [(29,(.bool (vE==0)))] ?_
 refine B2 7 [(2,(.q ids 0 g)),(8,(.q ids 1 g1)),(9,(.q ids 2 g2)),(36,(.bool ((vE==0)&&(decide (vN<(vL.length:Int))))))] ?_ fun hJ=>Bw (vE==0) (fun hb1=>?_) (fun hb1=>?_)
 ·refine Z<|Bx J (fun hc1=>?_) (fun hc1=>?_)
  ·refine Ax<|Ba<|O<|Ab 2 [2,1] [(39,(.agg [(.sl 4 (List.map Ac vL)),(.I vN),(.I vEnd),(.I vE),(.I vAt)])),(38,(.agg [v,v1,v2,v3,v4,v5,v6,v7]))] ?_
   refine Ap [3,4,5,6,7,8,9,10] hI J J (Yj ({ L:=vL,N:=vN,End:=vEnd,E:=vE,At:=vAt }:T69) l l1 l2 l3 l4 l5 l6 l7 _ (ix ids 3) (ix ids 4) (ix ids 5) (ix ids 6) (ix ids 7) (ix ids 8) (ix ids 9) (ix ids 10) v g3 v1 g4 v2 g5 v3 g6 v4 g7 v5 g8 v6 g9 v7 g10 vH vH1 vH2 vH3 vH4 vH5 vH6 vH7 (by exact hI.sub' J J)) J J J J J J (fun v _=>B0 Tryz.func11 hI) ?_
   rintro r1 _ _ _ ⟨v8,g11,v9,g12,v10,g13,v11,g14,v12,g15,v13,g16,v14,g17,v15,g18,vH8,vH9,vH10,vH11,vH12,vH13,vH14,vH15,rfl,rfl⟩
   refine A0 [3,4,5,6,7,8,9,10] hI J J J ?_
   refine Ar<|Ab 3 [] [(42,(.agg (A4 r1.1))),(41,(.agg [v8,v9,v10,v11,v12,v13,v14,v15]))] ?_
   refine An (Aq (v:=(.agg [v8,v9,v10,v11,v12,v13,v14,v15])) hI J J J J Dl J J J J (Bs (Av.flat vH8) (Bs (Av.flat vH9) (Bs (Av.flat vH10) (Bs (Av.flat vH11) (Bs (Av.flat vH12) (Bs (Av.flat vH13) (Bs (Av.flat vH14) (Bs (Av.flat vH15) Pe)))))))))<|An (Aq (v:=(.agg (A4 r1.1))) hI J J J J Cr J J J J J)<|Z<|Aj ?_
   refine Bi<|Bo (G7 (hW (r1.1.L,r1.1.N,r1.1.End,r1.1.E,r1.1.At,r1.2.1,r1.2.2.1,r1.2.2.2.1,r1.2.2.2.2.1,r1.2.2.2.2.2.1,r1.2.2.2.2.2.2.1,r1.2.2.2.2.2.2.2.1,r1.2.2.2.2.2.2.2.2) _ _ ⟨v8,g11,v9,g12,v10,g13,v11,g14,v12,g15,v13,g16,v14,g17,v15,g18,vH8,vH9,vH10,vH11,vH12,vH13,vH14,vH15,J,J⟩))
  refine Cy J<|Kq<|Bo (hJ1 (({ L:=vL,N:=vN,End:=vEnd,E:=vE,At:=vAt }:T69),l,l1,l2,l3,l4,l5,l6,l7) _ _ ⟨v,g3,v1,g4,v2,g5,v3,g6,v4,g7,v5,g8,v6,g9,v7,g10,vH,vH1,vH2,vH3,vH4,vH5,vH6,vH7,J,J⟩)
 ·refine Az (t:=29) hb1 J<|Ab 4 [1,1] [(33,(.sl 4 (List.map Ac vL))),(32,(.q ids 1 g1)),(31,(.I vN)),(30,(.ptr (ix ids 1) g1 0 1))] ?_
  refine By (tj:=29) (.I (vL.length:Int)) J J J (A2 (Bk Ch))<|Ab 2 [] [(36,(.bool (decide (vN<(vL.length:Int))))),(35,(.bool (decide (vN<(vL.length:Int)))))] ?_
  exact Bf hJ (.cons J (.cons J (.cons J (.cons (Hk hb1) .nil))))
 refine Az (t:=29) hb1 J<|Ab 7 [] [(36,(.bool false)),(35,.und),(34,.und),(33,.und),(32,.und),(31,.und),(30,.und)] ?_
 exact Bf hJ (.cons J (.cons J (.cons J (.cons (Hl hb1) .nil))))
theorem W6 (src:Ay):CP Tryz.prog 3 [(.str src)] (Nq src) (fun(x:Bool)=>(AV.bool x)):=by
 refine Cd (n:=39) 2 Tryz.func3 J (by decide) J J fun h0 ids hI=>Bn (Al (Nq.eq_1 _) ?_)
 refine Y<|O<|Aa (.bool false) J Ai<|Z<|Y<|Y<|O ?_
 refine A7 [] J J J J ((Afc) _) (fun v _=>B0 Tryz.func3 hI) fun r _=>Aa (.bool (!r)) J (Oa J)<|Z<|D2 J (fun hc=>?_) (fun hc=>?_)
 ·refine Ax<|Y<|Y<|O<|Aa (.str src) J Ad<|Aa (.I (src.length:Int)) J (A2 (Fe Cf))<|Aa (.bool (decide ((src.length:Int) > 4000))) J (Bh J J J) ?_
  refine Z<|Na J (fun hc1=>?_) (fun hc1=>?_)
  ·refine Y<|O<|Aa (.bool true) J Ai<|Z<|Bl (a:=true) (vs:=[(.bool true)]) Tryz.func3 hI J (.same _)
  refine Ax<|Y<|O<|Aa (.str src) J Ad<|A7 [(.str src)] J J J J ((Nl src) _) (fun v _=>B0 Tryz.func3 hI) fun r1 _=>Ab 4 [] [(19,(.I r1.2.2)),(18,(.I r1.2.1)),(17,(.agg (A6 r1.1)))] ?_
  refine A8 (j:=0) hI J J J J Dl J fun g=>An (Aq (v:=(.agg (A6 r1.1))) hI J J J J Dl J J J J J)<|Ab 2 [] [(5,(.I r1.2.2)),(4,(.I r1.2.1))] ?_
  refine Z<|Aj ?_
  refine Y<|O<|Aa (.str src) J Ad<|A7 [(.str src)] J J J J ((Aej src) _) (fun v _=>B0 Tryz.func3 hI) fun r2 _=>Ab 4 [] [(25,(.I r2.2.2)),(24,(.I r2.2.1)),(23,(.agg (A6 r2.1)))] ?_
  refine A8 (j:=1) hI J J J J Dl J fun g1=>An (Aq (v:=(.agg (A6 r2.1))) hI J J J J Dl J J J J J)<|Ab 2 [] [(8,(.I r2.2.2)),(7,(.I r2.2.1))] ?_
  refine Z<|Aj ?_
  refine Y<|O<|Ab 2 [0,1] [(27,(.agg (A6 r2.1))),(26,(.agg (A6 r1.1)))] ?_
  refine A7 [(.agg (A6 r1.1)),(.agg (A6 r2.1))] J J J J ((Vr r1.1 r2.1) _) (fun v _=>B0 Tryz.func3 hI) fun r3 _=>Aa (.bool r3) J Ad<|B2 4 [(5,(.I r1.2.2)),(8,(.I r2.2.2)),(33,(.bool (r3&&(r1.2.1==r2.2.1))))] ?_ fun hJ=>Bw r3 (fun hb1=>?_) (fun hb1=>?_)
  ·refine Aa (.bool (r3&&(r1.2.1==r2.2.1))) J Ad<|B2 4 [(38,(.bool ((r3&&(r1.2.1==r2.2.1))&&(r1.2.2==r2.2.2))))] ?_ fun hJ1=>Bw (r3&&(r1.2.1==r2.2.1)) (fun hb3=>?_) (fun hb3=>?_)
   ·refine Aa (.bool ((r3&&(r1.2.1==r2.2.1))&&(r1.2.2==r2.2.2))) J Ai<|Z<|Bl (a:=((r3&&(r1.2.1==r2.2.1))&&(r1.2.2==r2.2.2))) (vs:=[(.bool ((r3&&(r1.2.1==r2.2.1))&&(r1.2.2==r2.2.2)))]) Tryz.func3 hI J (.same _)
   ·refine Az (t:=34) hb3 J<|Ab 4 [] [(38,(.bool (r1.2.2==r2.2.2)))] ?_
    exact Bf hJ1 (.cons (Hk hb3) .nil)
   refine Az (t:=34) hb3 J<|Ab 4 [] [(38,(.bool false))] ?_
   exact Bf hJ1 (.cons (Hl hb3) .nil)
  ·refine Az (t:=29) hb1 J<|Ab 4 [] [(33,(.bool (r1.2.1==r2.2.1)))] ?_
   exact Bf hJ (.cons J (.cons J (.cons (Hk hb1) .nil)))
  refine Az (t:=29) hb1 J<|Ab 4 [] [(33,(.bool false))] ?_
  exact Bf hJ (.cons J (.cons J (.cons (Hl hb1) .nil)))
 refine Y<|O<|Aa (.bool false) J Ai<|Z<|Bl (a:=false) (vs:=[(.bool false)]) Tryz.func3 hI J (.same _)
end Go.Am
namespace Go.Am
open Go Go.Proofs
set_option maxRecDepth 100000
set_option maxHeartbeats 4000000
set_option linter.unusedSimpArgs false
set_option linter.unusedVariables false
end Go.Am
namespace Go.Proofs.YtjidhdlbojmlfaaGreatDoor.laws
open Go Go.Am Go.ChangeShapes Go.WideShapes Go.ChangeAt Go.RowKit
set_option maxRecDepth 100000
set_option linter.unusedVariables false
set_option linter.unusedSimpArgs false
theorem own:ownKnob Tryz.prog.godebug=none:=by kernel_rfl
theorem An2:laidOutB Tryz.prog=true:=by kernel_rfl
def Amw:DataW Unit:=match (Rows.laid_overflight_syntax_definitions:DataW Unit) with
 | .iface _ d=>d
 | d=>d
theorem Ang {W : World} (h0 : laidMetH Tryz.prog [("math/bits.deBruijn32tab", Rows.laid_math_bits_deBruijn32tab), ("math/bits.deBruijn64tab", Rows.laid_math_bits_deBruijn64tab), ("internal/strconv.uint64pow10", Rows.laid_internal_strconv_uint64pow10), ("strconv.ErrRange", Rows.laid_strconv_ErrRange), ("strconv.ErrSyntax", Rows.laid_strconv_ErrSyntax), ("overflight/syntax.definitions", Rows.laid_overflight_syntax_definitions)] W) : GW.n Tryz.prog ≤ W.heap.size ∧ GW.G Tryz.prog W.heap.size W := by
 have h := (laidMetH_iff.1 h0).1
 rw [show (List.filter (fun x => x.2.handleName?.isNone) [("math/bits.deBruijn32tab", Rows.laid_math_bits_deBruijn32tab), ("math/bits.deBruijn64tab", Rows.laid_math_bits_deBruijn64tab), ("internal/strconv.uint64pow10", Rows.laid_internal_strconv_uint64pow10), ("strconv.ErrRange", Rows.laid_strconv_ErrRange), ("strconv.ErrSyntax", Rows.laid_strconv_ErrSyntax), ("overflight/syntax.definitions", Rows.laid_overflight_syntax_definitions)]) = [("math/bits.deBruijn32tab", Rows.laid_math_bits_deBruijn32tab), ("math/bits.deBruijn64tab", Rows.laid_math_bits_deBruijn64tab), ("internal/strconv.uint64pow10", Rows.laid_internal_strconv_uint64pow10), ("strconv.ErrRange", Rows.laid_strconv_ErrRange), ("strconv.ErrSyntax", Rows.laid_strconv_ErrSyntax)] by kernel_rfl] at h
 have hn := Apr (g := 6) (by kernel_rfl) (Lib.laidMet.reads h (n := "math/bits.deBruijn64tab") (d := Rows.laid_math_bits_deBruijn64tab) (by repeat (first | exact List.mem_cons_self .. | apply List.mem_cons_of_mem)))
 exact ⟨hn, ⟨(Aeo (g := 2) (t := 169) (by kernel_rfl) (by kernel_rfl) Tryz.underlying169 (Lib.laidMet.reads h (n := "strconv.ErrRange") (d := Rows.laid_strconv_ErrRange) (by repeat (first | exact List.mem_cons_self .. | apply List.mem_cons_of_mem)))), (Aeo (g := 1) (t := 169) (by kernel_rfl) (by kernel_rfl) Tryz.underlying169 (Lib.laidMet.reads h (n := "strconv.ErrSyntax") (d := Rows.laid_strconv_ErrSyntax) (by repeat (first | exact List.mem_cons_self .. | apply List.mem_cons_of_mem)))), (Ane (g := 4) (t := 210) (by kernel_rfl) (by kernel_rfl) Tryz.underlying210 Tryz.underlying193 (by kernel_rfl) (by kernel_rfl) (Lib.laidMet.reads h (n := "internal/strconv.uint64pow10") (d := Rows.laid_internal_strconv_uint64pow10) (by repeat (first | exact List.mem_cons_self .. | apply List.mem_cons_of_mem))))⟩, Aol (d := Amw) (l := Ph) (laidMetH.funcs h0 (n := "overflight/syntax.definitions") (d := Amw) (by repeat (first | exact List.mem_cons_self .. | apply List.mem_cons_of_mem))) (by kernel_rfl) (by kernel_rfl) (by kernel_rfl) Tryz.underlying142 Tryz.underlying9 Tryz.underlying140 (by kernel_rfl) (by decide +kernel)⟩
theorem rd9:Tryz.prog.readableRec 9=true∧9<Tryz.prog.types.size:=by decide +kernel
theorem Alt {H:Type}:Bulk (H:=H) Rows.uptoBulk Rows.uptoBulkAll:=⟨fun d=>by cases d with | lit l=>cases l <;> simp [Rows.uptoBulk] | _=>simp [Rows.uptoBulk],fun l=>by simp [Rows.uptoBulk],fun e s=>by simp only [Rows.uptoBulk]; omega,fun l=>by simp [Rows.uptoBulk],by simp [Rows.uptoBulkAll],fun d l=>by simp [Rows.uptoBulkAll]⟩
theorem on9:Amx Tryz.prog 9 Afo:=Akh Tryz.underlying9
end Go.Proofs.YtjidhdlbojmlfaaGreatDoor.laws
