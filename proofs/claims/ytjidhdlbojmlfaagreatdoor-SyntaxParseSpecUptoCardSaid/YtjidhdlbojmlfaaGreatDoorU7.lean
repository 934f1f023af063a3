/- Written by shrink.py from texts of ours: comments struck, what is not reached left out, names short. -/
import Derived.Test.YtjidhdlbojmlfaaGreatDoorU6
namespace Go.Am
open Go Go.Proofs
set_option maxRecDepth 100000
set_option maxHeartbeats 4000000
set_option linter.unusedSimpArgs false
set_option linter.unusedVariables false
theorem U7 (text:Ay)(l:List Config)(most:Int)(s0_bad:Bool)(l1:List Token)(h0:Ag)(o0:Nat)(o1:Nat)(o2:Nat)(g:Nat)(v1:AV)(g1:Nat)(g2:Nat)(vH:Av v1 o1 g1 l1.length)(hI0:Ids h0 [o0,o1,o2] 3):Lj text l most s0_bad l1≠.bad→Bq Tryz.prog 38 [(.ptr o0 g 0 0),(.str text),(.sl 3 (List.map Bj l)),(.int .i64 most),(.func (.func 39) [] [(.ptr o2 g2 0 0)])] (hp h0 [o0,o1,o2] [some (.rows g 2 [[v1,(.bool s0_bad)]]),Ah v1 g1 4 (List.map Ac l1),some (.rows g2 1 [[(.ptr o0 g 0 0)]])]) (C5 (fun a_ v h' => ∃ (v7:AV),∃ (g9:Nat),Av v7 o1 g9 a_.2.length∧v=(.tup [])∧h'=hp h0 [o0,o1,o2] [some (.rows g 2 [[v7,(.bool a_.1)]]),Ah v7 g9 4 (List.map Ac a_.2),some (.rows g2 1 [[(.ptr o0 g 0 0)]])]) h0 (Lj text l most s0_bad l1)):=by
 refine Bm (n:=44) 1 Tryz.func38 J (by decide) J J hI0 J fun ids he hI=>?_
 clear hI0
 obtain rfl:ix ids 0=o0:=he 0 rfl
 obtain rfl:ix ids 1=o1:=he 1 rfl
 obtain rfl:ix ids 2=o2:=he 2 rfl
 clear he
 refine Bn (Al (Lj.eq_1 _ _ _ _ _) ?_)
 refine Aj ?_
 refine Y<|O<|Ab 6 [0] [(17,(.bool s0_bad)),(12,(.q ids 0 g))] ?_
 refine B2 5 [(0,(.q ids 0 g)),(1,(.str text)),(2,(.sl 3 (List.map Bj l))),(4,(.func (.func 39) [] [(.q ids 2 g2)])),(12,(.q ids 0 g)),(22,(.bool (s0_bad||(decide ((l.length:Int) > most)))))] ?_ fun hJ=>Bw s0_bad (fun hb1=>?_) (fun hb1=>?_)
 ·refine Ab 2 [] [(24,(.ptr (ix ids 0) g 0 1))] ?_
  refine An (Aq (v:=(.bool (s0_bad||(decide ((l.length:Int) > most))))) hI J J J J Q3 J J J J J)<|Z<|Aj ?_
  refine Y<|O<|Aa (.sl 3 (List.map Bj l)) J Ad<|Aa (.I (l.length:Int)) J (A2 (Bk L1))<|Aa (.I 0) J Ad<|Z<|Ba ?_
  refine D6 [(0,(.q ids 0 g)),(1,(.str text)),(4,(.func (.func 39) [] [(.q ids 2 g2)])),(25,(.sl 3 (List.map Bj l))),(26,(.I (l.length:Int))),(27,(.I 0))] (FI J)<|Ko (P:=Tryz.prog) l (fun _ a=>C4 fun fBad l2=>Jt text a fBad l2) (((C4 fun fBad l2=>.ok (fBad,l2))):(Bool×(List Token))→R (Bool×(List Token))) (fun j=>C4 fun fBad l2=>fun(fr:Nat→AV) (h:Ag) => ∃ (v2:AV),∃ (g3:Nat),Av v2 (ix ids 1) g3 l2.length∧fr=A5 [(0,(.q ids 0 g)),(1,(.str text)),(4,(.func (.func 39) [] [(.q ids 2 g2)])),(25,(.sl 3 (List.map Bj l))),(26,(.I (l.length:Int))),(27,(.I (j:Int)))]∧h=hp h0 ids [(some (.rows g 2 [[v2,(.bool fBad)]])),(Ah v2 g3 4 (List.map Ac l2)),(some (.rows g2 1 [[(.q ids 0 g)]])),none]) ((s0_bad||(decide ((l.length:Int) > most))),l1) ?_ ?_ ?_
  ·exact⟨v1,g1,vH,J,J⟩
  ·rintro j a ha W hW ⟨fBad,l2⟩ fr h ⟨v2,g3,vH1,rfl,rfl⟩
   refine Al (m':=Jt text a fBad l2) J (Al (Jt.eq_1 _ _ _ _) ?_)
   refine Y<|O<|Aa (.bool (decide ((j:Int)<(l.length:Int)))) J (Bh J J J)<|Z<|Y<|Ev (t:=25) (L:=l) J fun hlim=>Dg J (Int.ofNat_lt.2 (Bg ha)) ?_
   refine Ax<|Y<|Ba<|Y<|O<|Aa (.cp (Bj a) 0) J (Bz (Ea L1 Kg J ha))<|Aa (.agg (Bj a)) J (Au (C7 Kg J)) ?_
   refine A8 (j:=3) hI J J J J Kg J fun g4=>An (Aq (v:=(.agg (Bj a))) hI J J J J Kg J J J J J)<|Z<|Aj ?_
   refine Y<|Y<|O<|Ab 2 [] [(32,(.bool (!(text==[]))))] ?_
   refine Z<|Dx (C4 fun fBad1 l3=>Ju a fBad1 l3) (C4 fun fBad1 l3=>fun(fr:Nat→AV) (h:Ag) => ∃ (v4:AV),∃ (g6:Nat),Av v4 (ix ids 1) g6 l3.length∧fr=A5 [(0,(.q ids 0 g)),(1,(.str text)),(4,(.func (.func 39) [] [(.q ids 2 g2)])),(11,(.q ids 3 g4)),(25,(.sl 3 (List.map Bj l))),(26,(.I (l.length:Int))),(27,(.I (j:Int)))]∧h=hp h0 ids [(some (.rows g 2 [[v4,(.bool fBad1)]])),(Ah v4 g6 4 (List.map Ac l3)),(some (.rows g2 1 [[(.q ids 0 g)]])),(some (.rows g4 3 [(Bj a)]))]) ?_ fun hJ1=>?_
   ·rintro⟨fBad1,l3⟩ fr h ⟨v4,g6,vH3,rfl,rfl⟩
    refine Al (Ju.eq_1 _ _ _)<|Y<|O<|Ab 2 [3] [(38,(.agg (Bj a))),(37,(.func (.func 39) [] [(.q ids 2 g2)]))] ?_
    refine Ap [2,0,1] hI J J (Zm a fBad1 l3 _ (ix ids 2) (ix ids 0) (ix ids 1) g2 g v4 g6 vH3 (by exact hI.sub' J J)) J J J J J J (fun v _=>Ao (K:=3) (N:=1) Tryz.func38 hI) ?_
    rintro r1 _ _ _ ⟨v5,g7,vH4,rfl,rfl⟩
    refine A0 [2,0,1] hI J J J ?_
    refine Ar<|Z<|Aj ?_
    refine O<|Aa (.q ids 0 g) J Ad<|C3 (e:=rS) (L:=[[59]]) (st:=1) (rows:=[[(.str [59])]]) J D0 Cf J J J J J (.cons (RowSim.refl _) .nil) (fun x=>Gp x) J J<|Ap [0,1] hI J J (Dr [[59]] r1.1 r1.2 _ (ix ids 0) (ix ids 1) g v5 g7 vH4 (by exact hI.sub' J J)) J J J J J J (fun v _=>Ao (K:=3) (N:=1) Tryz.func38 hI) ?_
    rintro r2 _ _ _ ⟨v6,g8,vH5,rfl,rfl⟩
    refine A0 [0,1] hI J J J ?_
    refine Ar<|Z<|Aj ?_
    refine Bi<|O<|Ab 2 [] [(27,(.I (IntKind.wrap .i64 ((j:Int)+1))))] ?_
    refine Z<|Eb [(some (.rows g 2 [[v6,(.bool r2.1)]])),(Ah v6 g8 4 (List.map Ac r2.2)),(some (.rows g2 1 [[(.q ids 0 g)]])),none] hI J (.keep (.keep (.keep (.drop .nil))))<|Bo (Um (hW (r2.1,r2.2) _ _ ⟨v6,g8,vH5,J,J⟩)) (.cons J (.cons J (.cons J (.cons J (.cons J (.cons (Eg (Bg ha) hlim) .nil))))))
   refine D2 J (fun hc=>?_) (fun hc=>?_)
   ·refine Ax<|Bo (hJ1 (fBad,l2) _ _ ⟨v2,g3,vH1,J,J⟩)
   refine O<|Ab 2 [] [(34,(.str text)),(33,(.q ids 0 g))] ?_
   refine C3 (e:=rS) (L:=[text]) (st:=1) (rows:=[[(.str text)]]) J D0 Cf J J J J J (.cons (RowSim.refl _) .nil) (fun x=>Gp x) J J<|Ap [0,1] hI J J (B6 [text] fBad l2 _ (ix ids 0) (ix ids 1) g v2 g3 vH1 (by exact hI.sub' J J)) J J J J J J (fun v _=>Ao (K:=3) (N:=1) Tryz.func38 hI) ?_
   rintro r _ _ _ ⟨v3,g5,vH2,rfl,rfl⟩
   refine A0 [0,1] hI J J J ?_
   refine Ar<|Z<|Aj ?_
   exact Bo (hJ1 (r.1,r.2) _ _ ⟨v3,g5,vH2,J,J⟩)
  rintro⟨fBad,l2⟩ fr h ⟨v2,g3,vH1,rfl,rfl⟩
  refine Al (Py _ _ _)<|Y<|O<|Aa (.bool (decide ((l.length:Int)<(l.length:Int)))) J (Bh J J J)<|Z<|Y<|Df J (Int.lt_irrefl _) ?_
  refine Cy J<|Ci (K:=3) (N:=1) (a:=(fBad,l2)) (vs:=[]) [some (.rows g 2 [[v2,(.bool fBad)]]),Ah v2 g3 4 (List.map Ac l2),some (.rows g2 1 [[(.q ids 0 g)]])] Tryz.func38 hI J J J (.keep (.keep (.keep (.keep .nil)))) (.same _) ⟨v2,g3,vH1,J,J⟩
 ·refine Az (t:=17) hb1 J<|Ab 5 [] [(22,(.bool true))] ?_
  exact Bf hJ (.cons J (.cons J (.cons J (.cons J (.cons J (.cons (E6 hb1) .nil))))))
 refine Az (t:=17) hb1 J<|By (tj:=17) (.sl 3 (List.map Bj l)) J J J Ad<|By (tj:=17) (.I (l.length:Int)) J J J (A2 (Bk L1))<|Ab 3 [] [(22,(.bool (decide ((l.length:Int) > most))))] ?_
 exact Bf hJ (.cons J (.cons J (.cons J (.cons J (.cons J (.cons (E5 hb1) .nil))))))
theorem Zt (a:Segment)(s1_bad:Bool)(l:List Token)(h0:Ag)(o0:Nat)(o1:Nat)(o2:Nat)(g:Nat)(g1:Nat)(v1:AV)(g2:Nat)(vH:Av v1 o2 g2 l.length)(hI0:Ids h0 [o0,o1,o2] 3):Pj a s1_bad l≠.bad→Bq Tryz.prog 41 [(.agg (Be a)),(.ptr o0 g 0 0)] (hp h0 [o0,o1,o2] [some (.rows g 1 [[(.ptr o1 g1 0 0)]]),some (.rows g1 2 [[v1,(.bool s1_bad)]]),Ah v1 g2 4 (List.map Ac l)]) (C5 (fun a_ v h' => ∃ (v8:AV),∃ (g10:Nat),Av v8 o2 g10 a_.2.length∧v=(.tup [])∧h'=hp h0 [o0,o1,o2] [some (.rows g 1 [[(.ptr o1 g1 0 0)]]),some (.rows g1 2 [[v8,(.bool a_.1)]]),Ah v8 g10 4 (List.map Ac a_.2)]) h0 (Pj a s1_bad l)):=by
 refine Bm (n:=25) 1 Tryz.func41 J (by decide) J J hI0 J fun ids he hI=>?_
 clear hI0
 obtain rfl:ix ids 0=o0:=he 0 rfl
 obtain rfl:ix ids 1=o1:=he 1 rfl
 obtain rfl:ix ids 2=o2:=he 2 rfl
 clear he
 refine Bn (Al (Pj.eq_1 _ _ _) ?_)
 refine Aj ?_
 refine Y<|O<|Cl (v:=(.agg (Be a))) (j:=3) hI J J J J J J J fun g3=>Z<|Aj ?_
 refine Y<|O<|Ab 3 [0,3] [(5,(.str a.Name)),(3,(.q ids 1 g1))] ?_
 refine Ap [1,2] hI J J (Dm a.Name s1_bad l _ (ix ids 1) (ix ids 2) g1 v1 g2 vH (by exact hI.sub' J J)) J J J J J J (fun v _=>Ao (K:=3) (N:=1) Tryz.func41 hI) ?_
 rintro r _ _ _ ⟨v2,g4,vH1,rfl,rfl⟩
 refine A0 [1,2] hI J J J ?_
 refine Ar<|Z<|Aj ?_
 refine Y<|O<|Ab 1 [0] [(7,(.q ids 1 g1))] ?_
 refine C3 (e:=rS) (L:=[[105,110]]) (st:=1) (rows:=[[(.str [105,110])]]) J D0 Cf J J J J J (.cons (RowSim.refl _) .nil) (fun x=>Gp x) J J<|Ap [1,2] hI J J (B6 [[105,110]] r.1 r.2 _ (ix ids 1) (ix ids 2) g1 v2 g4 vH1 (by exact hI.sub' J J)) J J J J J J (fun v _=>Ao (K:=3) (N:=1) Tryz.func41 hI) ?_
 rintro r1 _ _ _ ⟨v3,g5,vH2,rfl,rfl⟩
 refine A0 [1,2] hI J J J ?_
 refine Ar<|Z<|Aj ?_
 refine Y<|O<|Ab 3 [0,3] [(12,(.str a.In)),(10,(.q ids 1 g1))] ?_
 refine Ap [1,2] hI J J (Dm a.In r1.1 r1.2 _ (ix ids 1) (ix ids 2) g1 v3 g5 vH2 (by exact hI.sub' J J)) J J J J J J (fun v _=>Ao (K:=3) (N:=1) Tryz.func41 hI) ?_
 rintro r2 _ _ _ ⟨v4,g6,vH3,rfl,rfl⟩
 refine A0 [1,2] hI J J J ?_
 refine Ar<|Z<|Aj ?_
 refine Y<|O<|Ab 1 [0] [(14,(.q ids 1 g1))] ?_
 refine C3 (e:=rS) (L:=[[108,101,110,103,116,104]]) (st:=1) (rows:=[[(.str [108,101,110,103,116,104])]]) J D0 Cf J J J J J (.cons (RowSim.refl _) .nil) (fun x=>Gp x) J J<|Ap [1,2] hI J J (B6 [[108,101,110,103,116,104]] r2.1 r2.2 _ (ix ids 1) (ix ids 2) g1 v4 g6 vH3 (by exact hI.sub' J J)) J J J J J J (fun v _=>Ao (K:=3) (N:=1) Tryz.func41 hI) ?_
 rintro r3 _ _ _ ⟨v5,g7,vH4,rfl,rfl⟩
 refine A0 [1,2] hI J J J ?_
 refine Ar<|Z<|Aj ?_
 refine Y<|O<|Ab 3 [0,3] [(19,(.I a.Length)),(17,(.q ids 1 g1))] ?_
 refine Ap [1,2] hI J J (D5 a.Length 1 4096 r3.1 r3.2 _ (ix ids 1) (ix ids 2) g1 v5 g7 vH4 (by exact hI.sub' J J)) J J J J J J (fun v _=>Ao (K:=3) (N:=1) Tryz.func41 hI) ?_
 rintro r4 _ _ _ ⟨v6,g8,vH5,rfl,rfl⟩
 refine A0 [1,2] hI J J J ?_
 refine Ar<|Z<|Aj ?_
 refine O<|Ab 3 [0,3] [(23,(.sl 2 (List.map B7 a.Open))),(21,(.q ids 1 g1))] ?_
 refine Ap [1,2] hI J J (Rh [111,112,101,110] a.Open (r3.1||(!((decide (a.Length≥1))&&(decide (a.Length≤4096))))) r4 _ (ix ids 1) (ix ids 2) g1 v6 g8 vH5 (by exact hI.sub' J J)) J J J J J J (fun v _=>Ao (K:=3) (N:=1) Tryz.func41 hI) ?_
 rintro r5 _ _ _ ⟨v7,g9,vH6,rfl,rfl⟩
 refine A0 [1,2] hI J J J ?_
 refine Ar<|Z<|Aj ?_
 exact Ci (K:=3) (N:=1) (a:=(r5.1,r5.2)) (vs:=[]) [some (.rows g 1 [[(.q ids 1 g1)]]),some (.rows g1 2 [[v7,(.bool r5.1)]]),Ah v7 g9 4 (List.map Ac r5.2)] Tryz.func41 hI J J J (.keep (.keep (.keep (.drop .nil)))) (.same _) ⟨v7,g9,vH6,J,J⟩
theorem Uh (text:Ay)(l:List Segment)(most:Int)(s0_bad:Bool)(l1:List Token)(h0:Ag)(o0:Nat)(o1:Nat)(o2:Nat)(g:Nat)(v1:AV)(g1:Nat)(g2:Nat)(vH:Av v1 o1 g1 l1.length)(hI0:Ids h0 [o0,o1,o2] 3):Kv text l most s0_bad l1≠.bad→Bq Tryz.prog 40 [(.ptr o0 g 0 0),(.str text),(.sl 5 (List.map Be l)),(.int .i64 most),(.func (.func 41) [] [(.ptr o2 g2 0 0)])] (hp h0 [o0,o1,o2] [some (.rows g 2 [[v1,(.bool s0_bad)]]),Ah v1 g1 4 (List.map Ac l1),some (.rows g2 1 [[(.ptr o0 g 0 0)]])]) (C5 (fun a_ v h' => ∃ (v7:AV),∃ (g9:Nat),Av v7 o1 g9 a_.2.length∧v=(.tup [])∧h'=hp h0 [o0,o1,o2] [some (.rows g 2 [[v7,(.bool a_.1)]]),Ah v7 g9 4 (List.map Ac a_.2),some (.rows g2 1 [[(.ptr o0 g 0 0)]])]) h0 (Kv text l most s0_bad l1)):=by
 refine Bm (n:=44) 1 Tryz.func40 J (by decide) J J hI0 J fun ids he hI=>?_
 clear hI0
 obtain rfl:ix ids 0=o0:=he 0 rfl
 obtain rfl:ix ids 1=o1:=he 1 rfl
 obtain rfl:ix ids 2=o2:=he 2 rfl
 clear he
 refine Bn (Al (Kv.eq_1 _ _ _ _ _) ?_)
 refine Aj ?_
 refine Y<|O<|Ab 6 [0] [(17,(.bool s0_bad)),(12,(.q ids 0 g))] ?_
 refine B2 5 [(0,(.q ids 0 g)),(1,(.str text)),(2,(.sl 5 (List.map Be l))),(4,(.func (.func 41) [] [(.q ids 2 g2)])),(12,(.q ids 0 g)),(22,(.bool (s0_bad||(decide ((l.length:Int) > most)))))] ?_ fun hJ=>Bw s0_bad (fun hb1=>?_) (fun hb1=>?_)
 ·refine Ab 2 [] [(24,(.ptr (ix ids 0) g 0 1))] ?_
  refine An (Aq (v:=(.bool (s0_bad||(decide ((l.length:Int) > most))))) hI J J J J Q3 J J J J J)<|Z<|Aj ?_
  refine Y<|O<|Aa (.sl 5 (List.map Be l)) J Ad<|Aa (.I (l.length:Int)) J (A2 (Bk L0))<|Aa (.I 0) J Ad<|Z<|Ba ?_
  refine D6 [(0,(.q ids 0 g)),(1,(.str text)),(4,(.func (.func 41) [] [(.q ids 2 g2)])),(25,(.sl 5 (List.map Be l))),(26,(.I (l.length:Int))),(27,(.I 0))] (FI J)<|Ko (P:=Tryz.prog) l (fun _ a=>C4 fun fBad l2=>Iz text a fBad l2) (((C4 fun fBad l2=>.ok (fBad,l2))):(Bool×(List Token))→R (Bool×(List Token))) (fun j=>C4 fun fBad l2=>fun(fr:Nat→AV) (h:Ag) => ∃ (v2:AV),∃ (g3:Nat),Av v2 (ix ids 1) g3 l2.length∧fr=A5 [(0,(.q ids 0 g)),(1,(.str text)),(4,(.func (.func 41) [] [(.q ids 2 g2)])),(25,(.sl 5 (List.map Be l))),(26,(.I (l.length:Int))),(27,(.I (j:Int)))]∧h=hp h0 ids [(some (.rows g 2 [[v2,(.bool fBad)]])),(Ah v2 g3 4 (List.map Ac l2)),(some (.rows g2 1 [[(.q ids 0 g)]])),none]) ((s0_bad||(decide ((l.length:Int) > most))),l1) ?_ ?_ ?_
  ·exact⟨v1,g1,vH,J,J⟩
  ·rintro j a ha W hW ⟨fBad,l2⟩ fr h ⟨v2,g3,vH1,rfl,rfl⟩
   refine Al (m':=Iz text a fBad l2) J (Al (Iz.eq_1 _ _ _ _) ?_)
   refine Y<|O<|Aa (.bool (decide ((j:Int)<(l.length:Int)))) J (Bh J J J)<|Z<|Y<|Ev (t:=25) (L:=l) J fun hlim=>Dg J (Int.ofNat_lt.2 (Bg ha)) ?_
   refine Ax<|Y<|Ba<|Y<|O<|Aa (.cp (Be a) 0) J (Bz (Ea L0 H0 J ha))<|Aa (.agg (Be a)) J (Au (C7 H0 J)) ?_
   refine A8 (j:=3) hI J J J J H0 J fun g4=>An (Aq (v:=(.agg (Be a))) hI J J J J H0 J J J J J)<|Z<|Aj ?_
   refine Y<|Y<|O<|Ab 2 [] [(32,(.bool (!(text==[]))))] ?_
   refine Z<|Dx (C4 fun fBad1 l3=>Ix a fBad1 l3) (C4 fun fBad1 l3=>fun(fr:Nat→AV) (h:Ag) => ∃ (v4:AV),∃ (g6:Nat),Av v4 (ix ids 1) g6 l3.length∧fr=A5 [(0,(.q ids 0 g)),(1,(.str text)),(4,(.func (.func 41) [] [(.q ids 2 g2)])),(11,(.q ids 3 g4)),(25,(.sl 5 (List.map Be l))),(26,(.I (l.length:Int))),(27,(.I (j:Int)))]∧h=hp h0 ids [(some (.rows g 2 [[v4,(.bool fBad1)]])),(Ah v4 g6 4 (List.map Ac l3)),(some (.rows g2 1 [[(.q ids 0 g)]])),(some (.rows g4 5 [(Be a)]))]) ?_ fun hJ1=>?_
   ·rintro⟨fBad1,l3⟩ fr h ⟨v4,g6,vH3,rfl,rfl⟩
    refine Al (Ix.eq_1 _ _ _)<|Y<|O<|Ab 2 [3] [(38,(.agg (Be a))),(37,(.func (.func 41) [] [(.q ids 2 g2)]))] ?_
    refine Ap [2,0,1] hI J J (Zt a fBad1 l3 _ (ix ids 2) (ix ids 0) (ix ids 1) g2 g v4 g6 vH3 (by exact hI.sub' J J)) J J J J J J (fun v _=>Ao (K:=3) (N:=1) Tryz.func40 hI) ?_
    rintro r1 _ _ _ ⟨v5,g7,vH4,rfl,rfl⟩
    refine A0 [2,0,1] hI J J J ?_
    refine Ar<|Z<|Aj ?_
    refine O<|Aa (.q ids 0 g) J Ad<|C3 (e:=rS) (L:=[[59]]) (st:=1) (rows:=[[(.str [59])]]) J D0 Cf J J J J J (.cons (RowSim.refl _) .nil) (fun x=>Gp x) J J<|Ap [0,1] hI J J (Dr [[59]] r1.1 r1.2 _ (ix ids 0) (ix ids 1) g v5 g7 vH4 (by exact hI.sub' J J)) J J J J J J (fun v _=>Ao (K:=3) (N:=1) Tryz.func40 hI) ?_
    rintro r2 _ _ _ ⟨v6,g8,vH5,rfl,rfl⟩
    refine A0 [0,1] hI J J J ?_
    refine Ar<|Z<|Aj ?_
    refine Bi<|O<|Ab 2 [] [(27,(.I (IntKind.wrap .i64 ((j:Int)+1))))] ?_
    refine Z<|Eb [(some (.rows g 2 [[v6,(.bool r2.1)]])),(Ah v6 g8 4 (List.map Ac r2.2)),(some (.rows g2 1 [[(.q ids 0 g)]])),none] hI J (.keep (.keep (.keep (.drop .nil))))<|Bo (Um (hW (r2.1,r2.2) _ _ ⟨v6,g8,vH5,J,J⟩)) (.cons J (.cons J (.cons J (.cons J (.cons J (.cons (Eg (Bg ha) hlim) .nil))))))
   refine D2 J (fun hc=>?_) (fun hc=>?_)
   ·refine Ax<|Bo (hJ1 (fBad,l2) _ _ ⟨v2,g3,vH1,J,J⟩)
   refine O<|Ab 2 [] [(34,(.str text)),(33,(.q ids 0 g))] ?_
   refine C3 (e:=rS) (L:=[text]) (st:=1) (rows:=[[(.str text)]]) J D0 Cf J J J J J (.cons (RowSim.refl _) .nil) (fun x=>Gp x) J J<|Ap [0,1] hI J J (B6 [text] fBad l2 _ (ix ids 0) (ix ids 1) g v2 g3 vH1 (by exact hI.sub' J J)) J J J J J J (fun v _=>Ao (K:=3) (N:=1) Tryz.func40 hI) ?_
   rintro r _ _ _ ⟨v3,g5,vH2,rfl,rfl⟩
   refine A0 [0,1] hI J J J ?_
   refine Ar<|Z<|Aj ?_
   exact Bo (hJ1 (r.1,r.2) _ _ ⟨v3,g5,vH2,J,J⟩)
  rintro⟨fBad,l2⟩ fr h ⟨v2,g3,vH1,rfl,rfl⟩
  refine Al (Py _ _ _)<|Y<|O<|Aa (.bool (decide ((l.length:Int)<(l.length:Int)))) J (Bh J J J)<|Z<|Y<|Df J (Int.lt_irrefl _) ?_
  refine Cy J<|Ci (K:=3) (N:=1) (a:=(fBad,l2)) (vs:=[]) [some (.rows g 2 [[v2,(.bool fBad)]]),Ah v2 g3 4 (List.map Ac l2),some (.rows g2 1 [[(.q ids 0 g)]])] Tryz.func40 hI J J J (.keep (.keep (.keep (.keep .nil)))) (.same _) ⟨v2,g3,vH1,J,J⟩
 ·refine Az (t:=17) hb1 J<|Ab 5 [] [(22,(.bool true))] ?_
  exact Bf hJ (.cons J (.cons J (.cons J (.cons J (.cons J (.cons (E6 hb1) .nil))))))
 refine Az (t:=17) hb1 J<|By (tj:=17) (.sl 5 (List.map Be l)) J J J Ad<|By (tj:=17) (.I (l.length:Int)) J J J (A2 (Bk L0))<|Ab 3 [] [(22,(.bool (decide ((l.length:Int) > most))))] ?_
 exact Bf hJ (.cons J (.cons J (.cons J (.cons J (.cons J (.cons (E5 hb1) .nil))))))
theorem Z4 (a:Route)(s1_bad:Bool)(l:List Token)(h0:Ag)(o0:Nat)(o1:Nat)(o2:Nat)(g:Nat)(g1:Nat)(v1:AV)(g2:Nat)(vH:Av v1 o2 g2 l.length)(hI0:Ids h0 [o0,o1,o2] 3):Pn a s1_bad l≠.bad→Bq Tryz.prog 43 [(.agg (Bu a)),(.ptr o0 g 0 0)] (hp h0 [o0,o1,o2] [some (.rows g 1 [[(.ptr o1 g1 0 0)]]),some (.rows g1 2 [[v1,(.bool s1_bad)]]),Ah v1 g2 4 (List.map Ac l)]) (C5 (fun a_ v h' => ∃ (v9:AV),∃ (g11:Nat),Av v9 o2 g11 a_.2.length∧v=(.tup [])∧h'=hp h0 [o0,o1,o2] [some (.rows g 1 [[(.ptr o1 g1 0 0)]]),some (.rows g1 2 [[v9,(.bool a_.1)]]),Ah v9 g11 4 (List.map Ac a_.2)]) h0 (Pn a s1_bad l)):=by
 refine Bm (n:=30) 1 Tryz.func43 J (by decide) J J hI0 J fun ids he hI=>?_
 clear hI0
 obtain rfl:ix ids 0=o0:=he 0 rfl
 obtain rfl:ix ids 1=o1:=he 1 rfl
 obtain rfl:ix ids 2=o2:=he 2 rfl
 clear he
 refine Bn (Al (Pn.eq_1 _ _ _) ?_)
 refine Aj ?_
 refine Y<|O<|Cl (v:=(.agg (Bu a))) (j:=3) hI J J J J J J J fun g3=>Z<|Aj ?_
 refine Y<|O<|Ab 3 [0,3] [(5,(.str a.Name)),(3,(.q ids 1 g1))] ?_
 refine Ap [1,2] hI J J (Dm a.Name s1_bad l _ (ix ids 1) (ix ids 2) g1 v1 g2 vH (by exact hI.sub' J J)) J J J J J J (fun v _=>Ao (K:=3) (N:=1) Tryz.func43 hI) ?_
 rintro r _ _ _ ⟨v2,g4,vH1,rfl,rfl⟩
 refine A0 [1,2] hI J J J ?_
 refine Ar<|Z<|Aj ?_
 refine Y<|O<|Ab 1 [0] [(7,(.q ids 1 g1))] ?_
 refine C3 (e:=rS) (L:=[[102,114,111,109]]) (st:=1) (rows:=[[(.str [102,114,111,109])]]) J D0 Cf J J J J J (.cons (RowSim.refl _) .nil) (fun x=>Gp x) J J<|Ap [1,2] hI J J (B6 [[102,114,111,109]] r.1 r.2 _ (ix ids 1) (ix ids 2) g1 v2 g4 vH1 (by exact hI.sub' J J)) J J J J J J (fun v _=>Ao (K:=3) (N:=1) Tryz.func43 hI) ?_
 rintro r1 _ _ _ ⟨v3,g5,vH2,rfl,rfl⟩
 refine A0 [1,2] hI J J J ?_
 refine Ar<|Z<|Aj ?_
 refine Y<|O<|Ab 3 [0,3] [(12,(.str a.A)),(10,(.q ids 1 g1))] ?_
 refine Ap [1,2] hI J J (Dm a.A r1.1 r1.2 _ (ix ids 1) (ix ids 2) g1 v3 g5 vH2 (by exact hI.sub' J J)) J J J J J J (fun v _=>Ao (K:=3) (N:=1) Tryz.func43 hI) ?_
 rintro r2 _ _ _ ⟨v4,g6,vH3,rfl,rfl⟩
 refine A0 [1,2] hI J J J ?_
 refine Ar<|Z<|Aj ?_
 refine Y<|O<|Ab 1 [0] [(14,(.q ids 1 g1))] ?_
 refine C3 (e:=rS) (L:=[[116,111]]) (st:=1) (rows:=[[(.str [116,111])]]) J D0 Cf J J J J J (.cons (RowSim.refl _) .nil) (fun x=>Gp x) J J<|Ap [1,2] hI J J (B6 [[116,111]] r2.1 r2.2 _ (ix ids 1) (ix ids 2) g1 v4 g6 vH3 (by exact hI.sub' J J)) J J J J J J (fun v _=>Ao (K:=3) (N:=1) Tryz.func43 hI) ?_
 rintro r3 _ _ _ ⟨v5,g7,vH4,rfl,rfl⟩
 refine A0 [1,2] hI J J J ?_
 refine Ar<|Z<|Aj ?_
 refine Y<|O<|Ab 3 [0,3] [(19,(.str a.B)),(17,(.q ids 1 g1))] ?_
 refine Ap [1,2] hI J J (Dm a.B r3.1 r3.2 _ (ix ids 1) (ix ids 2) g1 v5 g7 vH4 (by exact hI.sub' J J)) J J J J J J (fun v _=>Ao (K:=3) (N:=1) Tryz.func43 hI) ?_
 rintro r4 _ _ _ ⟨v6,g8,vH5,rfl,rfl⟩
 refine A0 [1,2] hI J J J ?_
 refine Ar<|Z<|Aj ?_
 refine Y<|O<|Ab 1 [0] [(21,(.q ids 1 g1))] ?_
 refine C3 (e:=rS) (L:=[[118,105,97]]) (st:=1) (rows:=[[(.str [118,105,97])]]) J D0 Cf J J J J J (.cons (RowSim.refl _) .nil) (fun x=>Gp x) J J<|Ap [1,2] hI J J (B6 [[118,105,97]] r4.1 r4.2 _ (ix ids 1) (ix ids 2) g1 v6 g8 vH5 (by exact hI.sub' J J)) J J J J J J (fun v _=>Ao (K:=3) (N:=1) Tryz.func43 hI) ?_
 rintro r5 _ _ _ ⟨v7,g9,vH6,rfl,rfl⟩
 refine A0 [1,2] hI J J J ?_
 refine Ar<|Z<|Aj ?_
 refine O<|Ab 5 [0,3,0] [(28,(.func (.func 30) [(.q ids 1 g1)] [])),(26,(.sl 1 (List.map rS a.Names))),(24,(.q ids 1 g1))] ?_
 refine Ap [1,2] hI J J (M5 a.Names 8 r5.1 r5.2 _ (ix ids 1) (ix ids 2) g1 v7 g9 vH6 (by exact hI.sub' J J)) J J J J J J (fun v _=>Ao (K:=3) (N:=1) Tryz.func43 hI) ?_
 rintro r6 _ _ _ ⟨v8,g10,vH7,rfl,rfl⟩
 refine A0 [1,2] hI J J J ?_
 refine Ar<|Z<|Aj ?_
 exact Ci (K:=3) (N:=1) (a:=(r6.1,r6.2)) (vs:=[]) [some (.rows g 1 [[(.q ids 1 g1)]]),some (.rows g1 2 [[v8,(.bool r6.1)]]),Ah v8 g10 4 (List.map Ac r6.2)] Tryz.func43 hI J J J (.keep (.keep (.keep (.drop .nil)))) (.same _) ⟨v8,g10,vH7,J,J⟩
theorem Vt (text:Ay)(l:List Route)(most:Int)(s0_bad:Bool)(l1:List Token)(h0:Ag)(o0:Nat)(o1:Nat)(o2:Nat)(g:Nat)(v1:AV)(g1:Nat)(g2:Nat)(vH:Av v1 o1 g1 l1.length)(hI0:Ids h0 [o0,o1,o2] 3):Ma text l most s0_bad l1≠.bad→Bq Tryz.prog 42 [(.ptr o0 g 0 0),(.str text),(.sl 7 (List.map Bu l)),(.int .i64 most),(.func (.func 43) [] [(.ptr o2 g2 0 0)])] (hp h0 [o0,o1,o2] [some (.rows g 2 [[v1,(.bool s0_bad)]]),Ah v1 g1 4 (List.map Ac l1),some (.rows g2 1 [[(.ptr o0 g 0 0)]])]) (C5 (fun a_ v h' => ∃ (v7:AV),∃ (g9:Nat),Av v7 o1 g9 a_.2.length∧v=(.tup [])∧h'=hp h0 [o0,o1,o2] [some (.rows g 2 [[v7,(.bool a_.1)]]),Ah v7 g9 4 (List.map Ac a_.2),some (.rows g2 1 [[(.ptr o0 g 0 0)]])]) h0 (Ma text l most s0_bad l1)):=by
 refine Bm (n:=44) 1 Tryz.func42 J (by decide) J J hI0 J fun ids he hI=>?_
 clear hI0
 obtain rfl:ix ids 0=o0:=he 0 rfl
 obtain rfl:ix ids 1=o1:=he 1 rfl
 obtain rfl:ix ids 2=o2:=he 2 rfl
 clear he
 refine Bn (Al (Ma.eq_1 _ _ _ _ _) ?_)
 refine Aj ?_
 refine Y<|O<|Ab 6 [0] [(17,(.bool s0_bad)),(12,(.q ids 0 g))] ?_
 refine B2 5 [(0,(.q ids 0 g)),(1,(.str text)),(2,(.sl 7 (List.map Bu l))),(4,(.func (.func 43) [] [(.q ids 2 g2)])),(12,(.q ids 0 g)),(22,(.bool (s0_bad||(decide ((l.length:Int) > most)))))] ?_ fun hJ=>Bw s0_bad (fun hb1=>?_) (fun hb1=>?_)
 ·refine Ab 2 [] [(24,(.ptr (ix ids 0) g 0 1))] ?_
  refine An (Aq (v:=(.bool (s0_bad||(decide ((l.length:Int) > most))))) hI J J J J Q3 J J J J J)<|Z<|Aj ?_
  refine Y<|O<|Aa (.sl 7 (List.map Bu l)) J Ad<|Aa (.I (l.length:Int)) J (A2 (Bk Ly))<|Aa (.I 0) J Ad<|Z<|Ba ?_
  refine D6 [(0,(.q ids 0 g)),(1,(.str text)),(4,(.func (.func 43) [] [(.q ids 2 g2)])),(25,(.sl 7 (List.map Bu l))),(26,(.I (l.length:Int))),(27,(.I 0))] (FI J)<|Ko (P:=Tryz.prog) l (fun _ a=>C4 fun fBad l2=>Kf text a fBad l2) (((C4 fun fBad l2=>.ok (fBad,l2))):(Bool×(List Token))→R (Bool×(List Token))) (fun j=>C4 fun fBad l2=>fun(fr:Nat→AV) (h:Ag) => ∃ (v2:AV),∃ (g3:Nat),Av v2 (ix ids 1) g3 l2.length∧fr=A5 [(0,(.q ids 0 g)),(1,(.str text)),(4,(.func (.func 43) [] [(.q ids 2 g2)])),(25,(.sl 7 (List.map Bu l))),(26,(.I (l.length:Int))),(27,(.I (j:Int)))]∧h=hp h0 ids [(some (.rows g 2 [[v2,(.bool fBad)]])),(Ah v2 g3 4 (List.map Ac l2)),(some (.rows g2 1 [[(.q ids 0 g)]])),none]) ((s0_bad||(decide ((l.length:Int) > most))),l1) ?_ ?_ ?_
  ·exact⟨v1,g1,vH,J,J⟩
  ·rintro j a ha W hW ⟨fBad,l2⟩ fr h ⟨v2,g3,vH1,rfl,rfl⟩
   refine Al (m':=Kf text a fBad l2) J (Al (Kf.eq_1 _ _ _ _) ?_)
   refine Y<|O<|Aa (.bool (decide ((j:Int)<(l.length:Int)))) J (Bh J J J)<|Z<|Y<|Ev (t:=25) (L:=l) J fun hlim=>Dg J (Int.ofNat_lt.2 (Bg ha)) ?_
   refine Ax<|Y<|Ba<|Y<|O<|Aa (.cp (Bu a) 0) J (Bz (Ea Ly Hx J ha))<|Aa (.agg (Bu a)) J (Au (C7 Hx J)) ?_
   refine A8 (j:=3) hI J J J J Hx J fun g4=>An (Aq (v:=(.agg (Bu a))) hI J J J J Hx J J J J J)<|Z<|Aj ?_
   refine Y<|Y<|O<|Ab 2 [] [(32,(.bool (!(text==[]))))] ?_
   refine Z<|Dx (C4 fun fBad1 l3=>Kd a fBad1 l3) (C4 fun fBad1 l3=>fun(fr:Nat→AV) (h:Ag) => ∃ (v4:AV),∃ (g6:Nat),Av v4 (ix ids 1) g6 l3.length∧fr=A5 [(0,(.q ids 0 g)),(1,(.str text)),(4,(.func (.func 43) [] [(.q ids 2 g2)])),(11,(.q ids 3 g4)),(25,(.sl 7 (List.map Bu l))),(26,(.I (l.length:Int))),(27,(.I (j:Int)))]∧h=hp h0 ids [(some (.rows g 2 [[v4,(.bool fBad1)]])),(Ah v4 g6 4 (List.map Ac l3)),(some (.rows g2 1 [[(.q ids 0 g)]])),(some (.rows g4 7 [(Bu a)]))]) ?_ fun hJ1=>?_
   ·rintro⟨fBad1,l3⟩ fr h ⟨v4,g6,vH3,rfl,rfl⟩
    refine Al (Kd.eq_1 _ _ _)<|Y<|O<|Ab 2 [3] [(38,(.agg (Bu a))),(37,(.func (.func 43) [] [(.q ids 2 g2)]))] ?_
    refine Ap [2,0,1] hI J J (Z4 a fBad1 l3 _ (ix ids 2) (ix ids 0) (ix ids 1) g2 g v4 g6 vH3 (by exact hI.sub' J J)) J J J J J J (fun v _=>Ao (K:=3) (N:=1) Tryz.func42 hI) ?_
    rintro r1 _ _ _ ⟨v5,g7,vH4,rfl,rfl⟩
    refine A0 [2,0,1] hI J J J ?_
    refine Ar<|Z<|Aj ?_
    refine O<|Aa (.q ids 0 g) J Ad<|C3 (e:=rS) (L:=[[59]]) (st:=1) (rows:=[[(.str [59])]]) J D0 Cf J J J J J (.cons (RowSim.refl _) .nil) (fun x=>Gp x) J J<|Ap [0,1] hI J J (Dr [[59]] r1.1 r1.2 _ (ix ids 0) (ix ids 1) g v5 g7 vH4 (by exact hI.sub' J J)) J J J J J J (fun v _=>Ao (K:=3) (N:=1) Tryz.func42 hI) ?_
    rintro r2 _ _ _ ⟨v6,g8,vH5,rfl,rfl⟩
    refine A0 [0,1] hI J J J ?_
    refine Ar<|Z<|Aj ?_
    refine Bi<|O<|Ab 2 [] [(27,(.I (IntKind.wrap .i64 ((j:Int)+1))))] ?_
    refine Z<|Eb [(some (.rows g 2 [[v6,(.bool r2.1)]])),(Ah v6 g8 4 (List.map Ac r2.2)),(some (.rows g2 1 [[(.q ids 0 g)]])),none] hI J (.keep (.keep (.keep (.drop .nil))))<|Bo (Um (hW (r2.1,r2.2) _ _ ⟨v6,g8,vH5,J,J⟩)) (.cons J (.cons J (.cons J (.cons J (.cons J (.cons (Eg (Bg ha) hlim) .nil))))))
   refine D2 J (fun hc=>?_) (fun hc=>?_)
   ·refine Ax<|Bo (hJ1 (fBad,l2) _ _ ⟨v2,g3,vH1,J,J⟩)
   refine O<|Ab 2 [] [(34,(.str text)),(33,(.q ids 0 g))] ?_
   refine C3 (e:=rS) (L:=[text]) (st:=1) (rows:=[[(.str text)]]) J D0 Cf J J J J J (.cons (RowSim.refl _) .nil) (fun x=>Gp x) J J<|Ap [0,1] hI J J (B6 [text] fBad l2 _ (ix ids 0) (ix ids 1) g v2 g3 vH1 (by exact hI.sub' J J)) J J J J J J (fun v _=>Ao (K:=3) (N:=1) Tryz.func42 hI) ?_
   rintro r _ _ _ ⟨v3,g5,vH2,rfl,rfl⟩
   refine A0 [0,1] hI J J J ?_
   refine Ar<|Z<|Aj ?_
   exact Bo (hJ1 (r.1,r.2) _ _ ⟨v3,g5,vH2,J,J⟩)
  rintro⟨fBad,l2⟩ fr h ⟨v2,g3,vH1,rfl,rfl⟩
  refine Al (Py _ _ _)<|Y<|O<|Aa (.bool (decide ((l.length:Int)<(l.length:Int)))) J (Bh J J J)<|Z<|Y<|Df J (Int.lt_irrefl _) ?_
  refine Cy J<|Ci (K:=3) (N:=1) (a:=(fBad,l2)) (vs:=[]) [some (.rows g 2 [[v2,(.bool fBad)]]),Ah v2 g3 4 (List.map Ac l2),some (.rows g2 1 [[(.q ids 0 g)]])] Tryz.func42 hI J J J (.keep (.keep (.keep (.keep .nil)))) (.same _) ⟨v2,g3,vH1,J,J⟩
 ·refine Az (t:=17) hb1 J<|Ab 5 [] [(22,(.bool true))] ?_
  exact Bf hJ (.cons J (.cons J (.cons J (.cons J (.cons J (.cons (E6 hb1) .nil))))))
 refine Az (t:=17) hb1 J<|By (tj:=17) (.sl 7 (List.map Bu l)) J J J Ad<|By (tj:=17) (.I (l.length:Int)) J J J (A2 (Bk Ly))<|Ab 3 [] [(22,(.bool (decide ((l.length:Int) > most))))] ?_
 exact Bf hJ (.cons J (.cons J (.cons J (.cons J (.cons J (.cons (E5 hb1) .nil))))))
theorem Xr (m:Mode)(s1_bad:Bool)(l:List Token)(h0:Ag)(o0:Nat)(o1:Nat)(o2:Nat)(g:Nat)(g1:Nat)(v1:AV)(g2:Nat)(vH:Av v1 o2 g2 l.length)(hI0:Ids h0 [o0,o1,o2] 3):N5 m s1_bad l≠.bad→Bq Tryz.prog 47 [(.agg (Dy m)),(.ptr o0 g 0 0)] (hp h0 [o0,o1,o2] [some (.rows g 1 [[(.ptr o1 g1 0 0)]]),some (.rows g1 2 [[v1,(.bool s1_bad)]]),Ah v1 g2 4 (List.map Ac l)]) (C5 (fun a_ v h' => ∃ (v5:AV),∃ (g7:Nat),Av v5 o2 g7 a_.2.length∧v=(.tup [])∧h'=hp h0 [o0,o1,o2] [some (.rows g 1 [[(.ptr o1 g1 0 0)]]),some (.rows g1 2 [[v5,(.bool a_.1)]]),Ah v5 g7 4 (List.map Ac a_.2)]) h0 (N5 m s1_bad l)):=by
 refine Bm (n:=14) 1 Tryz.func47 J (by decide) J J hI0 J fun ids he hI=>?_
 clear hI0
 obtain rfl:ix ids 0=o0:=he 0 rfl
 obtain rfl:ix ids 1=o1:=he 1 rfl
 obtain rfl:ix ids 2=o2:=he 2 rfl
 clear he
 refine Bn (Al (N5.eq_1 _ _ _) ?_)
 refine Aj ?_
 refine Y<|O<|Cl (v:=(.agg (Dy m))) (j:=3) hI J J J J J J J fun g3=>Z<|Aj ?_
 refine Y<|O<|Ab 1 [0] [(3,(.q ids 1 g1))] ?_
 refine C3 (e:=rS) (L:=[[109,111,100,101]]) (st:=1) (rows:=[[(.str [109,111,100,101])]]) J D0 Cf J J J J J (.cons (RowSim.refl _) .nil) (fun x=>Gp x) J J<|Ap [1,2] hI J J (B6 [[109,111,100,101]] s1_bad l _ (ix ids 1) (ix ids 2) g1 v1 g2 vH (by exact hI.sub' J J)) J J J J J J (fun v _=>Ao (K:=3) (N:=1) Tryz.func47 hI) ?_
 rintro r _ _ _ ⟨v2,g4,vH1,rfl,rfl⟩
 refine A0 [1,2] hI J J J ?_
 refine Ar<|Z<|Aj ?_
 refine Y<|O<|Ab 3 [0,3] [(8,(.str m.Name)),(6,(.q ids 1 g1))] ?_
 refine Ap [1,2] hI J J (Dm m.Name r.1 r.2 _ (ix ids 1) (ix ids 2) g1 v2 g4 vH1 (by exact hI.sub' J J)) J J J J J J (fun v _=>Ao (K:=3) (N:=1) Tryz.func47 hI) ?_
 rintro r1 _ _ _ ⟨v3,g5,vH2,rfl,rfl⟩
 refine A0 [1,2] hI J J J ?_
 refine Ar<|Z<|Aj ?_
 refine O<|Ab 3 [0,3] [(12,(.I m.Places)),(10,(.q ids 1 g1))] ?_
 refine Ap [1,2] hI J J (D5 m.Places 0 64 r1.1 r1.2 _ (ix ids 1) (ix ids 2) g1 v3 g5 vH2 (by exact hI.sub' J J)) J J J J J J (fun v _=>Ao (K:=3) (N:=1) Tryz.func47 hI) ?_
 rintro r2 _ _ _ ⟨v4,g6,vH3,rfl,rfl⟩
 refine A0 [1,2] hI J J J ?_
 refine Ar<|Z<|Aj ?_
 exact Ci (K:=3) (N:=1) (a:=((r1.1||(!((decide (m.Places≥0))&&(decide (m.Places≤64))))),r2)) (vs:=[]) [some (.rows g 1 [[(.q ids 1 g1)]]),some (.rows g1 2 [[v4,(.bool (r1.1||(!((decide (m.Places≥0))&&(decide (m.Places≤64))))))]]),Ah v4 g6 4 (List.map Ac r2)] Tryz.func47 hI J J J (.keep (.keep (.keep (.drop .nil)))) (.same _) ⟨v4,g6,vH3,J,J⟩
theorem Xk (l:List Mode)(most:Int)(s0_bad:Bool)(l1:List Token)(h0:Ag)(o0:Nat)(o1:Nat)(o2:Nat)(g:Nat)(v1:AV)(g1:Nat)(g2:Nat)(vH:Av v1 o1 g1 l1.length)(hI0:Ids h0 [o0,o1,o2] 3):N8 l most s0_bad l1≠.bad→Bq Tryz.prog 46 [(.ptr o0 g 0 0),(.sl 2 (List.map Dy l)),(.int .i64 most),(.func (.func 47) [] [(.ptr o2 g2 0 0)])] (hp h0 [o0,o1,o2] [some (.rows g 2 [[v1,(.bool s0_bad)]]),Ah v1 g1 4 (List.map Ac l1),some (.rows g2 1 [[(.ptr o0 g 0 0)]])]) (C5 (fun a_ v h' => ∃ (v6:AV),∃ (g8:Nat),Av v6 o1 g8 a_.2.length∧v=(.tup [])∧h'=hp h0 [o0,o1,o2] [some (.rows g 2 [[v6,(.bool a_.1)]]),Ah v6 g8 4 (List.map Ac a_.2),some (.rows g2 1 [[(.ptr o0 g 0 0)]])]) h0 (N8 l most s0_bad l1)):=by
 refine Bm (n:=44) 1 Tryz.func46 J (by decide) J J hI0 J fun ids he hI=>?_
 clear hI0
 obtain rfl:ix ids 0=o0:=he 0 rfl
 obtain rfl:ix ids 1=o1:=he 1 rfl
 obtain rfl:ix ids 2=o2:=he 2 rfl
 clear he
 refine Bn (Al (N8.eq_1 _ _ _ _) ?_)
 refine Aj ?_
 refine Y<|O<|Ab 6 [0] [(15,(.bool s0_bad)),(10,(.q ids 0 g))] ?_
 refine B2 4 [(0,(.q ids 0 g)),(1,(.sl 2 (List.map Dy l))),(2,(.I most)),(3,(.func (.func 47) [] [(.q ids 2 g2)])),(10,(.q ids 0 g)),(19,(.bool (s0_bad||((l.length:Int)==0))))] ?_ fun hJ=>Bw s0_bad (fun hb1=>?_) (fun hb1=>?_)
 ·refine Aa (.bool (s0_bad||((l.length:Int)==0))) J Ad<|B2 5 [(0,(.q ids 0 g)),(1,(.sl 2 (List.map Dy l))),(3,(.func (.func 47) [] [(.q ids 2 g2)])),(10,(.q ids 0 g)),(25,(.bool ((s0_bad||((l.length:Int)==0))||(decide ((l.length:Int) > most)))))] ?_ fun hJ1=>Bw (s0_bad||((l.length:Int)==0)) (fun hb3=>?_) (fun hb3=>?_)
  ·refine Ab 2 [] [(27,(.ptr (ix ids 0) g 0 1))] ?_
   refine An (Aq (v:=(.bool ((s0_bad||((l.length:Int)==0))||(decide ((l.length:Int) > most))))) hI J J J J Q3 J J J J J)<|Z<|Aj ?_
   refine Y<|O<|Aa (.sl 2 (List.map Dy l)) J Ad<|Aa (.I (l.length:Int)) J (A2 (Bk K8))<|Aa (.I 0) J Ad<|Z<|Ba ?_
   refine D6 [(0,(.q ids 0 g)),(3,(.func (.func 47) [] [(.q ids 2 g2)])),(28,(.sl 2 (List.map Dy l))),(29,(.I (l.length:Int))),(30,(.I 0))] (FI J)<|Ko (P:=Tryz.prog) l (fun j a=>C4 fun fBad l2=>L8 j a fBad l2) (((C4 fun fBad l2=>.ok (fBad,l2))):(Bool×(List Token))→R (Bool×(List Token))) (fun j=>C4 fun fBad l2=>fun(fr:Nat→AV) (h:Ag) => ∃ (v2:AV),∃ (g3:Nat),Av v2 (ix ids 1) g3 l2.length∧fr=A5 [(0,(.q ids 0 g)),(3,(.func (.func 47) [] [(.q ids 2 g2)])),(28,(.sl 2 (List.map Dy l))),(29,(.I (l.length:Int))),(30,(.I (j:Int)))]∧h=hp h0 ids [(some (.rows g 2 [[v2,(.bool fBad)]])),(Ah v2 g3 4 (List.map Ac l2)),(some (.rows g2 1 [[(.q ids 0 g)]])),none]) (((s0_bad||((l.length:Int)==0))||(decide ((l.length:Int) > most))),l1) ?_ ?_ ?_
   ·exact⟨v1,g1,vH,J,J⟩
   ·rintro j a ha W hW ⟨fBad,l2⟩ fr h ⟨v2,g3,vH1,rfl,rfl⟩
    refine Al (m':=L8 j a fBad l2) J (Al (L8.eq_1 _ _ _ _) ?_)
    refine Y<|O<|Aa (.bool (decide ((j:Int)<(l.length:Int)))) J (Bh J J J)<|Z<|Y<|Ev (t:=28) (L:=l) J fun hlim=>Dg J (Int.ofNat_lt.2 (Bg ha)) ?_
    refine Ax<|Y<|Ba<|Y<|O<|Aa (.I (j:Int)) J Ad<|Aa (.cp (Dy a) 0) J (Bz (Ea K8 Nv J ha)) ?_
    refine Aa (.agg (Dy a)) J (Au (C7 Nv J))<|A8 (j:=3) hI J J J J Nv J fun g4=>Aa (.I (j:Int)) J Ai<|An (Aq (v:=(.agg (Dy a))) hI J J J J Nv J J J J J)<|Z<|Aj ?_
    refine Y<|Y<|O<|Ab 2 [] [(36,(.bool (decide ((j:Int) > 0))))] ?_
    refine Z<|Dx (C4 fun fBad1 l3=>L7 a fBad1 l3) (C4 fun fBad1 l3=>fun(fr:Nat→AV) (h:Ag) => ∃ (v4:AV),∃ (g6:Nat),Av v4 (ix ids 1) g6 l3.length∧fr=A5 [(0,(.q ids 0 g)),(3,(.func (.func 47) [] [(.q ids 2 g2)])),(9,(.q ids 3 g4)),(28,(.sl 2 (List.map Dy l))),(29,(.I (l.length:Int))),(30,(.I (j:Int)))]∧h=hp h0 ids [(some (.rows g 2 [[v4,(.bool fBad1)]])),(Ah v4 g6 4 (List.map Ac l3)),(some (.rows g2 1 [[(.q ids 0 g)]])),(some (.rows g4 2 [(Dy a)]))]) ?_ fun hJ2=>?_
    ·rintro⟨fBad1,l3⟩ fr h ⟨v4,g6,vH3,rfl,rfl⟩
     refine Al (L7.eq_1 _ _ _)<|O<|Ab 2 [3] [(41,(.agg (Dy a))),(40,(.func (.func 47) [] [(.q ids 2 g2)]))] ?_
     refine Ap [2,0,1] hI J J (Xr a fBad1 l3 _ (ix ids 2) (ix ids 0) (ix ids 1) g2 g v4 g6 vH3 (by exact hI.sub' J J)) J J J J J J (fun v _=>Ao (K:=3) (N:=1) Tryz.func46 hI) ?_
     rintro r1 _ _ _ ⟨v5,g7,vH4,rfl,rfl⟩
     refine A0 [2,0,1] hI J J J ?_
     refine Ar<|Z<|Aj ?_
     refine Bi<|O<|Ab 2 [] [(30,(.I (IntKind.wrap .i64 ((j:Int)+1))))] ?_
     refine Z<|Eb [(some (.rows g 2 [[v5,(.bool r1.1)]])),(Ah v5 g7 4 (List.map Ac r1.2)),(some (.rows g2 1 [[(.q ids 0 g)]])),none] hI J (.keep (.keep (.keep (.drop .nil))))<|Bo (Um (hW (r1.1,r1.2) _ _ ⟨v5,g7,vH4,J,J⟩)) (.cons J (.cons J (.cons J (.cons J (.cons (Eg (Bg ha) hlim) .nil)))))
    refine Na J (fun hc=>?_) (fun hc=>?_)
    ·refine O<|Aa (.q ids 0 g) J Ad<|C3 (e:=rS) (L:=[[44]]) (st:=1) (rows:=[[(.str [44])]]) J D0 Cf J J J J J (.cons (RowSim.refl _) .nil) (fun x=>Gp x) J J<|Ap [0,1] hI J J (Dr [[44]] fBad l2 _ (ix ids 0) (ix ids 1) g v2 g3 vH1 (by exact hI.sub' J J)) J J J J J J (fun v _=>Ao (K:=3) (N:=1) Tryz.func46 hI) ?_
     rintro r _ _ _ ⟨v3,g5,vH2,rfl,rfl⟩
     refine A0 [0,1] hI J J J ?_
     refine Ar<|Z<|Aj ?_
     exact Bo (hJ2 (r.1,r.2) _ _ ⟨v3,g5,vH2,J,J⟩)
    refine Ax<|Bo (hJ2 (fBad,l2) _ _ ⟨v2,g3,vH1,J,J⟩)
   rintro⟨fBad,l2⟩ fr h ⟨v2,g3,vH1,rfl,rfl⟩
   refine Al (Py _ _ _)<|Y<|O<|Aa (.bool (decide ((l.length:Int)<(l.length:Int)))) J (Bh J J J)<|Z<|Y<|Df J (Int.lt_irrefl _) ?_
   refine Cy J<|Ci (K:=3) (N:=1) (a:=(fBad,l2)) (vs:=[]) [some (.rows g 2 [[v2,(.bool fBad)]]),Ah v2 g3 4 (List.map Ac l2),some (.rows g2 1 [[(.q ids 0 g)]])] Tryz.func46 hI J J J (.keep (.keep (.keep (.keep .nil)))) (.same _) ⟨v2,g3,vH1,J,J⟩
  ·refine Az (t:=20) hb3 J<|Ab 5 [] [(25,(.bool true))] ?_
   exact Bf hJ1 (.cons J (.cons J (.cons J (.cons J (.cons (E6 hb3) .nil)))))
  refine Az (t:=20) hb3 J<|By (tj:=20) (.sl 2 (List.map Dy l)) J J J Ad<|By (tj:=20) (.I (l.length:Int)) J J J (A2 (Bk K8))<|Ab 3 [] [(25,(.bool (decide ((l.length:Int) > most))))] ?_
  exact Bf hJ1 (.cons J (.cons J (.cons J (.cons J (.cons (E5 hb3) .nil)))))
 ·refine Az (t:=15) hb1 J<|Ab 4 [] [(19,(.bool true))] ?_
  exact Bf hJ (.cons J (.cons J (.cons J (.cons J (.cons J (.cons (E6 hb1) .nil))))))
 refine Az (t:=15) hb1 J<|By (tj:=15) (.sl 2 (List.map Dy l)) J J J Ad<|By (tj:=15) (.I (l.length:Int)) J J J (A2 (Bk K8))<|Ab 2 [] [(19,(.bool ((l.length:Int)==0)))] ?_
 exact Bf hJ (.cons J (.cons J (.cons J (.cons J (.cons J (.cons (E5 hb1) .nil))))))
theorem Zs (a:Airport)(s1_bad:Bool)(l:List Token)(h0:Ag)(o0:Nat)(o1:Nat)(o2:Nat)(g:Nat)(g1:Nat)(v1:AV)(g2:Nat)(vH:Av v1 o2 g2 l.length)(hI0:Ids h0 [o0,o1,o2] 3):Pg a s1_bad l≠.bad→Bq Tryz.prog 45 [(.agg (Bb a)),(.ptr o0 g 0 0)] (hp h0 [o0,o1,o2] [some (.rows g 1 [[(.ptr o1 g1 0 0)]]),some (.rows g1 2 [[v1,(.bool s1_bad)]]),Ah v1 g2 4 (List.map Ac l)]) (C5 (fun a_ v h' => ∃ (v4:AV),∃ (g6:Nat),Av v4 o2 g6 a_.2.length∧v=(.tup [])∧h'=hp h0 [o0,o1,o2] [some (.rows g 1 [[(.ptr o1 g1 0 0)]]),some (.rows g1 2 [[v4,(.bool a_.1)]]),Ah v4 g6 4 (List.map Ac a_.2)]) h0 (Pg a s1_bad l)):=by
 refine Bm (n:=12) 1 Tryz.func45 J (by decide) J J hI0 J fun ids he hI=>?_
 clear hI0
 obtain rfl:ix ids 0=o0:=he 0 rfl
 obtain rfl:ix ids 1=o1:=he 1 rfl
 obtain rfl:ix ids 2=o2:=he 2 rfl
 clear he
 refine Bn (Al (Pg.eq_1 _ _ _) ?_)
 refine Aj ?_
 refine Y<|O<|Cl (v:=(.agg (Bb a))) (j:=3) hI J J J J J J J fun g3=>Z<|Aj ?_
 refine Y<|O<|Ab 3 [0,3] [(5,(.str a.Name)),(3,(.q ids 1 g1))] ?_
 refine Ap [1,2] hI J J (Dm a.Name s1_bad l _ (ix ids 1) (ix ids 2) g1 v1 g2 vH (by exact hI.sub' J J)) J J J J J J (fun v _=>Ao (K:=3) (N:=1) Tryz.func45 hI) ?_
 rintro r _ _ _ ⟨v2,g4,vH1,rfl,rfl⟩
 refine A0 [1,2] hI J J J ?_
 refine Ar<|Z<|Aj ?_
 refine O<|Ab 4 [0,3] [(10,(.func (.func 47) [] [(.q ids 0 g)])),(9,(.sl 2 (List.map Dy a.Modes))),(7,(.q ids 1 g1))] ?_
 refine Ap [1,2,0] hI J J (Xk a.Modes 16 r.1 r.2 _ (ix ids 1) (ix ids 2) (ix ids 0) g1 v2 g4 g vH1 (by exact hI.sub' J J)) J J J J J J (fun v _=>Ao (K:=3) (N:=1) Tryz.func45 hI) ?_
 rintro r1 _ _ _ ⟨v3,g5,vH2,rfl,rfl⟩
 refine A0 [1,2,0] hI J J J ?_
 refine Ar<|Z<|Aj ?_
 exact Ci (K:=3) (N:=1) (a:=(r1.1,r1.2)) (vs:=[]) [some (.rows g 1 [[(.q ids 1 g1)]]),some (.rows g1 2 [[v3,(.bool r1.1)]]),Ah v3 g5 4 (List.map Ac r1.2)] Tryz.func45 hI J J J (.keep (.keep (.keep (.drop .nil)))) (.same _) ⟨v3,g5,vH2,J,J⟩
theorem Uo (text:Ay)(l:List Airport)(most:Int)(s0_bad:Bool)(l1:List Token)(h0:Ag)(o0:Nat)(o1:Nat)(o2:Nat)(g:Nat)(v1:AV)(g1:Nat)(g2:Nat)(vH:Av v1 o1 g1 l1.length)(hI0:Ids h0 [o0,o1,o2] 3):Kx text l most s0_bad l1≠.bad→Bq Tryz.prog 44 [(.ptr o0 g 0 0),(.str text),(.sl 2 (List.map Bb l)),(.int .i64 most),(.func (.func 45) [] [(.ptr o2 g2 0 0)])] (hp h0 [o0,o1,o2] [some (.rows g 2 [[v1,(.bool s0_bad)]]),Ah v1 g1 4 (List.map Ac l1),some (.rows g2 1 [[(.ptr o0 g 0 0)]])]) (C5 (fun a_ v h' => ∃ (v7:AV),∃ (g9:Nat),Av v7 o1 g9 a_.2.length∧v=(.tup [])∧h'=hp h0 [o0,o1,o2] [some (.rows g 2 [[v7,(.bool a_.1)]]),Ah v7 g9 4 (List.map Ac a_.2),some (.rows g2 1 [[(.ptr o0 g 0 0)]])]) h0 (Kx text l most s0_bad l1)):=by
 refine Bm (n:=44) 1 Tryz.func44 J (by decide) J J hI0 J fun ids he hI=>?_
 clear hI0
 obtain rfl:ix ids 0=o0:=he 0 rfl
 obtain rfl:ix ids 1=o1:=he 1 rfl
 obtain rfl:ix ids 2=o2:=he 2 rfl
 clear he
 refine Bn (Al (Kx.eq_1 _ _ _ _ _) ?_)
 refine Aj ?_
 refine Y<|O<|Ab 6 [0] [(17,(.bool s0_bad)),(12,(.q ids 0 g))] ?_
 refine B2 5 [(0,(.q ids 0 g)),(1,(.str text)),(2,(.sl 2 (List.map Bb l))),(4,(.func (.func 45) [] [(.q ids 2 g2)])),(12,(.q ids 0 g)),(22,(.bool (s0_bad||(decide ((l.length:Int) > most)))))] ?_ fun hJ=>Bw s0_bad (fun hb1=>?_) (fun hb1=>?_)
 ·refine Ab 2 [] [(24,(.ptr (ix ids 0) g 0 1))] ?_
  refine An (Aq (v:=(.bool (s0_bad||(decide ((l.length:Int) > most))))) hI J J J J Q3 J J J J J)<|Z<|Aj ?_
  refine Y<|O<|Aa (.sl 2 (List.map Bb l)) J Ad<|Aa (.I (l.length:Int)) J (A2 (Bk Lc))<|Aa (.I 0) J Ad<|Z<|Ba ?_
  refine D6 [(0,(.q ids 0 g)),(1,(.str text)),(4,(.func (.func 45) [] [(.q ids 2 g2)])),(25,(.sl 2 (List.map Bb l))),(26,(.I (l.length:Int))),(27,(.I 0))] (FI J)<|Ko (P:=Tryz.prog) l (fun _ a=>C4 fun fBad l2=>I2 text a fBad l2) (((C4 fun fBad l2=>.ok (fBad,l2))):(Bool×(List Token))→R (Bool×(List Token))) (fun j=>C4 fun fBad l2=>fun(fr:Nat→AV) (h:Ag) => ∃ (v2:AV),∃ (g3:Nat),Av v2 (ix ids 1) g3 l2.length∧fr=A5 [(0,(.q ids 0 g)),(1,(.str text)),(4,(.func (.func 45) [] [(.q ids 2 g2)])),(25,(.sl 2 (List.map Bb l))),(26,(.I (l.length:Int))),(27,(.I (j:Int)))]∧h=hp h0 ids [(some (.rows g 2 [[v2,(.bool fBad)]])),(Ah v2 g3 4 (List.map Ac l2)),(some (.rows g2 1 [[(.q ids 0 g)]])),none]) ((s0_bad||(decide ((l.length:Int) > most))),l1) ?_ ?_ ?_
  ·exact⟨v1,g1,vH,J,J⟩
  ·rintro j a ha W hW ⟨fBad,l2⟩ fr h ⟨v2,g3,vH1,rfl,rfl⟩
   refine Al (m':=I2 text a fBad l2) J (Al (I2.eq_1 _ _ _ _) ?_)
   refine Y<|O<|Aa (.bool (decide ((j:Int)<(l.length:Int)))) J (Bh J J J)<|Z<|Y<|Ev (t:=25) (L:=l) J fun hlim=>Dg J (Int.ofNat_lt.2 (Bg ha)) ?_
   refine Ax<|Y<|Ba<|Y<|O<|Aa (.cp (Bb a) 0) J (Bz (Ea Lc Ho J ha))<|Aa (.agg (Bb a)) J (Au (C7 Ho J)) ?_
   refine A8 (j:=3) hI J J J J Ho J fun g4=>An (Aq (v:=(.agg (Bb a))) hI J J J J Ho J J J J J)<|Z<|Aj ?_
   refine Y<|Y<|O<|Ab 2 [] [(32,(.bool (!(text==[]))))] ?_
   refine Z<|Dx (C4 fun fBad1 l3=>Iy a fBad1 l3) (C4 fun fBad1 l3=>fun(fr:Nat→AV) (h:Ag) => ∃ (v4:AV),∃ (g6:Nat),Av v4 (ix ids 1) g6 l3.length∧fr=A5 [(0,(.q ids 0 g)),(1,(.str text)),(4,(.func (.func 45) [] [(.q ids 2 g2)])),(11,(.q ids 3 g4)),(25,(.sl 2 (List.map Bb l))),(26,(.I (l.length:Int))),(27,(.I (j:Int)))]∧h=hp h0 ids [(some (.rows g 2 [[v4,(.bool fBad1)]])),(Ah v4 g6 4 (List.map Ac l3)),(some (.rows g2 1 [[(.q ids 0 g)]])),(some (.rows g4 2 [(Bb a)]))]) ?_ fun hJ1=>?_
   ·rintro⟨fBad1,l3⟩ fr h ⟨v4,g6,vH3,rfl,rfl⟩
    refine Al (Iy.eq_1 _ _ _)<|Y<|O<|Ab 2 [3] [(38,(.agg (Bb a))),(37,(.func (.func 45) [] [(.q ids 2 g2)]))] ?_
    refine Ap [2,0,1] hI J J (Zs a fBad1 l3 _ (ix ids 2) (ix ids 0) (ix ids 1) g2 g v4 g6 vH3 (by exact hI.sub' J J)) J J J J J J (fun v _=>Ao (K:=3) (N:=1) Tryz.func44 hI) ?_
    rintro r1 _ _ _ ⟨v5,g7,vH4,rfl,rfl⟩
    refine A0 [2,0,1] hI J J J ?_
    refine Ar<|Z<|Aj ?_
    refine O<|Aa (.q ids 0 g) J Ad<|C3 (e:=rS) (L:=[[59]]) (st:=1) (rows:=[[(.str [59])]]) J D0 Cf J J J J J (.cons (RowSim.refl _) .nil) (fun x=>Gp x) J J<|Ap [0,1] hI J J (Dr [[59]] r1.1 r1.2 _ (ix ids 0) (ix ids 1) g v5 g7 vH4 (by exact hI.sub' J J)) J J J J J J (fun v _=>Ao (K:=3) (N:=1) Tryz.func44 hI) ?_
    rintro r2 _ _ _ ⟨v6,g8,vH5,rfl,rfl⟩
    refine A0 [0,1] hI J J J ?_
    refine Ar<|Z<|Aj ?_
    refine Bi<|O<|Ab 2 [] [(27,(.I (IntKind.wrap .i64 ((j:Int)+1))))] ?_
    refine Z<|Eb [(some (.rows g 2 [[v6,(.bool r2.1)]])),(Ah v6 g8 4 (List.map Ac r2.2)),(some (.rows g2 1 [[(.q ids 0 g)]])),none] hI J (.keep (.keep (.keep (.drop .nil))))<|Bo (Um (hW (r2.1,r2.2) _ _ ⟨v6,g8,vH5,J,J⟩)) (.cons J (.cons J (.cons J (.cons J (.cons J (.cons (Eg (Bg ha) hlim) .nil))))))
   refine D2 J (fun hc=>?_) (fun hc=>?_)
   ·refine Ax<|Bo (hJ1 (fBad,l2) _ _ ⟨v2,g3,vH1,J,J⟩)
   refine O<|Ab 2 [] [(34,(.str text)),(33,(.q ids 0 g))] ?_
   refine C3 (e:=rS) (L:=[text]) (st:=1) (rows:=[[(.str text)]]) J D0 Cf J J J J J (.cons (RowSim.refl _) .nil) (fun x=>Gp x) J J<|Ap [0,1] hI J J (B6 [text] fBad l2 _ (ix ids 0) (ix ids 1) g v2 g3 vH1 (by exact hI.sub' J J)) J J J J J J (fun v _=>Ao (K:=3) (N:=1) Tryz.func44 hI) ?_
   rintro r _ _ _ ⟨v3,g5,vH2,rfl,rfl⟩
   refine A0 [0,1] hI J J J ?_
   refine Ar<|Z<|Aj ?_
   exact Bo (hJ1 (r.1,r.2) _ _ ⟨v3,g5,vH2,J,J⟩)
  rintro⟨fBad,l2⟩ fr h ⟨v2,g3,vH1,rfl,rfl⟩
  refine Al (Py _ _ _)<|Y<|O<|Aa (.bool (decide ((l.length:Int)<(l.length:Int)))) J (Bh J J J)<|Z<|Y<|Df J (Int.lt_irrefl _) ?_
  refine Cy J<|Ci (K:=3) (N:=1) (a:=(fBad,l2)) (vs:=[]) [some (.rows g 2 [[v2,(.bool fBad)]]),Ah v2 g3 4 (List.map Ac l2),some (.rows g2 1 [[(.q ids 0 g)]])] Tryz.func44 hI J J J (.keep (.keep (.keep (.keep .nil)))) (.same _) ⟨v2,g3,vH1,J,J⟩
 ·refine Az (t:=17) hb1 J<|Ab 5 [] [(22,(.bool true))] ?_
  exact Bf hJ (.cons J (.cons J (.cons J (.cons J (.cons J (.cons (E6 hb1) .nil))))))
 refine Az (t:=17) hb1 J<|By (tj:=17) (.sl 2 (List.map Bb l)) J J J Ad<|By (tj:=17) (.I (l.length:Int)) J J J (A2 (Bk Lc))<|Ab 3 [] [(22,(.bool (decide ((l.length:Int) > most))))] ?_
 exact Bf hJ (.cons J (.cons J (.cons J (.cons J (.cons J (.cons (E5 hb1) .nil))))))
theorem Zf (a:Class)(s1_bad:Bool)(l:List Token)(h0:Ag)(o0:Nat)(o1:Nat)(o2:Nat)(g:Nat)(g1:Nat)(v1:AV)(g2:Nat)(vH:Av v1 o2 g2 l.length)(hI0:Ids h0 [o0,o1,o2] 3):Pi a s1_bad l≠.bad→Bq Tryz.prog 49 [(.agg (B4 a)),(.ptr o0 g 0 0)] (hp h0 [o0,o1,o2] [some (.rows g 1 [[(.ptr o1 g1 0 0)]]),some (.rows g1 2 [[v1,(.bool s1_bad)]]),Ah v1 g2 4 (List.map Ac l)]) (C5 (fun a_ v h' => ∃ (v9:AV),∃ (g11:Nat),Av v9 o2 g11 a_.2.length∧v=(.tup [])∧h'=hp h0 [o0,o1,o2] [some (.rows g 1 [[(.ptr o1 g1 0 0)]]),some (.rows g1 2 [[v9,(.bool a_.1)]]),Ah v9 g11 4 (List.map Ac a_.2)]) h0 (Pi a s1_bad l)):=by
 refine Bm (n:=30) 1 Tryz.func49 J (by decide) J J hI0 J fun ids he hI=>?_
 clear hI0
 obtain rfl:ix ids 0=o0:=he 0 rfl
 obtain rfl:ix ids 1=o1:=he 1 rfl
 obtain rfl:ix ids 2=o2:=he 2 rfl
 clear he
 refine Bn (Al (Pi.eq_1 _ _ _) ?_)
 refine Aj ?_
 refine Y<|O<|Cl (v:=(.agg (B4 a))) (j:=3) hI J J J J J J J fun g3=>Z<|Aj ?_
 refine Y<|O<|Ab 3 [0,3] [(5,(.str a.Name)),(3,(.q ids 1 g1))] ?_
 refine Ap [1,2] hI J J (Dm a.Name s1_bad l _ (ix ids 1) (ix ids 2) g1 v1 g2 vH (by exact hI.sub' J J)) J J J J J J (fun v _=>Ao (K:=3) (N:=1) Tryz.func49 hI) ?_
 rintro r _ _ _ ⟨v2,g4,vH1,rfl,rfl⟩
 refine A0 [1,2] hI J J J ?_
 refine Ar<|Z<|Aj ?_
 refine Y<|O<|Ab 1 [0] [(7,(.q ids 1 g1))] ?_
 refine C3 (e:=rS) (L:=[[115,108,111,119]]) (st:=1) (rows:=[[(.str [115,108,111,119])]]) J D0 Cf J J J J J (.cons (RowSim.refl _) .nil) (fun x=>Gp x) J J<|Ap [1,2] hI J J (B6 [[115,108,111,119]] r.1 r.2 _ (ix ids 1) (ix ids 2) g1 v2 g4 vH1 (by exact hI.sub' J J)) J J J J J J (fun v _=>Ao (K:=3) (N:=1) Tryz.func49 hI) ?_
 rintro r1 _ _ _ ⟨v3,g5,vH2,rfl,rfl⟩
 refine A0 [1,2] hI J J J ?_
 refine Ar<|Z<|Aj ?_
 refine Y<|O<|Ab 3 [0,3] [(12,(.I a.Slow)),(10,(.q ids 1 g1))] ?_
 refine Ap [1,2] hI J J (D5 a.Slow 1 64 r1.1 r1.2 _ (ix ids 1) (ix ids 2) g1 v3 g5 vH2 (by exact hI.sub' J J)) J J J J J J (fun v _=>Ao (K:=3) (N:=1) Tryz.func49 hI) ?_
 rintro r2 _ _ _ ⟨v4,g6,vH3,rfl,rfl⟩
 refine A0 [1,2] hI J J J ?_
 refine Ar<|Z<|Aj ?_
 refine Y<|O<|Ab 1 [0] [(14,(.q ids 1 g1))] ?_
 refine C3 (e:=rS) (L:=[[102,97,115,116]]) (st:=1) (rows:=[[(.str [102,97,115,116])]]) J D0 Cf J J J J J (.cons (RowSim.refl _) .nil) (fun x=>Gp x) J J<|Ap [1,2] hI J J (B6 [[102,97,115,116]] (r1.1||(!((decide (a.Slow≥1))&&(decide (a.Slow≤64))))) r2 _ (ix ids 1) (ix ids 2) g1 v4 g6 vH3 (by exact hI.sub' J J)) J J J J J J (fun v _=>Ao (K:=3) (N:=1) Tryz.func49 hI) ?_
 rintro r3 _ _ _ ⟨v5,g7,vH4,rfl,rfl⟩
 refine A0 [1,2] hI J J J ?_
 refine Ar<|Z<|Aj ?_
 refine Y<|O<|Ab 5 [0,3,3] [(21,(.I a.Slow)),(19,(.I a.Fast)),(17,(.q ids 1 g1))] ?_
 refine Ap [1,2] hI J J (D5 a.Fast a.Slow 64 r3.1 r3.2 _ (ix ids 1) (ix ids 2) g1 v5 g7 vH4 (by exact hI.sub' J J)) J J J J J J (fun v _=>Ao (K:=3) (N:=1) Tryz.func49 hI) ?_
 rintro r4 _ _ _ ⟨v6,g8,vH5,rfl,rfl⟩
 refine A0 [1,2] hI J J J ?_
 refine Ar<|Z<|Aj ?_
 refine Y<|O<|Ab 1 [0] [(23,(.q ids 1 g1))] ?_
 refine C3 (e:=rS) (L:=[[112,108,97,99,101,115]]) (st:=1) (rows:=[[(.str [112,108,97,99,101,115])]]) J D0 Cf J J J J J (.cons (RowSim.refl _) .nil) (fun x=>Gp x) J J<|Ap [1,2] hI J J (B6 [[112,108,97,99,101,115]] (r3.1||(!((decide (a.Fast≥a.Slow))&&(decide (a.Fast≤64))))) r4 _ (ix ids 1) (ix ids 2) g1 v6 g8 vH5 (by exact hI.sub' J J)) J J J J J J (fun v _=>Ao (K:=3) (N:=1) Tryz.func49 hI) ?_
 rintro r5 _ _ _ ⟨v7,g9,vH6,rfl,rfl⟩
 refine A0 [1,2] hI J J J ?_
 refine Ar<|Z<|Aj ?_
 refine O<|Ab 3 [0,3] [(28,(.I a.Places)),(26,(.q ids 1 g1))] ?_
 refine Ap [1,2] hI J J (D5 a.Places 1 8 r5.1 r5.2 _ (ix ids 1) (ix ids 2) g1 v7 g9 vH6 (by exact hI.sub' J J)) J J J J J J (fun v _=>Ao (K:=3) (N:=1) Tryz.func49 hI) ?_
 rintro r6 _ _ _ ⟨v8,g10,vH7,rfl,rfl⟩
 refine A0 [1,2] hI J J J ?_
 refine Ar<|Z<|Aj ?_
 exact Ci (K:=3) (N:=1) (a:=((r5.1||(!((decide (a.Places≥1))&&(decide (a.Places≤8))))),r6)) (vs:=[]) [some (.rows g 1 [[(.q ids 1 g1)]]),some (.rows g1 2 [[v8,(.bool (r5.1||(!((decide (a.Places≥1))&&(decide (a.Places≤8))))))]]),Ah v8 g10 4 (List.map Ac r6)] Tryz.func49 hI J J J (.keep (.keep (.keep (.drop .nil)))) (.same _) ⟨v8,g10,vH7,J,J⟩
theorem Wa (text:Ay)(l:List Class)(most:Int)(s0_bad:Bool)(l1:List Token)(h0:Ag)(o0:Nat)(o1:Nat)(o2:Nat)(g:Nat)(v1:AV)(g1:Nat)(g2:Nat)(vH:Av v1 o1 g1 l1.length)(hI0:Ids h0 [o0,o1,o2] 3):L4 text l most s0_bad l1≠.bad→Bq Tryz.prog 48 [(.ptr o0 g 0 0),(.str text),(.sl 4 (List.map B4 l)),(.int .i64 most),(.func (.func 49) [] [(.ptr o2 g2 0 0)])] (hp h0 [o0,o1,o2] [some (.rows g 2 [[v1,(.bool s0_bad)]]),Ah v1 g1 4 (List.map Ac l1),some (.rows g2 1 [[(.ptr o0 g 0 0)]])]) (C5 (fun a_ v h' => ∃ (v7:AV),∃ (g9:Nat),Av v7 o1 g9 a_.2.length∧v=(.tup [])∧h'=hp h0 [o0,o1,o2] [some (.rows g 2 [[v7,(.bool a_.1)]]),Ah v7 g9 4 (List.map Ac a_.2),some (.rows g2 1 [[(.ptr o0 g 0 0)]])]) h0 (L4 text l most s0_bad l1)):=by
 refine Bm (n:=44) 1 Tryz.func48 J (by decide) J J hI0 J fun ids he hI=>?_
 clear hI0
 obtain rfl:ix ids 0=o0:=he 0 rfl
 obtain rfl:ix ids 1=o1:=he 1 rfl
 obtain rfl:ix ids 2=o2:=he 2 rfl
 clear he
 refine Bn (Al (L4.eq_1 _ _ _ _ _) ?_)
 refine Aj ?_
 refine Y<|O<|Ab 6 [0] [(17,(.bool s0_bad)),(12,(.q ids 0 g))] ?_
 refine B2 5 [(0,(.q ids 0 g)),(1,(.str text)),(2,(.sl 4 (List.map B4 l))),(4,(.func (.func 49) [] [(.q ids 2 g2)])),(12,(.q ids 0 g)),(22,(.bool (s0_bad||(decide ((l.length:Int) > most)))))] ?_ fun hJ=>Bw s0_bad (fun hb1=>?_) (fun hb1=>?_)
 ·refine Ab 2 [] [(24,(.ptr (ix ids 0) g 0 1))] ?_
  refine An (Aq (v:=(.bool (s0_bad||(decide ((l.length:Int) > most))))) hI J J J J Q3 J J J J J)<|Z<|Aj ?_
  refine Y<|O<|Aa (.sl 4 (List.map B4 l)) J Ad<|Aa (.I (l.length:Int)) J (A2 (Bk J2))<|Aa (.I 0) J Ad<|Z<|Ba ?_
  refine D6 [(0,(.q ids 0 g)),(1,(.str text)),(4,(.func (.func 49) [] [(.q ids 2 g2)])),(25,(.sl 4 (List.map B4 l))),(26,(.I (l.length:Int))),(27,(.I 0))] (FI J)<|Ko (P:=Tryz.prog) l (fun _ a=>C4 fun fBad l2=>Kb text a fBad l2) (((C4 fun fBad l2=>.ok (fBad,l2))):(Bool×(List Token))→R (Bool×(List Token))) (fun j=>C4 fun fBad l2=>fun(fr:Nat→AV) (h:Ag) => ∃ (v2:AV),∃ (g3:Nat),Av v2 (ix ids 1) g3 l2.length∧fr=A5 [(0,(.q ids 0 g)),(1,(.str text)),(4,(.func (.func 49) [] [(.q ids 2 g2)])),(25,(.sl 4 (List.map B4 l))),(26,(.I (l.length:Int))),(27,(.I (j:Int)))]∧h=hp h0 ids [(some (.rows g 2 [[v2,(.bool fBad)]])),(Ah v2 g3 4 (List.map Ac l2)),(some (.rows g2 1 [[(.q ids 0 g)]])),none]) ((s0_bad||(decide ((l.length:Int) > most))),l1) ?_ ?_ ?_
  ·exact⟨v1,g1,vH,J,J⟩
  ·rintro j a ha W hW ⟨fBad,l2⟩ fr h ⟨v2,g3,vH1,rfl,rfl⟩
   refine Al (m':=Kb text a fBad l2) J (Al (Kb.eq_1 _ _ _ _) ?_)
   refine Y<|O<|Aa (.bool (decide ((j:Int)<(l.length:Int)))) J (Bh J J J)<|Z<|Y<|Ev (t:=25) (L:=l) J fun hlim=>Dg J (Int.ofNat_lt.2 (Bg ha)) ?_
   refine Ax<|Y<|Ba<|Y<|O<|Aa (.cp (B4 a) 0) J (Bz (Ea J2 Jj J ha))<|Aa (.agg (B4 a)) J (Au (C7 Jj J)) ?_
   refine A8 (j:=3) hI J J J J Jj J fun g4=>An (Aq (v:=(.agg (B4 a))) hI J J J J Jj J J J J J)<|Z<|Aj ?_
   refine Y<|Y<|O<|Ab 2 [] [(32,(.bool (!(text==[]))))] ?_
   refine Z<|Dx (C4 fun fBad1 l3=>Ka a fBad1 l3) (C4 fun fBad1 l3=>fun(fr:Nat→AV) (h:Ag) => ∃ (v4:AV),∃ (g6:Nat),Av v4 (ix ids 1) g6 l3.length∧fr=A5 [(0,(.q ids 0 g)),(1,(.str text)),(4,(.func (.func 49) [] [(.q ids 2 g2)])),(11,(.q ids 3 g4)),(25,(.sl 4 (List.map B4 l))),(26,(.I (l.length:Int))),(27,(.I (j:Int)))]∧h=hp h0 ids [(some (.rows g 2 [[v4,(.bool fBad1)]])),(Ah v4 g6 4 (List.map Ac l3)),(some (.rows g2 1 [[(.q ids 0 g)]])),(some (.rows g4 4 [(B4 a)]))]) ?_ fun hJ1=>?_
   ·rintro⟨fBad1,l3⟩ fr h ⟨v4,g6,vH3,rfl,rfl⟩
    refine Al (Ka.eq_1 _ _ _)<|Y<|O<|Ab 2 [3] [(38,(.agg (B4 a))),(37,(.func (.func 49) [] [(.q ids 2 g2)]))] ?_
    refine Ap [2,0,1] hI J J (Zf a fBad1 l3 _ (ix ids 2) (ix ids 0) (ix ids 1) g2 g v4 g6 vH3 (by exact hI.sub' J J)) J J J J J J (fun v _=>Ao (K:=3) (N:=1) Tryz.func48 hI) ?_
    rintro r1 _ _ _ ⟨v5,g7,vH4,rfl,rfl⟩
    refine A0 [2,0,1] hI J J J ?_
    refine Ar<|Z<|Aj ?_
    refine O<|Aa (.q ids 0 g) J Ad<|C3 (e:=rS) (L:=[[59]]) (st:=1) (rows:=[[(.str [59])]]) J D0 Cf J J J J J (.cons (RowSim.refl _) .nil) (fun x=>Gp x) J J<|Ap [0,1] hI J J (Dr [[59]] r1.1 r1.2 _ (ix ids 0) (ix ids 1) g v5 g7 vH4 (by exact hI.sub' J J)) J J J J J J (fun v _=>Ao (K:=3) (N:=1) Tryz.func48 hI) ?_
    rintro r2 _ _ _ ⟨v6,g8,vH5,rfl,rfl⟩
    refine A0 [0,1] hI J J J ?_
    refine Ar<|Z<|Aj ?_
    refine Bi<|O<|Ab 2 [] [(27,(.I (IntKind.wrap .i64 ((j:Int)+1))))] ?_
    refine Z<|Eb [(some (.rows g 2 [[v6,(.bool r2.1)]])),(Ah v6 g8 4 (List.map Ac r2.2)),(some (.rows g2 1 [[(.q ids 0 g)]])),none] hI J (.keep (.keep (.keep (.drop .nil))))<|Bo (Um (hW (r2.1,r2.2) _ _ ⟨v6,g8,vH5,J,J⟩)) (.cons J (.cons J (.cons J (.cons J (.cons J (.cons (Eg (Bg ha) hlim) .nil))))))
   refine D2 J (fun hc=>?_) (fun hc=>?_)
   ·refine Ax<|Bo (hJ1 (fBad,l2) _ _ ⟨v2,g3,vH1,J,J⟩)
   refine O<|Ab 2 [] [(34,(.str text)),(33,(.q ids 0 g))] ?_
   refine C3 (e:=rS) (L:=[text]) (st:=1) (rows:=[[(.str text)]]) J D0 Cf J J J J J (.cons (RowSim.refl _) .nil) (fun x=>Gp x) J J<|Ap [0,1] hI J J (B6 [text] fBad l2 _ (ix ids 0) (ix ids 1) g v2 g3 vH1 (by exact hI.sub' J J)) J J J J J J (fun v _=>Ao (K:=3) (N:=1) Tryz.func48 hI) ?_
   rintro r _ _ _ ⟨v3,g5,vH2,rfl,rfl⟩
   refine A0 [0,1] hI J J J ?_
   refine Ar<|Z<|Aj ?_
   exact Bo (hJ1 (r.1,r.2) _ _ ⟨v3,g5,vH2,J,J⟩)
  rintro⟨fBad,l2⟩ fr h ⟨v2,g3,vH1,rfl,rfl⟩
  refine Al (Py _ _ _)<|Y<|O<|Aa (.bool (decide ((l.length:Int)<(l.length:Int)))) J (Bh J J J)<|Z<|Y<|Df J (Int.lt_irrefl _) ?_
  refine Cy J<|Ci (K:=3) (N:=1) (a:=(fBad,l2)) (vs:=[]) [some (.rows g 2 [[v2,(.bool fBad)]]),Ah v2 g3 4 (List.map Ac l2),some (.rows g2 1 [[(.q ids 0 g)]])] Tryz.func48 hI J J J (.keep (.keep (.keep (.keep .nil)))) (.same _) ⟨v2,g3,vH1,J,J⟩
 ·refine Az (t:=17) hb1 J<|Ab 5 [] [(22,(.bool true))] ?_
  exact Bf hJ (.cons J (.cons J (.cons J (.cons J (.cons J (.cons (E6 hb1) .nil))))))
 refine Az (t:=17) hb1 J<|By (tj:=17) (.sl 4 (List.map B4 l)) J J J Ad<|By (tj:=17) (.I (l.length:Int)) J J J (A2 (Bk J2))<|Ab 3 [] [(22,(.bool (decide ((l.length:Int) > most))))] ?_
 exact Bf hJ (.cons J (.cons J (.cons J (.cons J (.cons J (.cons (E5 hb1) .nil))))))
theorem J7 (text:Ay)(s1_bad:Bool)(l:List Token)(s3:Rule)(h0:Ag)(o0:Nat)(o1:Nat)(o2:Nat)(o3:Nat)(g:Nat)(g1:Nat)(v1:AV)(g2:Nat)(g3:Nat)(vH:Av v1 o2 g2 l.length)(hI0:Ids h0 [o0,o1,o2,o3] 4):Gf text s1_bad l s3≠.bad→Bq Tryz.prog 103 [(.str text),(.ptr o0 g 0 0),(.ptr o3 g3 0 0)] (hp h0 [o0,o1,o2,o3] [some (.rows g 1 [[(.ptr o1 g1 0 0)]]),some (.rows g1 2 [[v1,(.bool s1_bad)]]),Ah v1 g2 4 (List.map Ac l),some (.rows g3 8 [(Bc s3)])]) (C5 (fun a_ v h' => ∃ (v4:AV),∃ (g6:Nat),Av v4 o2 g6 a_.2.length∧v=(.tup [])∧h'=hp h0 [o0,o1,o2,o3] [some (.rows g 1 [[(.ptr o1 g1 0 0)]]),some (.rows g1 2 [[v4,(.bool a_.1)]]),Ah v4 g6 4 (List.map Ac a_.2),some (.rows g3 8 [(Bc s3)])]) h0 (Gf text s1_bad l s3)):=by
 refine Bm (n:=12) 0 Tryz.func103 J (by decide) J J hI0 J fun ids he hI=>?_
 clear hI0
 obtain rfl:ix ids 0=o0:=he 0 rfl
 obtain rfl:ix ids 1=o1:=he 1 rfl
 obtain rfl:ix ids 2=o2:=he 2 rfl
 obtain rfl:ix ids 3=o3:=he 3 rfl
 clear he
 refine Bn (Al (Gf.eq_1 _ _ _ _) ?_)
 refine Y<|O<|Ab 2 [0] [(5,(.str text)),(4,(.q ids 1 g1))] ?_
 refine C3 (e:=rS) (L:=[text]) (st:=1) (rows:=[[(.str text)]]) J D0 Cf J J J J J (.cons (RowSim.refl _) .nil) (fun x=>Gp x) J J<|Ap [1,2] hI J J (B6 [text] s1_bad l _ (ix ids 1) (ix ids 2) g1 v1 g2 vH (by exact hI.sub' J J)) J J J J J J (fun v _=>Ao (K:=4) (N:=0) Tryz.func103 hI) ?_
 rintro r _ _ _ ⟨v2,g4,vH1,rfl,rfl⟩
 refine A0 [1,2] hI J J J ?_
 refine Ar<|Z<|Aj ?_
 refine O<|Ab 3 [0,3] [(10,(.str s3.C)),(8,(.q ids 1 g1))] ?_
 refine Ap [1,2] hI J J (Dm s3.C r.1 r.2 _ (ix ids 1) (ix ids 2) g1 v2 g4 vH1 (by exact hI.sub' J J)) J J J J J J (fun v _=>Ao (K:=4) (N:=0) Tryz.func103 hI) ?_
 rintro r1 _ _ _ ⟨v3,g5,vH2,rfl,rfl⟩
 refine A0 [1,2] hI J J J ?_
 refine Ar<|Z<|Aj ?_
 exact Ci (K:=4) (N:=0) (a:=(r1.1,r1.2)) (vs:=[]) [some (.rows g 1 [[(.q ids 1 g1)]]),some (.rows g1 2 [[v3,(.bool r1.1)]]),Ah v3 g5 4 (List.map Ac r1.2),some (.rows g3 8 [(Bc s3)])] Tryz.func103 hI J J J (.keep (.keep (.keep (.keep .nil)))) (.same _) ⟨v3,g5,vH2,J,J⟩
theorem Xo (b:Rule)(s0_bad:Bool)(l:List Token)(h0:Ag)(o0:Nat)(o1:Nat)(g:Nat)(v1:AV)(g1:Nat)(vH:Av v1 o1 g1 l.length)(hI0:Ids h0 [o0,o1] 2):N4 b s0_bad l≠.bad→Bq Tryz.prog 51 [(.ptr o0 g 0 0),(.agg (Bc b))] (hp h0 [o0,o1] [some (.rows g 2 [[v1,(.bool s0_bad)]]),Ah v1 g1 4 (List.map Ac l)]) (C5 (fun a_ v h' => ∃ (v12:AV),∃ (g16:Nat),Av v12 o1 g16 a_.2.length∧v=(.tup [])∧h'=hp h0 [o0,o1] [some (.rows g 2 [[v12,(.bool a_.1)]]),Ah v12 g16 4 (List.map Ac a_.2)]) h0 (N4 b s0_bad l)):=by
 refine Bm (n:=93) 4 Tryz.func51 J (by decide) J J hI0 J fun ids he hI=>?_
 clear hI0
 obtain rfl:ix ids 0=o0:=he 0 rfl
 obtain rfl:ix ids 1=o1:=he 1 rfl
 clear he
 refine Bn (Al (N4.eq_1 _ _ _) ?_)
 refine Aj ?_
 refine Y<|O<|Cl (v:=(.q ids 0 g)) (j:=2) hI J J J J J J J fun g2=>Cl (v:=(.agg (Bc b))) (j:=3) hI J J J J J J J fun g3=>Z<|Aj ?_
 refine Y<|O<|Ab 1 [3] [(7,(.agg (Bc b)))] ?_
 refine A8 (j:=4) hI J J J J D3 J fun g4=>An (Aq (v:=(.agg (Bc b))) hI J J J J D3 J J J J J)<|Z<|Aj ?_
 refine Y<|O<|Aa (.ptr (ix ids 4) g4 0 3) J (Cb (B3 (c:=0) (off:=3) (i:=3) D3 J C2 J))<|An (Aq (v:=(.I 0)) hI J J J J C2 J J J J J)<|Aa (.ptr (ix ids 4) g4 0 4) J (Cb (B3 (c:=0) (off:=4) (i:=4) D3 J C2 J))<|An (Aq (v:=(.I 0)) hI J J J J C2 J J J J J)<|Z ?_
 refine Aj ?_
 refine Y<|O<|Ab 5 [3,3] [(14,(.agg [(.I b.Kind),(.str b.C),(.str []),(.I 0),(.I 0),(.I 0),(.I 0),(.I 0)]))] ?_
 refine A8 (j:=5) hI J J J J D3 J fun g5=>An (Aq (v:=(.agg [(.I b.Kind),(.str b.C),(.str []),(.I 0),(.I 0),(.I 0),(.I 0),(.I 0)])) hI J J J J D3 J J J J J)<|Z<|Aj ?_
 refine Y<|O<|Ab 2 [] [(6,(.func (.func 103) [] [(.q ids 2 g2),(.q ids 3 g3)]))] ?_
 refine Z<|Y<|Y<|O<|Ab 2 [3] [(17,(.I b.Kind))] ?_
 refine Z<|Dx (X4 fun fBad l1 o=>Fx b fBad l1 o) (X4 fun fBad l1 o=>fun(fr:Nat→AV) (h:Ag) => ∃ (v11:AV),∃ (g15:Nat),Av v11 (ix ids 1) g15 l1.length∧fr=A5 [(2,(.q ids 2 g2)),(4,(.q ids 4 g4)),(5,(.q ids 5 g5))]∧h=hp h0 ids [(some (.rows g 2 [[v11,(.bool fBad)]])),(Ah v11 g15 4 (List.map Ac l1)),(some (.rows g2 1 [[(.q ids 0 g)]])),none,(some (.rows g4 8 [[(.I b.Kind),(.str b.C),(.str b.A),(.I 0),(.I 0),(.I b.N),(.I b.Hours.From),(.I b.Hours.To)]])),(some (.rows g5 8 [(Bc o)]))]) ?_ fun hJ=>?_
 ·rintro⟨fBad,l1,o⟩ fr h ⟨v11,g15,vH10,rfl,rfl⟩
  refine Al (Fx.eq_1 _ _ _ _)<|Ct Es [[],[],[1],[1,2],[1,2,3],[1,2,3,4],[1,2,3,4,5],[1,2,3,4,5],[1,2,3,4,5,6,7],[1,2,3,4,5,6,7,8],[0,0,1,2,3,4,5,6,7,8,9],[0,1,2,3,4,5,6,7,8,9,10],[0,1,2,3,4,5,6,7,8,9,10,11]] [(false,0),(false,1),(false,2),(false,3),(false,4),(false,5),(false,6),(false,7),(false,8),(false,9),(false,10),(false,11),(true,12)] (by kernel_rfl)<|Af (.q ids 0 g) J J (Au (A3 hI J J J Adv J))<|Af (.q ids 0 g) J J (Au (A3 hI J J J Adv J))<|Af (.q ids 0 g) J J (Br J)<|Af (.ptr (ix ids 0) g 0 1) J J (Cb (B3 (c:=0) (off:=1) (i:=1) Ye J Q3 J))<|Af (.bool fBad) J J (Au (A3 hI J J J Q3 J)) ?_
  refine Af (.bool fBad) J J Ad<|Mh (fun hb1=>?_) (fun hb1=>?_)
  ·refine Ii (tj:=86) (b:=true) J J (congrArg AV.bool hb1) J J<|Ii (tj:=86) (b:=true) J J (congrArg AV.bool hb1) J J<|Ii (tj:=86) (b:=true) J J (congrArg AV.bool hb1) J J<|Af (.bool true) J J (Et (t:=true) (congrArg AV.bool hb1) J)<|Af (.q ids 0 g) J J (Br J)<|Af (.ptr (ix ids 0) g 0 1) J J (Cb (B3 (c:=0) (off:=1) (i:=1) Ye J Q3 J))<|D7 J (fun _ _=>J) (fun K hK=>Co (Aq (v:=(.bool true)) hI J J J J Q3 J J J J J) (hK _ _ (Ae J (Ae J (Ae J (Ae J (Ae J (Ae J (Ae J (Ae J (Ae J (Ae J (Ae J (Ae J Bp)))))))))))) ?_))
   clear hK K
   refine Ck<|Aj ?_
   exact Ci (K:=2) (N:=4) (a:=(true,l1)) (vs:=[]) [some (.rows g 2 [[v11,(.bool true)]]),Ah v11 g15 4 (List.map Ac l1)] Tryz.func51 hI J J J (.keep (.keep (.drop (.keep (.drop (.drop .nil)))))) (.same _) ⟨v11,g15,vH10,J,J⟩
  refine G3 (tj:=86) (.agg [(.I b.Kind),(.str b.C),(.str b.A),(.I 0),(.I 0),(.I b.N),(.I b.Hours.From),(.I b.Hours.To)]) J J (congrArg AV.bool hb1) J (Au (A3 hI J J J D3 J))<|G3 (tj:=86) (.agg (Bc o)) J J (congrArg AV.bool hb1) J (Au (A3 hI J J J D3 J))<|G3 (tj:=86) (.bool (!((b.Kind==o.Kind)&&((b.C==o.C)&&((b.A==o.A)&&((0==o.Class)&&((0==o.Airport)&&((b.N==o.N)&&((b.Hours.From==o.Hours.From)&&(b.Hours.To==o.Hours.To)))))))))) J J (congrArg AV.bool hb1) J (Bh (Ahc J J) J Agj)<|Af (.bool (!((b.Kind==o.Kind)&&((b.C==o.C)&&((b.A==o.A)&&((0==o.Class)&&((0==o.Airport)&&((b.N==o.N)&&((b.Hours.From==o.Hours.From)&&(b.Hours.To==o.Hours.To)))))))))) J J (Et (t:=false) (congrArg AV.bool hb1) J)<|Af (.q ids 0 g) J J (Br J)<|Af (.ptr (ix ids 0) g 0 1) J J (Cb (B3 (c:=0) (off:=1) (i:=1) Ye J Q3 J))<|D7 J (fun _ _=>J) (fun K hK=>Co (Aq (v:=(.bool (!((b.Kind==o.Kind)&&((b.C==o.C)&&((b.A==o.A)&&((0==o.Class)&&((0==o.Airport)&&((b.N==o.N)&&((b.Hours.From==o.Hours.From)&&(b.Hours.To==o.Hours.To))))))))))) hI J J J J Q3 J J J J J) (hK _ _ (Ae J (Ae J (Ae J (Ae J (Ae J (Ae J (Ae J (Ae J (Ae J (Ae J (Ae J (Ae J Bp)))))))))))) ?_))
  clear hK K
  refine Ck<|Aj ?_
  exact Ci (K:=2) (N:=4) (a:=((!((b.Kind==o.Kind)&&((b.C==o.C)&&((b.A==o.A)&&((0==o.Class)&&((0==o.Airport)&&((b.N==o.N)&&((b.Hours.From==o.Hours.From)&&(b.Hours.To==o.Hours.To))))))))),l1)) (vs:=[]) [some (.rows g 2 [[v11,(.bool (!((b.Kind==o.Kind)&&((b.C==o.C)&&((b.A==o.A)&&((0==o.Class)&&((0==o.Airport)&&((b.N==o.N)&&((b.Hours.From==o.Hours.From)&&(b.Hours.To==o.Hours.To))))))))))]]),Ah v11 g15 4 (List.map Ac l1)] Tryz.func51 hI J J J (.keep (.keep (.drop (.keep (.drop (.drop .nil)))))) (.same _) ⟨v11,g15,vH10,J,J⟩
 refine Ba<|Y<|O<|Ab 2 [] [(21,(.bool (b.Kind==1)))] ?_
 refine Z<|Bx J (fun hc=>?_) (fun hc=>?_)
 ·refine Y<|Ct Es [[],[0],[],[2],[0,1],[0,1,1,4],[0,1,2,3,4,5],[0,1,2,3,3,4,5,5,6]] [(false,0),(false,1),(false,2),(false,3),(false,4),(true,5),(false,6),(true,7)] (by kernel_rfl)<|Af (.ptr (ix ids 3) g3 0 2) J J (Cb (B3 (c:=0) (off:=2) (i:=2) D3 J Cf J))<|Af (.str b.A) J J (Au (A3 hI J J J Cf J))<|Af (.ptr (ix ids 3) g3 0 6) J J (Cb (B3 (c:=0) (off:=6) (i:=6) D3 J Hz J))<|Af (.agg (B7 b.Hours)) J J (Au (A3 hI J J J Hz J))<|Af (.ptr (ix ids 5) g5 0 2) J J (Cb (B3 (c:=0) (off:=2) (i:=2) D3 J Cf J)) ?_
  refine D7 J (fun _ _=>J) (fun K hK=>Co (Aq (v:=(.str b.A)) hI J J J J Cf J J J J J) (hK _ _ (Ae J (Bt J (Au (A3 hI J J J Hz J)) (Bt J (Cb (B3 (c:=0) (off:=6) (i:=6) D3 J Hz J)) (Ae J (Ae J Bp))))) ?_))
  clear hK K
  refine Af (.ptr (ix ids 5) g5 0 6) J J (Cb (B3 (c:=0) (off:=6) (i:=6) D3 J Hz J))<|D7 J (fun _ _=>J) (fun K hK=>Co (Aq (v:=(.agg (B7 b.Hours))) hI J J J J Hz J J J J J) (hK _ _ (Ae J (Ae J (Ae J (Ae J (Ae J (Ae J Bp)))))) ?_))
  clear hK K
  refine Ck<|Aj ?_
  refine Y<|O<|Aa (.func (.func 103) [] [(.q ids 2 g2),(.q ids 3 g3)]) J Ad<|Ap [2,0,1,3] hI J J (J7 [99,117,114,102,101,119] s0_bad l b _ (ix ids 2) (ix ids 0) (ix ids 1) (ix ids 3) g2 g v1 g1 g3 vH (by exact hI.sub' J J)) J J J J J J (fun v _=>Ao (K:=2) (N:=4) Tryz.func51 hI) ?_
  rintro r _ _ _ ⟨v2,g6,vH1,rfl,rfl⟩
  refine A0 [2,0,1,3] hI J J J ?_
  refine Ar<|Z<|Aj ?_
  refine Y<|O<|Ab 1 [2] [(31,(.q ids 0 g))] ?_
  refine C3 (e:=rS) (L:=[[97,116]]) (st:=1) (rows:=[[(.str [97,116])]]) J D0 Cf J J J J J (.cons (RowSim.refl _) .nil) (fun x=>Gp x) J J<|Ap [0,1] hI J J (B6 [[97,116]] r.1 r.2 _ (ix ids 0) (ix ids 1) g v2 g6 vH1 (by exact hI.sub' J J)) J J J J J J (fun v _=>Ao (K:=2) (N:=4) Tryz.func51 hI) ?_
  rintro r1 _ _ _ ⟨v3,g7,vH2,rfl,rfl⟩
  refine A0 [0,1] hI J J J ?_
  refine Ar<|Z<|Aj ?_
  refine Y<|O<|Ab 3 [2,3] [(36,(.str b.A)),(34,(.q ids 0 g))] ?_
  refine Ap [0,1] hI J J (Dm b.A r1.1 r1.2 _ (ix ids 0) (ix ids 1) g v3 g7 vH2 (by exact hI.sub' J J)) J J J J J J (fun v _=>Ao (K:=2) (N:=4) Tryz.func51 hI) ?_
  rintro r2 _ _ _ ⟨v4,g8,vH3,rfl,rfl⟩
  refine A0 [0,1] hI J J J ?_
  refine Ar<|Z<|Aj ?_
  refine O<|Ab 3 [2,3] [(40,(.agg (B7 b.Hours))),(38,(.q ids 0 g))] ?_
  refine Ap [0,1] hI J J (Rs b.Hours r2.1 r2.2 _ (ix ids 0) (ix ids 1) g v4 g8 vH3 (by exact hI.sub' J J)) J J J J J J (fun v _=>Ao (K:=2) (N:=4) Tryz.func51 hI) ?_
  rintro r3 _ _ _ ⟨v5,g9,vH4,rfl,rfl⟩
  refine A0 [0,1] hI J J J ?_
  refine Ar<|Z<|Aj ?_
  refine Bi<|Eb [(some (.rows g 2 [[v5,(.bool r3.1)]])),(Ah v5 g9 4 (List.map Ac r3.2)),(some (.rows g2 1 [[(.q ids 0 g)]])),none,(some (.rows g4 8 [[(.I b.Kind),(.str b.C),(.str b.A),(.I 0),(.I 0),(.I b.N),(.I b.Hours.From),(.I b.Hours.To)]])),(some (.rows g5 8 [[(.I b.Kind),(.str b.C),(.str b.A),(.I 0),(.I 0),(.I 0),(.I b.Hours.From),(.I b.Hours.To)]]))] hI J (.keep (.keep (.keep (.drop (.keep (.keep .nil))))))<|Bo (hJ (r3.1,r3.2,({ Kind:=b.Kind,C:=b.C,A:=b.A,Class:=0,Airport:=0,N:=0,Hours:=b.Hours }:Rule)) _ _ ⟨v5,g9,vH4,J,J⟩)
 refine Y<|O<|Ab 2 [] [(42,(.bool (b.Kind==2)))] ?_
 refine Z<|Bx J (fun hc1=>?_) (fun hc1=>?_)
 ·refine O<|Aa (.func (.func 103) [] [(.q ids 2 g2),(.q ids 3 g3)]) J Ad<|Ap [2,0,1,3] hI J J (J7 [101,120,101,109,112,116] s0_bad l b _ (ix ids 2) (ix ids 0) (ix ids 1) (ix ids 3) g2 g v1 g1 g3 vH (by exact hI.sub' J J)) J J J J J J (fun v _=>Ao (K:=2) (N:=4) Tryz.func51 hI) ?_
  rintro r4 _ _ _ ⟨v6,g10,vH5,rfl,rfl⟩
  refine A0 [2,0,1,3] hI J J J ?_
  refine Ar<|Z<|Aj ?_
  refine Bi<|Eb [(some (.rows g 2 [[v6,(.bool r4.1)]])),(Ah v6 g10 4 (List.map Ac r4.2)),(some (.rows g2 1 [[(.q ids 0 g)]])),none,(some (.rows g4 8 [[(.I b.Kind),(.str b.C),(.str b.A),(.I 0),(.I 0),(.I b.N),(.I b.Hours.From),(.I b.Hours.To)]])),(some (.rows g5 8 [[(.I b.Kind),(.str b.C),(.str []),(.I 0),(.I 0),(.I 0),(.I 0),(.I 0)]]))] hI J (.keep (.keep (.keep (.drop (.keep (.keep .nil))))))<|Bo (hJ (r4.1,r4.2,({ Kind:=b.Kind,C:=b.C,A:=[],Class:=0,Airport:=0,N:=0,Hours:=({ From:=0,To:=0 }:Span) }:Rule)) _ _ ⟨v6,g10,vH5,J,J⟩)
 refine Y<|O<|Ab 2 [] [(46,(.bool (b.Kind==3)))] ?_
 refine Z<|Bx J (fun hc2=>?_) (fun hc2=>?_)
 ·refine Y<|O<|Ab 3 [3] [(50,(.ptr (ix ids 5) g5 0 5)),(49,(.I b.N))] ?_
  refine An (Aq (v:=(.I b.N)) hI J J J J C2 J J J J J)<|Z<|Aj ?_
  refine Y<|O<|Aa (.func (.func 103) [] [(.q ids 2 g2),(.q ids 3 g3)]) J Ad<|Ap [2,0,1,3] hI J J (J7 [119,101,105,103,104,116] s0_bad l b _ (ix ids 2) (ix ids 0) (ix ids 1) (ix ids 3) g2 g v1 g1 g3 vH (by exact hI.sub' J J)) J J J J J J (fun v _=>Ao (K:=2) (N:=4) Tryz.func51 hI) ?_
  rintro r5 _ _ _ ⟨v7,g11,vH6,rfl,rfl⟩
  refine A0 [2,0,1,3] hI J J J ?_
  refine Ar<|Z<|Aj ?_
  refine O<|Ab 3 [2,3] [(55,(.I b.N)),(53,(.q ids 0 g))] ?_
  refine Ap [0,1] hI J J (D5 b.N 1 8 r5.1 r5.2 _ (ix ids 0) (ix ids 1) g v7 g11 vH6 (by exact hI.sub' J J)) J J J J J J (fun v _=>Ao (K:=2) (N:=4) Tryz.func51 hI) ?_
  rintro r6 _ _ _ ⟨v8,g12,vH7,rfl,rfl⟩
  refine A0 [0,1] hI J J J ?_
  refine Ar<|Z<|Aj ?_
  refine Bi<|Eb [(some (.rows g 2 [[v8,(.bool (r5.1||(!((decide (b.N≥1))&&(decide (b.N≤8))))))]])),(Ah v8 g12 4 (List.map Ac r6)),(some (.rows g2 1 [[(.q ids 0 g)]])),none,(some (.rows g4 8 [[(.I b.Kind),(.str b.C),(.str b.A),(.I 0),(.I 0),(.I b.N),(.I b.Hours.From),(.I b.Hours.To)]])),(some (.rows g5 8 [[(.I b.Kind),(.str b.C),(.str []),(.I 0),(.I 0),(.I b.N),(.I 0),(.I 0)]]))] hI J (.keep (.keep (.keep (.drop (.keep (.keep .nil))))))<|Bo (hJ ((r5.1||(!((decide (b.N≥1))&&(decide (b.N≤8))))),r6,({ Kind:=b.Kind,C:=b.C,A:=[],Class:=0,Airport:=0,N:=b.N,Hours:=({ From:=0,To:=0 }:Span) }:Rule)) _ _ ⟨v8,g12,vH7,J,J⟩)
 refine Y<|O<|Ab 2 [] [(57,(.bool (b.Kind==4)))] ?_
 refine Z<|Bx J (fun hc3=>?_) (fun hc3=>?_)
 ·refine Y<|O<|Ab 3 [3] [(61,(.ptr (ix ids 5) g5 0 5)),(60,(.I b.N))] ?_
  refine An (Aq (v:=(.I b.N)) hI J J J J C2 J J J J J)<|Z<|Aj ?_
  refine Y<|O<|Aa (.func (.func 103) [] [(.q ids 2 g2),(.q ids 3 g3)]) J Ad<|Ap [2,0,1,3] hI J J (J7 [108,111,110,103,101,115,116] s0_bad l b _ (ix ids 2) (ix ids 0) (ix ids 1) (ix ids 3) g2 g v1 g1 g3 vH (by exact hI.sub' J J)) J J J J J J (fun v _=>Ao (K:=2) (N:=4) Tryz.func51 hI) ?_
  rintro r7 _ _ _ ⟨v9,g13,vH8,rfl,rfl⟩
  refine A0 [2,0,1,3] hI J J J ?_
  refine Ar<|Z<|Aj ?_
  refine Y<|O<|Ab 3 [2,3] [(66,(.I b.N)),(64,(.q ids 0 g))] ?_
  refine Ap [0,1] hI J J (D5 b.N 0 60 r7.1 r7.2 _ (ix ids 0) (ix ids 1) g v9 g13 vH8 (by exact hI.sub' J J)) J J J J J J (fun v _=>Ao (K:=2) (N:=4) Tryz.func51 hI) ?_
  rintro r8 _ _ _ ⟨v10,g14,vH9,rfl,rfl⟩
  refine A0 [0,1] hI J J J ?_
  refine Ar<|Z<|Aj ?_
  refine Ct Es [[],[],[1],[1,2],[1,2,3],[1,2,3,4],[1,2,3,4,5],[1,2,3,4,5,6],[1,2,3,4,5,6,7],[1,2,3,4,5,6,7,8],[1,2,3,4,5,6,7,8,9],[0,0,1,2,3,4,5,6,7,8,9,10],[0,1,2,3,4,5,6,7,8,9,10,11],[0,1,2,3,4,5,6,7,8,9,10,11,12]] [(false,0),(false,1),(false,2),(false,3),(false,4),(false,5),(false,6),(false,7),(false,8),(false,9),(false,10),(false,11),(false,12),(true,13)] (by kernel_rfl)<|Af (.q ids 0 g) J J (Au (A3 hI J J J Adv J))<|Af (.q ids 0 g) J J (Au (A3 hI J J J Adv J))<|Af (.q ids 0 g) J J (Br J)<|Af (.ptr (ix ids 0) g 0 1) J J (Cb (B3 (c:=0) (off:=1) (i:=1) Ye J Q3 J))<|Af (.bool (r7.1||(!((decide (b.N≥0))&&(decide (b.N≤60)))))) J J (Au (A3 hI J J J Q3 J))<|Af (.bool (r7.1||(!((decide (b.N≥0))&&(decide (b.N≤60)))))) J J Ad ?_
  refine Mh (fun hb=>?_) (fun hb=>?_)
  ·refine Ii (tj:=73) (b:=true) J J (congrArg AV.bool hb) J J<|Ii (tj:=73) (b:=true) J J (congrArg AV.bool hb) J J<|Ii (tj:=73) (b:=true) J J (congrArg AV.bool hb) J J<|Ii (tj:=73) (b:=true) J J (congrArg AV.bool hb) J J<|Af (.bool true) J J (Et (t:=true) (congrArg AV.bool hb) J)<|Af (.q ids 0 g) J J (Br J)<|Af (.ptr (ix ids 0) g 0 1) J J (Cb (B3 (c:=0) (off:=1) (i:=1) Ye J Q3 J)) ?_
   refine D7 J (fun _ _=>J) (fun K hK=>Co (Aq (v:=(.bool true)) hI J J J J Q3 J J J J J) (hK _ _ (Ae J (Ae J (Ae J (Ae J (Ae J (Ae J (Ae J (Ae J (Ae J (Ae J (Ae J (Ae J (Ae J Bp))))))))))))) ?_))
   clear hK K
   refine Ck<|Aj ?_
   refine Bi<|Eb [(some (.rows g 2 [[v10,(.bool true)]])),(Ah v10 g14 4 (List.map Ac r8)),(some (.rows g2 1 [[(.q ids 0 g)]])),none,(some (.rows g4 8 [[(.I b.Kind),(.str b.C),(.str b.A),(.I 0),(.I 0),(.I b.N),(.I b.Hours.From),(.I b.Hours.To)]])),(some (.rows g5 8 [[(.I b.Kind),(.str b.C),(.str []),(.I 0),(.I 0),(.I b.N),(.I 0),(.I 0)]]))] hI J (.keep (.keep (.keep (.drop (.keep (.keep .nil))))))<|Bo (hJ (true,r8,({ Kind:=b.Kind,C:=b.C,A:=[],Class:=0,Airport:=0,N:=b.N,Hours:=({ From:=0,To:=0 }:Span) }:Rule)) _ _ ⟨v10,g14,vH9,J,J⟩)
  refine G3 (tj:=73) (.ptr (ix ids 3) g3 0 5) J J (congrArg AV.bool hb) J (Cb (B3 (c:=0) (off:=5) (i:=5) D3 J C2 J))<|G3 (tj:=73) (.I b.N) J J (congrArg AV.bool hb) J (Au (A3 hI J J J C2 J))<|G3 (tj:=73) (.I (Int.tmod b.N 10)) J J (congrArg AV.bool hb) J (Bh J J (Ad0 J (by decide)))<|G3 (tj:=73) (.bool ((Int.tmod b.N 10) != 0)) J J (congrArg AV.bool hb) J (Bh J J J)<|Af (.bool ((Int.tmod b.N 10) != 0)) J J (Et (t:=false) (congrArg AV.bool hb) J)<|Af (.q ids 0 g) J J (Br J)<|Af (.ptr (ix ids 0) g 0 1) J J (Cb (B3 (c:=0) (off:=1) (i:=1) Ye J Q3 J)) ?_
  refine D7 J (fun _ _=>J) (fun K hK=>Co (Aq (v:=(.bool ((Int.tmod b.N 10) != 0))) hI J J J J Q3 J J J J J) (hK _ _ (Ae J (Ae J (Ae J (Ae J (Ae J (Ae J (Ae J (Ae J (Ae J (Ae J (Ae J (Ae J (Ae J Bp))))))))))))) ?_))
  clear hK K
  refine Ck<|Aj ?_
  refine Bi<|Eb [(some (.rows g 2 [[v10,(.bool ((Int.tmod b.N 10) != 0))]])),(Ah v10 g14 4 (List.map Ac r8)),(some (.rows g2 1 [[(.q ids 0 g)]])),none,(some (.rows g4 8 [[(.I b.Kind),(.str b.C),(.str b.A),(.I 0),(.I 0),(.I b.N),(.I b.Hours.From),(.I b.Hours.To)]])),(some (.rows g5 8 [[(.I b.Kind),(.str b.C),(.str []),(.I 0),(.I 0),(.I b.N),(.I 0),(.I 0)]]))] hI J (.keep (.keep (.keep (.drop (.keep (.keep .nil))))))<|Bo (hJ (((Int.tmod b.N 10) != 0),r8,({ Kind:=b.Kind,C:=b.C,A:=[],Class:=0,Airport:=0,N:=b.N,Hours:=({ From:=0,To:=0 }:Span) }:Rule)) _ _ ⟨v10,g14,vH9,J,J⟩)
 refine O<|Ab 3 [2] [(20,(.ptr (ix ids 0) g 0 1))] ?_
 refine An (Aq (v:=(.bool true)) hI J J J J Q3 J J J J J)<|Z<|Aj ?_
 refine Bi<|Eb [(some (.rows g 2 [[v1,(.bool true)]])),(Ah v1 g1 4 (List.map Ac l)),(some (.rows g2 1 [[(.q ids 0 g)]])),none,(some (.rows g4 8 [[(.I b.Kind),(.str b.C),(.str b.A),(.I 0),(.I 0),(.I b.N),(.I b.Hours.From),(.I b.Hours.To)]])),(some (.rows g5 8 [[(.I b.Kind),(.str b.C),(.str []),(.I 0),(.I 0),(.I 0),(.I 0),(.I 0)]]))] hI J (.keep (.keep (.keep (.drop (.keep (.keep .nil))))))<|Bo (hJ (true,l,({ Kind:=b.Kind,C:=b.C,A:=[],Class:=0,Airport:=0,N:=0,Hours:=({ From:=0,To:=0 }:Span) }:Rule)) _ _ ⟨v1,g1,vH,J,J⟩)
theorem U6 (text:Ay)(l:List Rule)(most:Int)(s0_bad:Bool)(l1:List Token)(h0:Ag)(o0:Nat)(o1:Nat)(g:Nat)(v1:AV)(g1:Nat)(vH:Av v1 o1 g1 l1.length)(hI0:Ids h0 [o0,o1] 2):K4 text l most s0_bad l1≠.bad→Bq Tryz.prog 50 [(.ptr o0 g 0 0),(.str text),(.sl 8 (List.map Bc l)),(.int .i64 most),(.func (.func 51) [(.ptr o0 g 0 0)] [])] (hp h0 [o0,o1] [some (.rows g 2 [[v1,(.bool s0_bad)]]),Ah v1 g1 4 (List.map Ac l1)]) (C5 (fun a_ v h' => ∃ (v7:AV),∃ (g8:Nat),Av v7 o1 g8 a_.2.length∧v=(.tup [])∧h'=hp h0 [o0,o1] [some (.rows g 2 [[v7,(.bool a_.1)]]),Ah v7 g8 4 (List.map Ac a_.2)]) h0 (K4 text l most s0_bad l1)):=by
 refine Bm (n:=44) 1 Tryz.func50 J (by decide) J J hI0 J fun ids he hI=>?_
 clear hI0
 obtain rfl:ix ids 0=o0:=he 0 rfl
 obtain rfl:ix ids 1=o1:=he 1 rfl
 clear he
 refine Bn (Al (K4.eq_1 _ _ _ _ _) ?_)
 refine Aj ?_
 refine Y<|O<|Ab 6 [0] [(17,(.bool s0_bad)),(12,(.q ids 0 g))] ?_
 refine B2 5 [(0,(.q ids 0 g)),(1,(.str text)),(2,(.sl 8 (List.map Bc l))),(4,(.func (.func 51) [(.q ids 0 g)] [])),(12,(.q ids 0 g)),(22,(.bool (s0_bad||(decide ((l.length:Int) > most)))))] ?_ fun hJ=>Bw s0_bad (fun hb1=>?_) (fun hb1=>?_)
 ·refine Ab 2 [] [(24,(.ptr (ix ids 0) g 0 1))] ?_
  refine An (Aq (v:=(.bool (s0_bad||(decide ((l.length:Int) > most))))) hI J J J J Q3 J J J J J)<|Z<|Aj ?_
  refine Y<|O<|Aa (.sl 8 (List.map Bc l)) J Ad<|Aa (.I (l.length:Int)) J (A2 (Bk Fg))<|Aa (.I 0) J Ad<|Z<|Ba ?_
  refine D6 [(0,(.q ids 0 g)),(1,(.str text)),(4,(.func (.func 51) [(.q ids 0 g)] [])),(25,(.sl 8 (List.map Bc l))),(26,(.I (l.length:Int))),(27,(.I 0))] (FI J)<|Ko (P:=Tryz.prog) l (fun _ a=>C4 fun fBad l2=>Jr text a fBad l2) (((C4 fun fBad l2=>.ok (fBad,l2))):(Bool×(List Token))→R (Bool×(List Token))) (fun j=>C4 fun fBad l2=>fun(fr:Nat→AV) (h:Ag) => ∃ (v2:AV),∃ (g2:Nat),Av v2 (ix ids 1) g2 l2.length∧fr=A5 [(0,(.q ids 0 g)),(1,(.str text)),(4,(.func (.func 51) [(.q ids 0 g)] [])),(25,(.sl 8 (List.map Bc l))),(26,(.I (l.length:Int))),(27,(.I (j:Int)))]∧h=hp h0 ids [(some (.rows g 2 [[v2,(.bool fBad)]])),(Ah v2 g2 4 (List.map Ac l2)),none]) ((s0_bad||(decide ((l.length:Int) > most))),l1) ?_ ?_ ?_
  ·exact⟨v1,g1,vH,J,J⟩
  ·rintro j a ha W hW ⟨fBad,l2⟩ fr h ⟨v2,g2,vH1,rfl,rfl⟩
   refine Al (m':=Jr text a fBad l2) J (Al (Jr.eq_1 _ _ _ _) ?_)
   refine Y<|O<|Aa (.bool (decide ((j:Int)<(l.length:Int)))) J (Bh J J J)<|Z<|Y<|Ev (t:=25) (L:=l) J fun hlim=>Dg J (Int.ofNat_lt.2 (Bg ha)) ?_
   refine Ax<|Y<|Ba<|Y<|O<|Aa (.cp (Bc a) 0) J (Bz (Ea Fg D3 J ha))<|Aa (.agg (Bc a)) J (Au (C7 D3 J)) ?_
   refine A8 (j:=2) hI J J J J D3 J fun g3=>An (Aq (v:=(.agg (Bc a))) hI J J J J D3 J J J J J)<|Z<|Aj ?_
   refine Y<|Y<|O<|Ab 2 [] [(32,(.bool (!(text==[]))))] ?_
   refine Z<|Dx (C4 fun fBad1 l3=>Jo a fBad1 l3) (C4 fun fBad1 l3=>fun(fr:Nat→AV) (h:Ag) => ∃ (v4:AV),∃ (g5:Nat),Av v4 (ix ids 1) g5 l3.length∧fr=A5 [(0,(.q ids 0 g)),(1,(.str text)),(4,(.func (.func 51) [(.q ids 0 g)] [])),(11,(.q ids 2 g3)),(25,(.sl 8 (List.map Bc l))),(26,(.I (l.length:Int))),(27,(.I (j:Int)))]∧h=hp h0 ids [(some (.rows g 2 [[v4,(.bool fBad1)]])),(Ah v4 g5 4 (List.map Ac l3)),(some (.rows g3 8 [(Bc a)]))]) ?_ fun hJ1=>?_
   ·rintro⟨fBad1,l3⟩ fr h ⟨v4,g5,vH3,rfl,rfl⟩
    refine Al (Jo.eq_1 _ _ _)<|Y<|O<|Ab 2 [2] [(38,(.agg (Bc a))),(37,(.func (.func 51) [(.q ids 0 g)] []))] ?_
    refine Ap [0,1] hI J J (Xo a fBad1 l3 _ (ix ids 0) (ix ids 1) g v4 g5 vH3 (by exact hI.sub' J J)) J J J J J J (fun v _=>Ao (K:=2) (N:=1) Tryz.func50 hI) ?_
    rintro r1 _ _ _ ⟨v5,g6,vH4,rfl,rfl⟩
    refine A0 [0,1] hI J J J ?_
    refine Ar<|Z<|Aj ?_
    refine O<|Aa (.q ids 0 g) J Ad<|C3 (e:=rS) (L:=[[59]]) (st:=1) (rows:=[[(.str [59])]]) J D0 Cf J J J J J (.cons (RowSim.refl _) .nil) (fun x=>Gp x) J J<|Ap [0,1] hI J J (Dr [[59]] r1.1 r1.2 _ (ix ids 0) (ix ids 1) g v5 g6 vH4 (by exact hI.sub' J J)) J J J J J J (fun v _=>Ao (K:=2) (N:=1) Tryz.func50 hI) ?_
    rintro r2 _ _ _ ⟨v6,g7,vH5,rfl,rfl⟩
    refine A0 [0,1] hI J J J ?_
    refine Ar<|Z<|Aj ?_
    refine Bi<|O<|Ab 2 [] [(27,(.I (IntKind.wrap .i64 ((j:Int)+1))))] ?_
    refine Z<|Eb [(some (.rows g 2 [[v6,(.bool r2.1)]])),(Ah v6 g7 4 (List.map Ac r2.2)),none] hI J (.keep (.keep (.drop .nil)))<|Bo (Um (hW (r2.1,r2.2) _ _ ⟨v6,g7,vH5,J,J⟩)) (.cons J (.cons J (.cons J (.cons J (.cons J (.cons (Eg (Bg ha) hlim) .nil))))))
   refine D2 J (fun hc=>?_) (fun hc=>?_)
   ·refine Ax<|Bo (hJ1 (fBad,l2) _ _ ⟨v2,g2,vH1,J,J⟩)
   refine O<|Ab 2 [] [(34,(.str text)),(33,(.q ids 0 g))] ?_
   refine C3 (e:=rS) (L:=[text]) (st:=1) (rows:=[[(.str text)]]) J D0 Cf J J J J J (.cons (RowSim.refl _) .nil) (fun x=>Gp x) J J<|Ap [0,1] hI J J (B6 [text] fBad l2 _ (ix ids 0) (ix ids 1) g v2 g2 vH1 (by exact hI.sub' J J)) J J J J J J (fun v _=>Ao (K:=2) (N:=1) Tryz.func50 hI) ?_
   rintro r _ _ _ ⟨v3,g4,vH2,rfl,rfl⟩
   refine A0 [0,1] hI J J J ?_
   refine Ar<|Z<|Aj ?_
   exact Bo (hJ1 (r.1,r.2) _ _ ⟨v3,g4,vH2,J,J⟩)
  rintro⟨fBad,l2⟩ fr h ⟨v2,g2,vH1,rfl,rfl⟩
  refine Al (Py _ _ _)<|Y<|O<|Aa (.bool (decide ((l.length:Int)<(l.length:Int)))) J (Bh J J J)<|Z<|Y<|Df J (Int.lt_irrefl _) ?_
  refine Cy J<|Ci (K:=2) (N:=1) (a:=(fBad,l2)) (vs:=[]) [some (.rows g 2 [[v2,(.bool fBad)]]),Ah v2 g2 4 (List.map Ac l2)] Tryz.func50 hI J J J (.keep (.keep (.keep .nil))) (.same _) ⟨v2,g2,vH1,J,J⟩
 ·refine Az (t:=17) hb1 J<|Ab 5 [] [(22,(.bool true))] ?_
  exact Bf hJ (.cons J (.cons J (.cons J (.cons J (.cons J (.cons (E6 hb1) .nil))))))
 refine Az (t:=17) hb1 J<|By (tj:=17) (.sl 8 (List.map Bc l)) J J J Ad<|By (tj:=17) (.I (l.length:Int)) J J J (A2 (Bk Fg))<|Ab 3 [] [(22,(.bool (decide ((l.length:Int) > most))))] ?_
 exact Bf hJ (.cons J (.cons J (.cons J (.cons J (.cons J (.cons (E5 hb1) .nil))))))
theorem Acu (l:List Ay)(sep:Ay):CP Tryz.prog 61 [.sl 1 (l.map rS),.str sep] (strings_Join l sep) (fun x=>AV.str x):=
 Agf (.mk Tryz.func61 rfl (by decide)) (fun p h=>by unfold strings_Join at h; split at h <;> cases h) fun a ha B mu h w cargs hs hl=>by
  obtain⟨c1,c2,rfl,h1,h2⟩:=Ah2 hl
  obtain rfl:=Adk h2
  unfold strings_Join at ha
  split at ha
  ·rename_i hn
   cases ha
   have key:l=[] ∨ ∃ bk o cap,c1=.slice (some ⟨bk,o,none⟩) l.length cap∧bk<w.heap.size∧l.length≤Db∧l.length≤cap ∧ ∀ j x,l[j]? = some x→w.cell? ⟨bk,o+j,none⟩=some (.string ⟨x.toArray⟩):=Ant h1
   rcases key with rfl | ⟨bk,o,cap,rfl,hb,hlim,hcap,hc⟩
   ·obtain⟨a,cap,rfl⟩:=Apd h1
    refine(Go.Proofs.Tryz.strings_Join_none a cap ⟨sep.toArray⟩ w).mono ?_
    rintro e w' ⟨rfl,rfl⟩
    exact⟨Go.RowKit.Below.refl _ _,_,J,.str _⟩
   ·have em:(l.map fun x=>(⟨x.toArray⟩:ByteArray)).map (·.data.toList)=l:=by simp [Function.comp_def]
    have:=Go.Proofs.Tryz.strings_Join bk o cap (l.map fun x=>⟨x.toArray⟩) ⟨sep.toArray⟩ w (fun j x hx=>by
     rw [List.getElem?_map] at hx
     cases hq:l[j]? with
     | none=>rw [hq] at hx; cases hx
     | some y=>rw [hq] at hx; cases hx; exact hc j y hq) hb (by rw [List.length_map]; exact hlim) (by simpa using hcap) (by rw [em]; exact hn)
    rw [em,List.length_map] at this
    refine this.mono ?_
    rintro e w' ⟨rfl,hbel⟩
    exact⟨hbel,_,J,.str _⟩
  ·cases ha
theorem Ahr (l:List Token):CP Tryz.prog 17 [(.sl 4 (List.map Ac l))] (Ab9 l) (fun(p:(Ay×Int))=>AV.tup [(.str p.1),(.int .i64 p.2)]):=by
 refine Cd (n:=39) 2 Tryz.func17 J (by decide) J J fun h0 ids hI=>Bn (Al (Ab9.eq_1 _) ?_)
 refine Y<|O<|Ab 2 [] [] ?_
 refine Z<|Y<|O<|Aa (.sl 4 (List.map Ac l)) J Ad<|Aa (.I (l.length:Int)) J (A2 (Bk Ch))<|Ee fun hl=>Aoe (y:=([]:Ay)) (e:=rS) (st:=1) (j:=0) hI J J J J D0 Cf J J hl.1 hl.2.1 hl.2.2 J J J J J fun v g vH=>?_
 refine Aa v J Ai<|Z<|Aj ?_
 refine Y<|Y<|O<|Aa (.sl 4 (List.map Ac l)) J Ad<|Aa (.I (l.length:Int)) J (A2 (Bk Ch))<|Aa (.I 0) J Ad<|Z ?_
 refine Ba<|D6 [(4,v),(10,(.sl 4 (List.map Ac l))),(11,(.I (l.length:Int))),(12,(.I 0))] (FI J)<|Eo (P:=Tryz.prog) l (fun j a=>fun words=>Uv j a words) ((Dz (fun words=>(strings_Join words [32]).bind fun src=>.ok (src,0)) (fun r=>.ok r)):((List Ay) ⊕ (Ay×Int))→R (Ay×Int)) (fun j=>fun words=>fun(fr:Nat→AV) (h:Ag) => ∃ (v1:AV),∃ (g1:Nat),Av v1 (ix ids 0) g1 words.length∧fr=A5 [(4,v1),(10,(.sl 4 (List.map Ac l))),(11,(.I (l.length:Int))),(12,(.I (j:Int)))]∧h=hp h0 ids [(Ah v1 g1 1 (List.map rS words)),none]) (List.replicate (Int.toNat (l.length:Int)) []) ?_ ?_ ?_
 ·exact⟨v,g,vH,J,J⟩
 ·rintro j a ha W hW words fr h ⟨v1,g1,vH1,rfl,rfl⟩
  refine Al (m':=Uv j a words) J (Al (Uv.eq_1 _ _ _) ?_)
  refine Y<|O<|Aa (.bool (decide ((j:Int)<(l.length:Int)))) J (Bh J J J)<|Z<|Y<|Ev (t:=10) (L:=l) J fun hlim=>Dg J (Int.ofNat_lt.2 (Bg ha)) ?_
  refine Ax<|Y<|Ba<|Y<|O<|Aa (.I (j:Int)) J Ad<|Aa (.cp (Ac a) 0) J (Bz (Ea Ch C1 J ha)) ?_
  refine Aa (.agg (Ac a)) J (Au (C7 C1 J))<|A8 (j:=1) hI J J J J C1 J fun g2=>Aa (.I (j:Int)) J Ai<|An (Aq (v:=(.agg (Ac a))) hI J J J J C1 J J J J J)<|Z<|Aj ?_
  refine Ba<|Y<|O<|Ab 1 [1] [(23,(.agg (Ac a)))] ?_
  refine A7 [(.agg (Ac a))] J J J J ((Aa5 a) _) (fun v _=>B0 Tryz.func17 hI) fun r _=>Ab 2 [] [(22,(.bool (!r)))] ?_
  refine Z<|D2 J (fun hc=>?_) (fun hc=>?_)
  ·refine Y<|O<|Ab 4 [1] [(26,(.bool (a.Kind==2)))] ?_
   refine Z<|Bx J (fun hc1=>?_) (fun hc1=>?_)
   ·refine O<|Ab 4 [1] [(33,(.I a.N)),(31,(.I (j:Int))),(30,v1)] ?_
    refine A7 [(.I a.N)] J J J J ((X5 a.N) _) (fun v _=>B0 Tryz.func17 hI) fun r1 _=>Dv fun a1 hz hx1=>Aa (.ptr (ix ids 0) g1 (j:Int).toNat 0) J (Bz (Aic hI J vH1 J D0 Cf J hz hx1))<|An (Ajx (y:=r1) hI J J vH1 J hx1 Cf J J J J J J) ?_
    have vH2:=Av.set (i:=(j:Int).toNat) (y:=r1) vH1
    have hx2:=List.getElem?_set_self (a:=r1) (Bg hx1)
    refine Z<|Aj ?_
    refine Bi<|Bi<|O<|Ab 2 [] [(12,(.I (IntKind.wrap .i64 ((j:Int)+1))))] ?_
    refine Z<|Eb [(Ah v1 g1 1 (List.map rS (words.set (j:Int).toNat r1))),none] hI J (.keep (.drop .nil))<|Bo (E8 (hW (words.set (j:Int).toNat r1) _ _ ⟨v1,g1,vH2,J,J⟩)) (.cons J (.cons J (.cons J (.cons (Eg (Bg ha) hlim) .nil))))
   refine O<|Ab 4 [1] [(20,(.str a.Text)),(18,(.I (j:Int))),(17,v1)] ?_
   refine Dv fun a2 hz1 hx3=>Aa (.ptr (ix ids 0) g1 (j:Int).toNat 0) J (Bz (Aic hI J vH1 J D0 Cf J hz1 hx3))<|An (Ajx (y:=a.Text) hI J J vH1 J hx3 Cf J J J J J J) ?_
   have vH3:=Av.set (i:=(j:Int).toNat) (y:=a.Text) vH1
   have hx4:=List.getElem?_set_self (a:=a.Text) (Bg hx3)
   refine Z<|Aj ?_
   refine Bi<|Bi<|O<|Ab 2 [] [(12,(.I (IntKind.wrap .i64 ((j:Int)+1))))] ?_
   refine Z<|Eb [(Ah v1 g1 1 (List.map rS (words.set (j:Int).toNat a.Text))),none] hI J (.keep (.drop .nil))<|Bo (E8 (hW (words.set (j:Int).toNat a.Text) _ _ ⟨v1,g1,vH3,J,J⟩)) (.cons J (.cons J (.cons J (.cons (Eg (Bg ha) hlim) .nil))))
  refine Y<|O<|Ab 2 [] [(3,(.I 70)),(2,(.str []))] ?_
  refine Z<|E7<|Fh<|Bl (a:=([],70)) (vs:=[(.str []),(.I 70)]) Tryz.func17 hI J (.tupL (.cons (.same _) (.cons (.same _) .nil)))
 rintro words fr h ⟨v1,g1,vH1,rfl,rfl⟩
 refine Al (Fb _ _ _)<|Y<|O<|Aa (.bool (decide ((l.length:Int)<(l.length:Int)))) J (Bh J J J)<|Z<|Y<|Df J (Int.lt_irrefl _) ?_
 refine Cy J<|Y<|O<|Aa v1 J Ad<|A7 [v1,(.str [32])] J J J J (CP.lend (Acu words [32]) (LF.lfz (.cons (D9 vH1 (hI.at J J) J (fun x=>Gp x)) (.cons (.same _) .nil))) (fun _ _=>(.str _))) (fun v _=>B0 Tryz.func17 hI) fun src _=>Ab 2 [] [(3,(.I 0)),(2,(.str src))] ?_
 refine Z<|Bl (a:=(src,0)) (vs:=[(.str src),(.I 0)]) Tryz.func17 hI J (.tupL (.cons (.same _) (.cons (.same _) .nil)))
theorem Th (a:Airspace):CP Tryz.prog 14 [(.agg (A6 a))] (Rr a) (fun(p:(Ay×Int))=>AV.tup [(.str p.1),(.int .i64 p.2)]):=by
 refine Cd (n:=59) 4 Tryz.func14 J (by decide) J J fun h0 ids hI=>Bn (Al (Rr.eq_1 _) ?_)
 refine Y<|O<|Cl (v:=(.agg (A6 a))) (j:=0) hI J J J J J J J fun g=>Ab 2 [] [] ?_
 refine Z<|Aj ?_
 refine Y<|O<|Aa (.agg [.emp,(.bool false)]) J (Hy (Oq Ye Aqp J))<|Cl (v:=(.agg [.emp,(.bool false)])) (j:=1) hI J J J J J J J fun g1=>A8 (j:=2) hI J J J J Adv J fun g2=>An (Aq (v:=(.q ids 1 g1)) hI J J J J Adv J J J J J)<|Z ?_
 refine Aj ?_
 refine Y<|O<|Ab 4 [2,0] [(10,(.func (.func 29) [] [(.q ids 2 g2)])),(9,(.sl 2 (List.map Aw a.Volumes))),(7,(.q ids 1 g1))] ?_
 refine Ap [1,2,3] hI J J (Va [118,111,108,117,109,101] a.Volumes 64 false _ (ix ids 1) (ix ids 2) (ix ids 3) g1 g2 (by exact hI.sub' J J)) J J J J J J (fun v _=>B0 Tryz.func14 hI) ?_
 rintro r _ _ _ ⟨v,g3,vH,rfl,rfl⟩
 refine A0 [1,2,3] hI J J J ?_
 refine Ar<|Z<|Aj ?_
 refine Y<|O<|Ab 4 [2,0] [(15,(.func (.func 33) [] [(.q ids 2 g2)])),(14,(.sl 5 (List.map A9 a.Sectors))),(12,(.q ids 1 g1))] ?_
 refine Ap [1,3,2] hI J J (Ux [115,101,99,116,111,114] a.Sectors 64 r.1 r.2 _ (ix ids 1) (ix ids 3) (ix ids 2) g1 v g3 g2 vH (by exact hI.sub' J J)) J J J J J J (fun v _=>B0 Tryz.func14 hI) ?_
 rintro r1 _ _ _ ⟨v1,g4,vH1,rfl,rfl⟩
 refine A0 [1,3,2] hI J J J ?_
 refine Ar<|Z<|Aj ?_
 refine Y<|O<|Ab 4 [2,0] [(20,(.func (.func 39) [] [(.q ids 2 g2)])),(19,(.sl 3 (List.map Bj a.Configs))),(17,(.q ids 1 g1))] ?_
 refine Ap [1,3,2] hI J J (U7 [99,111,110,102,105,103] a.Configs 32 r1.1 r1.2 _ (ix ids 1) (ix ids 3) (ix ids 2) g1 v1 g4 g2 vH1 (by exact hI.sub' J J)) J J J J J J (fun v _=>B0 Tryz.func14 hI) ?_
 rintro r2 _ _ _ ⟨v2,g5,vH2,rfl,rfl⟩
 refine A0 [1,3,2] hI J J J ?_
 refine Ar<|Z<|Aj ?_
 refine Y<|O<|Ab 4 [2,0] [(25,(.func (.func 41) [] [(.q ids 2 g2)])),(24,(.sl 5 (List.map Be a.Segments))),(22,(.q ids 1 g1))] ?_
 refine Ap [1,3,2] hI J J (Uh [115,101,103,109,101,110,116] a.Segments 128 r2.1 r2.2 _ (ix ids 1) (ix ids 3) (ix ids 2) g1 v2 g5 g2 vH2 (by exact hI.sub' J J)) J J J J J J (fun v _=>B0 Tryz.func14 hI) ?_
 rintro r3 _ _ _ ⟨v3,g6,vH3,rfl,rfl⟩
 refine A0 [1,3,2] hI J J J ?_
 refine Ar<|Z<|Aj ?_
 refine Y<|O<|Ab 4 [2,0] [(30,(.func (.func 43) [] [(.q ids 2 g2)])),(29,(.sl 7 (List.map Bu a.Routes))),(27,(.q ids 1 g1))] ?_
 refine Ap [1,3,2] hI J J (Vt [114,111,117,116,101] a.Routes 64 r3.1 r3.2 _ (ix ids 1) (ix ids 3) (ix ids 2) g1 v3 g6 g2 vH3 (by exact hI.sub' J J)) J J J J J J (fun v _=>B0 Tryz.func14 hI) ?_
 rintro r4 _ _ _ ⟨v4,g7,vH4,rfl,rfl⟩
 refine A0 [1,3,2] hI J J J ?_
 refine Ar<|Z<|Aj ?_
 refine Y<|O<|Ab 4 [2,0] [(35,(.func (.func 45) [] [(.q ids 2 g2)])),(34,(.sl 2 (List.map Bb a.Airports))),(32,(.q ids 1 g1))] ?_
 refine Ap [1,3,2] hI J J (Uo [97,105,114,112,111,114,116] a.Airports 16 r4.1 r4.2 _ (ix ids 1) (ix ids 3) (ix ids 2) g1 v4 g7 g2 vH4 (by exact hI.sub' J J)) J J J J J J (fun v _=>B0 Tryz.func14 hI) ?_
 rintro r5 _ _ _ ⟨v5,g8,vH5,rfl,rfl⟩
 refine A0 [1,3,2] hI J J J ?_
 refine Ar<|Z<|Aj ?_
 refine Y<|O<|Ab 4 [2,0] [(40,(.func (.func 49) [] [(.q ids 2 g2)])),(39,(.sl 4 (List.map B4 a.Classes))),(37,(.q ids 1 g1))] ?_
 refine Ap [1,3,2] hI J J (Wa [99,108,97,115,115] a.Classes 8 r5.1 r5.2 _ (ix ids 1) (ix ids 3) (ix ids 2) g1 v5 g8 g2 vH5 (by exact hI.sub' J J)) J J J J J J (fun v _=>B0 Tryz.func14 hI) ?_
 rintro r6 _ _ _ ⟨v6,g9,vH6,rfl,rfl⟩
 refine A0 [1,3,2] hI J J J ?_
 refine Ar<|Z<|Aj ?_
 refine Y<|O<|Ab 5 [2,0,2] [(46,(.func (.func 51) [(.q ids 1 g1)] [])),(44,(.sl 8 (List.map Bc a.Rules))),(42,(.q ids 1 g1))] ?_
 refine Ap [1,3] hI J J (U6 [] a.Rules 64 r6.1 r6.2 _ (ix ids 1) (ix ids 3) g1 v6 g9 vH6 (by exact hI.sub' J J)) J J J J J J (fun v _=>B0 Tryz.func14 hI) ?_
 rintro r7 _ _ _ ⟨v7,g10,vH7,rfl,rfl⟩
 refine A0 [1,3] hI J J J ?_
 refine Ar<|Z<|Aj ?_
 refine Y<|Y<|O<|Ab 4 [2,1] [(51,(.bool r7.1))] ?_
 refine Z<|Bx J (fun hc=>?_) (fun hc=>?_)
 ·refine Y<|O<|Ab 2 [] [(3,(.I 80)),(2,(.str []))] ?_
  refine Z<|Bl (a:=([],80)) (vs:=[(.str []),(.I 80)]) Tryz.func14 hI J (.tupL (.cons (.same _) (.cons (.same _) .nil)))
 refine Ax<|Y<|O<|Ab 4 [2,1] [(55,v7)] ?_
 refine A7 [v7] J J J J (CP.lend (Ahr r7.2) (LF.lfz (.cons (D9 vH7 (hI.at J J) J (fun x=>Mq x)) .nil)) (fun _ _=>(.tup2 (.str _) (.int _ _)))) (fun v _=>B0 Tryz.func14 hI) fun r8 _=>Ab 4 [] [(3,(.I r8.2)),(2,(.str r8.1))] ?_
 refine Z<|Bl (a:=(r8.1,r8.2)) (vs:=[(.str r8.1),(.I r8.2)]) Tryz.func14 hI J (.tupL (.cons (.same _) (.cons (.same _) .nil)))
theorem Vf (a:List Span)(b:List Span):CP Tryz.prog 24 [(.sl 2 (List.map B7 a)),(.sl 2 (List.map B7 b))] (Nm a b) (fun(x:Bool)=>(AV.bool x)):=by
 refine Cd (n:=26) 0 Tryz.func24 J (by decide) J J fun h0 ids hI=>Bn (Al (Nm.eq_1 _ _) ?_)
 refine Y<|O<|Aa (.bool false) J Ai<|Z<|Y<|Y<|O ?_
 refine Aa (.sl 2 (List.map B7 a)) J Ad<|Aa (.I (a.length:Int)) J (A2 (Bk Ki))<|Aa (.sl 2 (List.map B7 b)) J Ad<|Aa (.I (b.length:Int)) J (A2 (Bk Ki))<|Aa (.bool ((a.length:Int) != (b.length:Int))) J (Bh J J J)<|Z<|Bx J (fun hc=>?_) (fun hc=>?_)
 ·refine Y<|O<|Aa (.bool false) J Ai<|Z<|Bl (a:=false) (vs:=[(.bool false)]) Tryz.func24 hI J (.same _)
 refine Ax<|Y<|Y<|O<|Aa (.I 0) J Ai<|Z<|Ba ?_
 refine D6 [(0,(.sl 2 (List.map B7 a))),(1,(.sl 2 (List.map B7 b))),(5,(.I 0))] (FI J)<|Eo (P:=Tryz.prog) a (fun j a1=>fun _=>Nd b j a1) ((Dz (fun _=>.ok true) (fun r=>.ok r)):(Unit ⊕ Bool)→R Bool) (fun j=>fun _=>fun(fr:Nat→AV) (h:Ag)=>fr=A5 [(0,(.sl 2 (List.map B7 a))),(1,(.sl 2 (List.map B7 b))),(5,(.I (j:Int)))]∧h=hp h0 ids []) () ?_ ?_ ?_
 ·exact⟨J,J⟩
 ·rintro j a1 ha1 W hW _ fr h ⟨rfl,rfl⟩
  refine Al (m':=Nd b j a1) J (Al (Nd.eq_1 _ _ _) ?_)
  refine Y<|Y<|O<|Ab 2 [] [(12,(.sl 2 (List.map B7 a))),(11,(.I (j:Int)))] ?_
  refine Aa (.I (a.length:Int)) J (A2 (Bk Ki))<|Aa (.bool (decide ((j:Int)<(a.length:Int)))) J (Bh J J J)<|Z<|Ev (t:=0) (L:=a) J fun hlim=>Dg J (Int.ofNat_lt.2 (Bg ha1))<|Ax<|Y ?_
  refine Ba<|Y<|Ct Es [[],[],[0,1],[0,1,2],[],[],[4,5],[4,5,6],[0,1,2,3,4,5,6,7]] [(false,0),(false,1),(false,2),(false,3),(false,4),(false,5),(false,6),(false,7),(false,8)] (by kernel_rfl)<|Af (.sl 2 (List.map B7 a)) J J Ad<|Af (.I (j:Int)) J J Ad<|Af (.cp (B7 a1) 0) J J (Bz (Ea Ki Hz J ha1))<|Af (.agg (B7 a1)) J J (Au (C7 Hz J)) ?_
  refine Af (.sl 2 (List.map B7 b)) J J Ad<|Af (.I (j:Int)) J J Ad<|Ny fun a2 hz hx1=>Af (.cp (B7 a2) 0) J J (Bz (Dc Ki Hz J hz hx1))<|Af (.agg (B7 a2)) J J (Au (C7 Hz J))<|Af (.bool (!((a1.From==a2.From)&&(a1.To==a2.To)))) J J (Bh (Ak0 J J) J Akm)<|Ck ?_
  refine D2 J (fun hc1=>?_) (fun hc1=>?_)
  ·refine Ax<|Bi<|O<|Ab 3 [] [(5,(.I (IntKind.wrap .i64 ((j:Int)+1))))] ?_
   refine Z<|Bo (E8 (hW () _ _ ⟨J,J⟩)) (.cons J (.cons J (.cons (Eg (Bg ha1) hlim) .nil)))
  refine Y<|O<|Aa (.bool false) J Ai<|Z<|E7<|Fh<|Bl (a:=false) (vs:=[(.bool false)]) Tryz.func24 hI J (.same _)
 rintro _ fr h ⟨rfl,rfl⟩
 refine Al (Fb _ _ _)<|Y<|Y<|O<|Ab 2 [] [(12,(.sl 2 (List.map B7 a))),(11,(.I (a.length:Int)))] ?_
 refine Aa (.I (a.length:Int)) J (A2 (Bk Ki))<|Aa (.bool (decide ((a.length:Int)<(a.length:Int)))) J (Bh J J J)<|Z<|Df J (Int.lt_irrefl _)<|Cy J<|Y<|O ?_
 refine Aa (.bool true) J Ai<|Z<|Bl (a:=true) (vs:=[(.bool true)]) Tryz.func24 hI J (.same _)
theorem Rj (a:List Ay)(b:List Ay):CP Tryz.prog 25 [(.sl 1 (List.map rS a)),(.sl 1 (List.map rS b))] (Lp a b) (fun(x:Bool)=>(AV.bool x)):=by
 refine Cd (n:=26) 0 Tryz.func25 J (by decide) J J fun h0 ids hI=>Bn (Al (Lp.eq_1 _ _) ?_)
 refine Y<|O<|Aa (.bool false) J Ai<|Z<|Y<|Y<|O ?_
 refine Aa (.sl 1 (List.map rS a)) J Ad<|Aa (.I (a.length:Int)) J (A2 (Bk D0))<|Aa (.sl 1 (List.map rS b)) J Ad<|Aa (.I (b.length:Int)) J (A2 (Bk D0))<|Aa (.bool ((a.length:Int) != (b.length:Int))) J (Bh J J J)<|Z<|Bx J (fun hc=>?_) (fun hc=>?_)
 ·refine Y<|O<|Aa (.bool false) J Ai<|Z<|Bl (a:=false) (vs:=[(.bool false)]) Tryz.func25 hI J (.same _)
 refine Ax<|Y<|Y<|O<|Aa (.I 0) J Ai<|Z<|Ba ?_
 refine D6 [(0,(.sl 1 (List.map rS a))),(1,(.sl 1 (List.map rS b))),(5,(.I 0))] (FI J)<|Eo (P:=Tryz.prog) a (fun j a1=>fun _=>M6 b j a1) ((Dz (fun _=>.ok true) (fun r=>.ok r)):(Unit ⊕ Bool)→R Bool) (fun j=>fun _=>fun(fr:Nat→AV) (h:Ag)=>fr=A5 [(0,(.sl 1 (List.map rS a))),(1,(.sl 1 (List.map rS b))),(5,(.I (j:Int)))]∧h=hp h0 ids []) () ?_ ?_ ?_
 ·exact⟨J,J⟩
 ·rintro j a1 ha1 W hW _ fr h ⟨rfl,rfl⟩
  refine Al (m':=M6 b j a1) J (Al (M6.eq_1 _ _ _) ?_)
  refine Y<|Y<|O<|Ab 2 [] [(12,(.sl 1 (List.map rS a))),(11,(.I (j:Int)))] ?_
  refine Aa (.I (a.length:Int)) J (A2 (Bk D0))<|Aa (.bool (decide ((j:Int)<(a.length:Int)))) J (Bh J J J)<|Z<|Ev (t:=0) (L:=a) J fun hlim=>Dg J (Int.ofNat_lt.2 (Bg ha1))<|Ax<|Y ?_
  refine Ba<|Y<|Ct Es [[],[],[0,1],[0,1,2],[],[],[4,5],[4,5,6],[0,1,2,3,4,5,6,7]] [(false,0),(false,1),(false,2),(false,3),(false,4),(false,5),(false,6),(false,7),(false,8)] (by kernel_rfl)<|Af (.sl 1 (List.map rS a)) J J Ad<|Af (.I (j:Int)) J J Ad<|Af (.cp [(.str a1)] 0) J J (Bz (Ea D0 Cf J ha1))<|Af (.str a1) J J (Au (C7 Cf J)) ?_
  refine Af (.sl 1 (List.map rS b)) J J Ad<|Af (.I (j:Int)) J J Ad<|Ny fun a2 hz hx1=>Af (.cp [(.str a2)] 0) J J (Bz (Dc D0 Cf J hz hx1))<|Af (.str a2) J J (Au (C7 Cf J))<|Af (.bool (!(a1==a2))) J J (Bh J J J)<|Ck ?_
  refine D2 J (fun hc1=>?_) (fun hc1=>?_)
  ·refine Ax<|Bi<|O<|Ab 3 [] [(5,(.I (IntKind.wrap .i64 ((j:Int)+1))))] ?_
   refine Z<|Bo (E8 (hW () _ _ ⟨J,J⟩)) (.cons J (.cons J (.cons (Eg (Bg ha1) hlim) .nil)))
  refine Y<|O<|Aa (.bool false) J Ai<|Z<|E7<|Fh<|Bl (a:=false) (vs:=[(.bool false)]) Tryz.func25 hI J (.same _)
 rintro _ fr h ⟨rfl,rfl⟩
 refine Al (Fb _ _ _)<|Y<|Y<|O<|Ab 2 [] [(12,(.sl 1 (List.map rS a))),(11,(.I (a.length:Int)))] ?_
 refine Aa (.I (a.length:Int)) J (A2 (Bk D0))<|Aa (.bool (decide ((a.length:Int)<(a.length:Int)))) J (Bh J J J)<|Z<|Df J (Int.lt_irrefl _)<|Cy J<|Y<|O ?_
 refine Aa (.bool true) J Ai<|Z<|Bl (a:=true) (vs:=[(.bool true)]) Tryz.func25 hI J (.same _)
theorem Sf (a:List Int)(b:List Int):CP Tryz.prog 26 [(.sl 1 (List.map (rI .i64) a)),(.sl 1 (List.map (rI .i64) b))] (Ht a b) (fun(x:Bool)=>(AV.bool x)):=by
 refine Cd (n:=26) 0 Tryz.func26 J (by decide) J J fun h0 ids hI=>Bn (Al (Ht.eq_1 _ _) ?_)
 refine Y<|O<|Aa (.bool false) J Ai<|Z<|Y<|Y<|O ?_
 refine Aa (.sl 1 (List.map (rI .i64) a)) J Ad<|Aa (.I (a.length:Int)) J (A2 (Bk O9))<|Aa (.sl 1 (List.map (rI .i64) b)) J Ad<|Aa (.I (b.length:Int)) J (A2 (Bk O9))<|Aa (.bool ((a.length:Int) != (b.length:Int))) J (Bh J J J)<|Z<|Bx J (fun hc=>?_) (fun hc=>?_)
 ·refine Y<|O<|Aa (.bool false) J Ai<|Z<|Bl (a:=false) (vs:=[(.bool false)]) Tryz.func26 hI J (.same _)
 refine Ax<|Y<|Y<|O<|Aa (.I 0) J Ai<|Z<|Ba ?_
 refine D6 [(0,(.sl 1 (List.map (rI .i64) a))),(1,(.sl 1 (List.map (rI .i64) b))),(5,(.I 0))] (FI J)<|Eo (P:=Tryz.prog) a (fun j a1=>fun _=>N2 b j a1) ((Dz (fun _=>.ok true) (fun r=>.ok r)):(Unit ⊕ Bool)→R Bool) (fun j=>fun _=>fun(fr:Nat→AV) (h:Ag)=>fr=A5 [(0,(.sl 1 (List.map (rI .i64) a))),(1,(.sl 1 (List.map (rI .i64) b))),(5,(.I (j:Int)))]∧h=hp h0 ids []) () ?_ ?_ ?_
 ·exact⟨J,J⟩
 ·rintro j a1 ha1 W hW _ fr h ⟨rfl,rfl⟩
  refine Al (m':=N2 b j a1) J (Al (N2.eq_1 _ _ _) ?_)
  refine Y<|Y<|O<|Ab 2 [] [(12,(.sl 1 (List.map (rI .i64) a))),(11,(.I (j:Int)))] ?_
  refine Aa (.I (a.length:Int)) J (A2 (Bk O9))<|Aa (.bool (decide ((j:Int)<(a.length:Int)))) J (Bh J J J)<|Z<|Ev (t:=0) (L:=a) J fun hlim=>Dg J (Int.ofNat_lt.2 (Bg ha1))<|Ax<|Y ?_
  refine Ba<|Y<|Ct Es [[],[],[0,1],[0,1,2],[],[],[4,5],[4,5,6],[0,1,2,3,4,5,6,7]] [(false,0),(false,1),(false,2),(false,3),(false,4),(false,5),(false,6),(false,7),(false,8)] (by kernel_rfl)<|Af (.sl 1 (List.map (rI .i64) a)) J J Ad<|Af (.I (j:Int)) J J Ad<|Af (.cp [(.I a1)] 0) J J (Bz (Ea O9 C2 J ha1))<|Af (.I a1) J J (Au (C7 C2 J)) ?_
  refine Af (.sl 1 (List.map (rI .i64) b)) J J Ad<|Af (.I (j:Int)) J J Ad<|Ny fun a2 hz hx1=>Af (.cp [(.I a2)] 0) J J (Bz (Dc O9 C2 J hz hx1))<|Af (.I a2) J J (Au (C7 C2 J))<|Af (.bool (a1 != a2)) J J (Bh J J J)<|Ck ?_
  refine Bx J (fun hc1=>?_) (fun hc1=>?_)
  ·refine Y<|O<|Aa (.bool false) J Ai<|Z<|E7<|Fh<|Bl (a:=false) (vs:=[(.bool false)]) Tryz.func26 hI J (.same _)
  refine Ax<|Bi<|O<|Ab 3 [] [(5,(.I (IntKind.wrap .i64 ((j:Int)+1))))] ?_
  refine Z<|Bo (E8 (hW () _ _ ⟨J,J⟩)) (.cons J (.cons J (.cons (Eg (Bg ha1) hlim) .nil)))
 rintro _ fr h ⟨rfl,rfl⟩
 refine Al (Fb _ _ _)<|Y<|Y<|O<|Ab 2 [] [(12,(.sl 1 (List.map (rI .i64) a))),(11,(.I (a.length:Int)))] ?_
 refine Aa (.I (a.length:Int)) J (A2 (Bk O9))<|Aa (.bool (decide ((a.length:Int)<(a.length:Int)))) J (Bh J J J)<|Z<|Df J (Int.lt_irrefl _)<|Cy J<|Y<|O ?_
 refine Aa (.bool true) J Ai<|Z<|Bl (a:=true) (vs:=[(.bool true)]) Tryz.func26 hI J (.same _)
theorem Vr (a:Airspace)(b:Airspace):CP Tryz.prog 12 [(.agg (A6 a)),(.agg (A6 b))] (Qp a b) (fun(x:Bool)=>(AV.bool x)):=by
 refine Cd (n:=422) 12 Tryz.func12 J (by decide) J J fun h0 ids hI=>Bn (Al (Qp.eq_1 _ _) ?_)
 refine Y<|O<|Cl (v:=(.agg (A6 a))) (j:=0) hI J J J J J J J fun g=>Cl (v:=(.agg (A6 b))) (j:=1) hI J J J J J J J fun g1=>Aa (.bool false) J Ai<|Z<|Aj ?_
 refine Y<|Y<|O<|Ab 2 [0] [(25,(.sl 2 (List.map Aw a.Volumes)))] ?_
 refine Aa (.I (a.Volumes.length:Int)) J (A2 (Bk Hj))<|Ab 2 [1] [(28,(.sl 2 (List.map Aw b.Volumes)))] ?_
 refine Aa (.I (b.Volumes.length:Int)) J (A2 (Bk Hj))<|Ab 2 [] [(31,(.bool ((a.Volumes.length:Int) != (b.Volumes.length:Int))))] ?_
 refine B2 8 [(2,(.q ids 0 g)),(3,(.q ids 1 g1)),(39,(.bool (((a.Volumes.length:Int) != (b.Volumes.length:Int))||((a.Sectors.length:Int) != (b.Sectors.length:Int)))))] ?_ fun hJ=>Bw ((a.Volumes.length:Int) != (b.Volumes.length:Int)) (fun hb1=>?_) (fun hb1=>?_)
 ·refine Aa (.bool (((a.Volumes.length:Int) != (b.Volumes.length:Int))||((a.Sectors.length:Int) != (b.Sectors.length:Int)))) J Ad<|B2 8 [(2,(.q ids 0 g)),(3,(.q ids 1 g1)),(48,(.bool ((((a.Volumes.length:Int) != (b.Volumes.length:Int))||((a.Sectors.length:Int) != (b.Sectors.length:Int)))||((a.Configs.length:Int) != (b.Configs.length:Int)))))] ?_ fun hJ1=>Bw (((a.Volumes.length:Int) != (b.Volumes.length:Int))||((a.Sectors.length:Int) != (b.Sectors.length:Int))) (fun hb3=>?_) (fun hb3=>?_)
  ·refine Aa (.bool ((((a.Volumes.length:Int) != (b.Volumes.length:Int))||((a.Sectors.length:Int) != (b.Sectors.length:Int)))||((a.Configs.length:Int) != (b.Configs.length:Int)))) J Ad<|B2 8 [(2,(.q ids 0 g)),(3,(.q ids 1 g1)),(57,(.bool (((((a.Volumes.length:Int) != (b.Volumes.length:Int))||((a.Sectors.length:Int) != (b.Sectors.length:Int)))||((a.Configs.length:Int) != (b.Configs.length:Int)))||((a.Segments.length:Int) != (b.Segments.length:Int)))))] ?_ fun hJ2=>Bw ((((a.Volumes.length:Int) != (b.Volumes.length:Int))||((a.Sectors.length:Int) != (b.Sectors.length:Int)))||((a.Configs.length:Int) != (b.Configs.length:Int))) (fun hb5=>?_) (fun hb5=>?_)
   ·refine Aa (.bool (((((a.Volumes.length:Int) != (b.Volumes.length:Int))||((a.Sectors.length:Int) != (b.Sectors.length:Int)))||((a.Configs.length:Int) != (b.Configs.length:Int)))||((a.Segments.length:Int) != (b.Segments.length:Int)))) J Ad<|B2 8 [(2,(.q ids 0 g)),(3,(.q ids 1 g1)),(66,(.bool ((((((a.Volumes.length:Int) != (b.Volumes.length:Int))||((a.Sectors.length:Int) != (b.Sectors.length:Int)))||((a.Configs.length:Int) != (b.Configs.length:Int)))||((a.Segments.length:Int) != (b.Segments.length:Int)))||((a.Routes.length:Int) != (b.Routes.length:Int)))))] ?_ fun hJ3=>Bw (((((a.Volumes.length:Int) != (b.Volumes.length:Int))||((a.Sectors.length:Int) != (b.Sectors.length:Int)))||((a.Configs.length:Int) != (b.Configs.length:Int)))||((a.Segments.length:Int) != (b.Segments.length:Int))) (fun hb7=>?_) (fun hb7=>?_)
    ·refine Aa (.bool ((((((a.Volumes.length:Int) != (b.Volumes.length:Int))||((a.Sectors.length:Int) != (b.Sectors.length:Int)))||((a.Configs.length:Int) != (b.Configs.length:Int)))||((a.Segments.length:Int) != (b.Segments.length:Int)))||((a.Routes.length:Int) != (b.Routes.length:Int)))) J Ad<|B2 8 [(2,(.q ids 0 g)),(3,(.q ids 1 g1)),(75,(.bool (((((((a.Volumes.length:Int) != (b.Volumes.length:Int))||((a.Sectors.length:Int) != (b.Sectors.length:Int)))||((a.Configs.length:Int) != (b.Configs.length:Int)))||((a.Segments.length:Int) != (b.Segments.length:Int)))||((a.Routes.length:Int) != (b.Routes.length:Int)))||((a.Airports.length:Int) != (b.Airports.length:Int)))))] ?_ fun hJ4=>Bw ((((((a.Volumes.length:Int) != (b.Volumes.length:Int))||((a.Sectors.length:Int) != (b.Sectors.length:Int)))||((a.Configs.length:Int) != (b.Configs.length:Int)))||((a.Segments.length:Int) != (b.Segments.length:Int)))||((a.Routes.length:Int) != (b.Routes.length:Int))) (fun hb9=>?_) (fun hb9=>?_)
     ·refine Aa (.bool (((((((a.Volumes.length:Int) != (b.Volumes.length:Int))||((a.Sectors.length:Int) != (b.Sectors.length:Int)))||((a.Configs.length:Int) != (b.Configs.length:Int)))||((a.Segments.length:Int) != (b.Segments.length:Int)))||((a.Routes.length:Int) != (b.Routes.length:Int)))||((a.Airports.length:Int) != (b.Airports.length:Int)))) J Ad<|B2 8 [(2,(.q ids 0 g)),(3,(.q ids 1 g1)),(84,(.bool ((((((((a.Volumes.length:Int) != (b.Volumes.length:Int))||((a.Sectors.length:Int) != (b.Sectors.length:Int)))||((a.Configs.length:Int) != (b.Configs.length:Int)))||((a.Segments.length:Int) != (b.Segments.length:Int)))||((a.Routes.length:Int) != (b.Routes.length:Int)))||((a.Airports.length:Int) != (b.Airports.length:Int)))||((a.Classes.length:Int) != (b.Classes.length:Int)))))] ?_ fun hJ5=>Bw (((((((a.Volumes.length:Int) != (b.Volumes.length:Int))||((a.Sectors.length:Int) != (b.Sectors.length:Int)))||((a.Configs.length:Int) != (b.Configs.length:Int)))||((a.Segments.length:Int) != (b.Segments.length:Int)))||((a.Routes.length:Int) != (b.Routes.length:Int)))||((a.Airports.length:Int) != (b.Airports.length:Int))) (fun hb11=>?_) (fun hb11=>?_)
      ·refine Aa (.bool ((((((((a.Volumes.length:Int) != (b.Volumes.length:Int))||((a.Sectors.length:Int) != (b.Sectors.length:Int)))||((a.Configs.length:Int) != (b.Configs.length:Int)))||((a.Segments.length:Int) != (b.Segments.length:Int)))||((a.Routes.length:Int) != (b.Routes.length:Int)))||((a.Airports.length:Int) != (b.Airports.length:Int)))||((a.Classes.length:Int) != (b.Classes.length:Int)))) J Ad<|B2 8 [(2,(.q ids 0 g)),(3,(.q ids 1 g1)),(93,(.bool (((((((((a.Volumes.length:Int) != (b.Volumes.length:Int))||((a.Sectors.length:Int) != (b.Sectors.length:Int)))||((a.Configs.length:Int) != (b.Configs.length:Int)))||((a.Segments.length:Int) != (b.Segments.length:Int)))||((a.Routes.length:Int) != (b.Routes.length:Int)))||((a.Airports.length:Int) != (b.Airports.length:Int)))||((a.Classes.length:Int) != (b.Classes.length:Int)))||((a.Rules.length:Int) != (b.Rules.length:Int)))))] ?_ fun hJ6=>Bw ((((((((a.Volumes.length:Int) != (b.Volumes.length:Int))||((a.Sectors.length:Int) != (b.Sectors.length:Int)))||((a.Configs.length:Int) != (b.Configs.length:Int)))||((a.Segments.length:Int) != (b.Segments.length:Int)))||((a.Routes.length:Int) != (b.Routes.length:Int)))||((a.Airports.length:Int) != (b.Airports.length:Int)))||((a.Classes.length:Int) != (b.Classes.length:Int))) (fun hb13=>?_) (fun hb13=>?_)
       ·refine Z<|Bx J (fun hc=>?_) (fun hc=>?_)
        ·refine Y<|O<|Aa (.bool false) J Ai<|Z<|Bl (a:=false) (vs:=[(.bool false)]) Tryz.func12 hI J (.same _)
        refine Ax<|Y<|Y<|O<|Aa (.I 0) J Ai<|Z<|Ba ?_
        refine D6 [(2,(.q ids 0 g)),(3,(.q ids 1 g1)),(5,(.I 0))] (FI J)<|Eo (P:=Tryz.prog) a.Volumes (fun j a1=>fun _=>Q0 b j a1) ((Dz (fun _=>(each (fun j1 a3=>fun _=>Ot b j1 a3) 0 a.Sectors ()).bind (Dz (fun _=>(each (fun j2 a5=>fun _=>Nu b j2 a5) 0 a.Configs ()).bind (Dz (fun _=>(each (fun j3 a7=>fun _=>Ls b j3 a7) 0 a.Segments ()).bind (Dz (fun _=>(each (fun j4 a9=>fun _=>J9 b j4 a9) 0 a.Routes ()).bind (Dz (fun _=>(each (fun j5 a11=>fun _=>Iq b j5 a11) 0 a.Airports ()).bind (Dz (fun _=>(each (fun j7 a15=>fun _=>Hs b j7 a15) 0 a.Classes ()).bind (Dz (fun _=>(each (fun j8 a17=>fun _=>G1 b j8 a17) 0 a.Rules ()).bind (Dz (fun _=>.ok true) (fun r=>.ok r))) (fun r=>.ok r))) (fun r=>.ok r))) (fun r=>.ok r))) (fun r=>.ok r))) (fun r=>.ok r))) (fun r=>.ok r))) (fun r=>.ok r)):(Unit ⊕ Bool)→R Bool) (fun j=>fun _=>fun(fr:Nat→AV) (h:Ag)=>fr=A5 [(2,(.q ids 0 g)),(3,(.q ids 1 g1)),(5,(.I (j:Int)))]∧h=hp h0 ids [(some (.rows g 8 [(A6 a)])),(some (.rows g1 8 [(A6 b)])),none,none,none,none,none,none,none,none,none,none]) () ?_ ?_ ?_
        ·exact⟨J,J⟩
        ·rintro j a1 ha1 W hW _ fr h ⟨rfl,rfl⟩
         refine Al (m':=Q0 b j a1) J (Al (Q0.eq_1 _ _ _) ?_)
         refine Y<|Y<|O<|Ab 3 [0] [(96,(.sl 2 (List.map Aw a.Volumes))),(94,(.I (j:Int)))] ?_
         refine Aa (.I (a.Volumes.length:Int)) J (A2 (Bk Hj))<|Aa (.bool (decide ((j:Int)<(a.Volumes.length:Int)))) J (Bh J J J)<|Z<|Ev (t:=96) (L:=a.Volumes) J fun hlim1=>Dg J (Int.ofNat_lt.2 (Bg ha1))<|Ax<|Y ?_
         refine Ba<|Y<|Dx (fun x1=>Q2 x1) (fun x1=>fun(fr:Nat→AV) (h:Ag)=>fr=A5 [(2,(.q ids 0 g)),(3,(.q ids 1 g1)),(5,(.I (j:Int))),(129,(.bool x1))]∧h=hp h0 ids [(some (.rows g 8 [(A6 a)])),(some (.rows g1 8 [(A6 b)])),none,none,none,none,none,none,none,none,none,none]) ?_ fun hJ7=>?_
         ·rintro x1 fr h ⟨rfl,rfl⟩
          refine Al (Q2.eq_1 _)<|Bx J (fun hc1=>?_) (fun hc1=>?_)
          ·refine Y<|O<|Aa (.bool false) J Ai<|Z<|E7<|Fh<|Bl (a:=false) (vs:=[(.bool false)]) Tryz.func12 hI J (.same _)
          refine Ax<|Bi<|O<|Ab 3 [] [(5,(.I (IntKind.wrap .i64 ((j:Int)+1))))] ?_
          refine Z<|Bo (E8 (hW () _ _ ⟨J,J⟩)) (.cons J (.cons J (.cons (Eg (Bg ha1) hlim1) .nil)))
         refine Ct Es [[],[0],[],[0,1,2],[0,1,2,3],[0,1,2,3,4],[],[6],[],[6,7,8],[6,7,8,9],[6,7,8,9,10],[0,1,2,3,4,5,6,7,8,9,10,11],[0,1,2,3,4,5,6,7,8,9,10,11,12],[0,1,2,3,4,5,6,7,8,9,10,11,12,13],[0,1,2,3,4,5,6,7,8,9,10,11,12,13,14],[0,1,2,3,4,5,6,7,8,9,10,11,12,13],[0,1,2,3,4,5,6,7,8,9,10,11,12,13,14,15,16],[0,1,2,3,4,5,6,7,8,9,10,11,12,13,14,15,16,17],[0,1,2,3,4,5,6,7,8,9,10,11,12,13,14,15,16,17,18],[0,1,2,3,4,5,6,7,8,9,10,11,12,13],[0,1,2,3,4,5,6,7,8,9,10,11,12,13,20],[0,1,2,3,4,5,6,7,8,9,10,11,12,13],[0,1,2,3,4,5,6,7,8,9,10,11,12,13,20,21,22],[0,1,2,3,4,5,6,7,8,9,10,11,12,13,20,21,22,23],[0,1,2,3,4,5,6,7,8,9,10,11,12,13,20,21,22,23,24],[0,1,2,3,4,5,6,7,8,9,10,11,12,13,14,15,16,17,18,19,20,21,22,23,24,25],[0,1,2,3,4,5,6,7,8,9,10,11,12,13,14,15,16,17,18,19,20,21,22,23,24,25,26],[0,1,2,3,4,5,6,7,8,9,10,11,12,13,14,15,16,17,18,19,20,21,22,23,24,25,26,27]] [(false,0),(false,1),(false,2),(false,3),(false,4),(false,5),(false,6),(false,7),(false,8),(false,9),(false,10),(false,11),(false,12),(false,13),(false,14),(false,15),(false,16),(false,17),(false,18),(false,19),(false,20),(false,21),(false,22),(false,23),(false,24),(false,25),(true,26),(false,27),(false,28)] (by kernel_rfl)<|Af (.q ids 0 g) J J (Cb (B3 (c:=0) (off:=0) (i:=0) Dl J Hj J))<|Af (.sl 2 (List.map Aw a.Volumes)) J J (Au (A3 hI J J J Hj J))<|Af (.I (j:Int)) J J Ad<|Af (.cp (Aw a1) 0) J J (Bz (Ea Hj Ji J ha1))<|Af (.cp (Aw a1) 0) J J (Cb (Zo (c:=0) (off:=0) (i:=0) Ji J Cf J))<|Af (.str a1.Name) J J (Au (C7 Cf J)) ?_
         refine Af (.q ids 1 g1) J J (Cb (B3 (c:=0) (off:=0) (i:=0) Dl J Hj J))<|Af (.sl 2 (List.map Aw b.Volumes)) J J (Au (A3 hI J J J Hj J))<|Af (.I (j:Int)) J J Ad<|Ny fun a2 hz hx1=>Af (.cp (Aw a2) 0) J J (Bz (Dc Hj Ji J hz hx1))<|Af (.cp (Aw a2) 0) J J (Cb (Zo (c:=0) (off:=0) (i:=0) Ji J Cf J))<|Af (.str a2.Name) J J (Au (C7 Cf J)) ?_
         refine Af (.bool (!(a1.Name==a2.Name))) J J (Bh J J J)<|Af (.bool (!(a1.Name==a2.Name))) J J Ad<|Mh (fun hb14=>?_) (fun hb14=>?_)
         ·refine Ii (tj:=114) (b:=true) J J (congrArg AV.bool hb14) J J<|Ii (tj:=114) (b:=true) J J (congrArg AV.bool hb14) J J<|Ii (tj:=114) (b:=true) J J (congrArg AV.bool hb14) J J<|Ii (tj:=114) (b:=true) J J (congrArg AV.bool hb14) J J<|Ii (tj:=114) (b:=true) J J (congrArg AV.bool hb14) J J<|Ii (tj:=114) (b:=true) J J (congrArg AV.bool hb14) J J<|Ii (tj:=114) (b:=true) J J (congrArg AV.bool hb14) J J ?_
          refine Ii (tj:=114) (b:=true) J J (congrArg AV.bool hb14) J J<|Ii (tj:=114) (b:=true) J J (congrArg AV.bool hb14) J J<|Ii (tj:=114) (b:=true) J J (congrArg AV.bool hb14) J J<|Ii (tj:=114) (b:=true) J J (congrArg AV.bool hb14) J J<|Ii (tj:=114) (b:=true) J J (congrArg AV.bool hb14) J J<|An8 (tj:=114) (b:=true) J J (congrArg AV.bool hb14) J J<|Ii (tj:=114) (b:=true) J J (congrArg AV.bool hb14) J J ?_
          refine Af (.bool true) J J (Et (t:=true) (congrArg AV.bool hb14) J)<|Ck<|Bo (hJ7 true _ _ ⟨J,J⟩)
         refine G3 (tj:=114) (.q ids 0 g) J J (congrArg AV.bool hb14) J (Cb (B3 (c:=0) (off:=0) (i:=0) Dl J Hj J))<|G3 (tj:=114) (.sl 2 (List.map Aw a.Volumes)) J J (congrArg AV.bool hb14) J (Au (A3 hI J J J Hj J))<|G3 (tj:=114) (.I (j:Int)) J J (congrArg AV.bool hb14) J Ad<|G3 (tj:=114) (.cp (Aw a1) 0) J J (congrArg AV.bool hb14) J (Bz (Ea Hj Ji J ha1))<|G3 (tj:=114) (.cp (Aw a1) 1) J J (congrArg AV.bool hb14) J (Cb (Zo (c:=0) (off:=1) (i:=1) Ji J Ki J))<|G3 (tj:=114) (.sl 2 (List.map B7 a1.Closed)) J J (congrArg AV.bool hb14) J (Au (C7 Ki J))<|G3 (tj:=114) (.q ids 1 g1) J J (congrArg AV.bool hb14) J (Cb (B3 (c:=0) (off:=0) (i:=0) Dl J Hj J)) ?_
         refine G3 (tj:=114) (.sl 2 (List.map Aw b.Volumes)) J J (congrArg AV.bool hb14) J (Au (A3 hI J J J Hj J))<|G3 (tj:=114) (.I (j:Int)) J J (congrArg AV.bool hb14) J Ad<|G3 (tj:=114) (.cp (Aw a2) 0) J J (congrArg AV.bool hb14) J (Bz (Dc Hj Ji J hz hx1))<|G3 (tj:=114) (.cp (Aw a2) 1) J J (congrArg AV.bool hb14) J (Cb (Zo (c:=0) (off:=1) (i:=1) Ji J Ki J))<|G3 (tj:=114) (.sl 2 (List.map B7 a2.Closed)) J J (congrArg AV.bool hb14) J (Au (C7 Ki J))<|Oy [(.sl 2 (List.map B7 a1.Closed)),(.sl 2 (List.map B7 a2.Closed))] J (Cq (tj:=114) J (congrArg AV.bool hb14)) J J J ((Vf a1.Closed a2.Closed) _) (fun v _ _ _=>B0 Tryz.func12 hI) (Ae J (Ae J (Ae J (Ae J (Ae J (Ae J (Ae J (Ae J (Ae J (Ae J (Ae J (Ae J (Ae J (Ae J (Ae J (Ae J (Ae J (Ae J (Ae J (Ae J (Ae J (Ae J (Ae J (Ae J (Ae J (Ae J Bp)))))))))))))))))))))))))) fun r _=>G3 (tj:=114) (.bool (!r)) J J (congrArg AV.bool hb14) J (Oa J) ?_
         refine Af (.bool (!r)) J J (Et (t:=false) (congrArg AV.bool hb14) J)<|Ck<|Bo (hJ7 (!r) _ _ ⟨J,J⟩)
        rintro _ fr h ⟨rfl,rfl⟩
        refine Al (Fb _ _ _)<|Y<|Y<|O<|Ab 3 [0] [(96,(.sl 2 (List.map Aw a.Volumes))),(94,(.I (a.Volumes.length:Int)))] ?_
        refine Aa (.I (a.Volumes.length:Int)) J (A2 (Bk Hj))<|Aa (.bool (decide ((a.Volumes.length:Int)<(a.Volumes.length:Int)))) J (Bh J J J)<|Z<|Df J (Int.lt_irrefl _)<|Cy J<|Y<|Y ?_
        refine O<|Aa (.I 0) J Ai<|Z<|Ba<|D6 [(2,(.q ids 0 g)),(3,(.q ids 1 g1)),(6,(.I 0))] (FI J)<|Eo (P:=Tryz.prog) a.Sectors (fun j1 a3=>fun _=>Ot b j1 a3) ((Dz (fun _=>(each (fun j2 a5=>fun _=>Nu b j2 a5) 0 a.Configs ()).bind (Dz (fun _=>(each (fun j3 a7=>fun _=>Ls b j3 a7) 0 a.Segments ()).bind (Dz (fun _=>(each (fun j4 a9=>fun _=>J9 b j4 a9) 0 a.Routes ()).bind (Dz (fun _=>(each (fun j5 a11=>fun _=>Iq b j5 a11) 0 a.Airports ()).bind (Dz (fun _=>(each (fun j7 a15=>fun _=>Hs b j7 a15) 0 a.Classes ()).bind (Dz (fun _=>(each (fun j8 a17=>fun _=>G1 b j8 a17) 0 a.Rules ()).bind (Dz (fun _=>.ok true) (fun r=>.ok r))) (fun r=>.ok r))) (fun r=>.ok r))) (fun r=>.ok r))) (fun r=>.ok r))) (fun r=>.ok r))) (fun r=>.ok r)):(Unit ⊕ Bool)→R Bool) (fun j1=>fun _=>fun(fr:Nat→AV) (h:Ag)=>fr=A5 [(2,(.q ids 0 g)),(3,(.q ids 1 g1)),(6,(.I (j1:Int)))]∧h=hp h0 ids [(some (.rows g 8 [(A6 a)])),(some (.rows g1 8 [(A6 b)])),none,none,none,none,none,none,none,none,none,none]) () ?_ ?_ ?_
        ·exact⟨J,J⟩
        ·rintro j1 a3 ha3 W hW1 _ fr h ⟨rfl,rfl⟩
         refine Al (m':=Ot b j1 a3) J (Al (Ot.eq_1 _ _ _) ?_)
         refine Y<|Y<|O<|Ab 3 [0] [(132,(.sl 5 (List.map A9 a.Sectors))),(130,(.I (j1:Int)))] ?_
         refine Aa (.I (a.Sectors.length:Int)) J (A2 (Bk J1))<|Aa (.bool (decide ((j1:Int)<(a.Sectors.length:Int)))) J (Bh J J J)<|Z<|Ev (t:=132) (L:=a.Sectors) J fun hlim3=>Dg J (Int.ofNat_lt.2 (Bg ha3))<|Ax<|Y ?_
         refine Ba<|Y<|O<|Ab 3 [0] [(139,(.I (j1:Int))),(138,(.sl 5 (List.map A9 a.Sectors)))] ?_
         refine Aa (.cp (A9 a3) 0) J (Bz (Ea J1 Gn J ha3))<|Aa (.agg (A9 a3)) J (Au (C7 Gn J))<|A8 (j:=2) hI J J J J Gn J fun g2=>An (Aq (v:=(.agg (A9 a3))) hI J J J J Gn J J J J J)<|Z<|Aj ?_
         refine Y<|O<|Ab 3 [1] [(144,(.I (j1:Int))),(143,(.sl 5 (List.map A9 b.Sectors)))] ?_
         refine Dv fun a4 hz1 hx2=>Aa (.cp (A9 a4) 0) J (Bz (Dc J1 Gn J hz1 hx2))<|Aa (.agg (A9 a4)) J (Au (C7 Gn J))<|A8 (j:=3) hI J J J J Gn J fun g3=>An (Aq (v:=(.agg (A9 a4))) hI J J J J Gn J J J J J)<|Z<|Aj ?_
         refine Y<|O<|Ab 6 [2,3] [(152,(.bool (!(a3.Name==a4.Name))))] ?_
         refine Cz 7 ((fun(b1:Bool)=>(if b1 then R.ok true else(Ht a3.Volumes a4.Volumes).bind fun r2=>R.ok (!r2)).bind (fun(b2:Bool)=>if((b2||(a3.Radar != a4.Radar))||(a3.Procedural != a4.Procedural)) then(.ok (.inr (false))) else(.ok (.inl ())))):Bool→R (Unit ⊕ Bool)) (fun(b1:Bool) (fr:Nat→AV) (h:Ag)=>fr=A5 [(2,(.q ids 0 g)),(3,(.q ids 1 g1)),(6,(.I (j1:Int))),(7,(.q ids 2 g2)),(8,(.q ids 3 g3)),(159,(.bool b1))]∧h=hp h0 ids [(some (.rows g 8 [(A6 a)])),(some (.rows g1 8 [(A6 b)])),(some (.rows g2 5 [(A9 a3)])),(some (.rows g3 5 [(A9 a4)])),none,none,none,none,none,none,none,none]) ?_ fun hJ8=>Dd (fun hb16=>?_) (fun hb16=>?_)
         ·rintro b1 fr h ⟨rfl,rfl⟩
          refine Aa (.bool b1) J Ad<|Cz 7 ((fun(b2:Bool)=>if((b2||(a3.Radar != a4.Radar))||(a3.Procedural != a4.Procedural)) then(.ok (.inr (false))) else(.ok (.inl ()))):Bool→R (Unit ⊕ Bool)) (fun(b2:Bool) (fr:Nat→AV) (h:Ag)=>fr=A5 [(2,(.q ids 0 g)),(3,(.q ids 1 g1)),(6,(.I (j1:Int))),(7,(.q ids 2 g2)),(8,(.q ids 3 g3)),(167,(.bool b2))]∧h=hp h0 ids [(some (.rows g 8 [(A6 a)])),(some (.rows g1 8 [(A6 b)])),(some (.rows g2 5 [(A9 a3)])),(some (.rows g3 5 [(A9 a4)])),none,none,none,none,none,none,none,none]) ?_ fun hJ9=>Dd (fun hb18=>?_) (fun hb18=>?_)
          ·rintro b2 fr h ⟨rfl,rfl⟩
           refine Aa (.bool b2) J Ad<|B2 6 [(2,(.q ids 0 g)),(3,(.q ids 1 g1)),(6,(.I (j1:Int))),(7,(.q ids 2 g2)),(8,(.q ids 3 g3)),(174,(.bool (b2||(a3.Radar != a4.Radar))))] ?_ fun hJ10=>Bw b2 (fun hb20=>?_) (fun hb20=>?_)
           ·refine Aa (.bool (b2||(a3.Radar != a4.Radar))) J Ad<|B2 6 [(2,(.q ids 0 g)),(3,(.q ids 1 g1)),(6,(.I (j1:Int))),(181,(.bool ((b2||(a3.Radar != a4.Radar))||(a3.Procedural != a4.Procedural))))] ?_ fun hJ11=>Bw (b2||(a3.Radar != a4.Radar)) (fun hb22=>?_) (fun hb22=>?_)
            ·refine Z<|Bx J (fun hc2=>?_) (fun hc2=>?_)
             ·refine Y<|O<|Aa (.bool false) J Ai<|Z<|E7<|Fh<|Bl (a:=false) (vs:=[(.bool false)]) Tryz.func12 hI J (.same _)
             refine Ax<|Bi<|O<|Ab 3 [] [(6,(.I (IntKind.wrap .i64 ((j1:Int)+1))))] ?_
             refine Z<|Eb [(some (.rows g 8 [(A6 a)])),(some (.rows g1 8 [(A6 b)])),none,none,none,none,none,none,none,none,none,none] hI J (.keep (.keep (.drop (.drop (.keep (.keep (.keep (.keep (.keep (.keep (.keep (.keep .nil))))))))))))<|Bo (E8 (hW1 () _ _ ⟨J,J⟩)) (.cons J (.cons J (.cons (Eg (Bg ha3) hlim3) .nil)))
            ·refine Az (t:=175) hb22 J<|Ab 6 [] [(181,(.bool true)),(180,.und),(179,.und),(178,.und),(177,.und),(176,.und)] ?_
             exact Bf hJ11 (.cons J (.cons J (.cons J (.cons (E6 hb22) .nil))))
            refine Az (t:=175) hb22 J<|Ab 6 [2,3] [(181,(.bool (a3.Procedural != a4.Procedural))),(180,(.bool (a3.Procedural != a4.Procedural))),(179,(.I a4.Procedural)),(178,(.ptr (ix ids 3) g3 0 4)),(177,(.I a3.Procedural)),(176,(.ptr (ix ids 2) g2 0 4))] ?_
            exact Bf hJ11 (.cons J (.cons J (.cons J (.cons (E5 hb22) .nil))))
           ·refine Az (t:=168) hb20 J<|Ab 6 [] [(174,(.bool true)),(173,.und),(172,.und),(171,.und),(170,.und),(169,.und)] ?_
            exact Bf hJ10 (.cons J (.cons J (.cons J (.cons J (.cons J (.cons (E6 hb20) .nil))))))
           refine Az (t:=168) hb20 J<|Ab 6 [2,3] [(174,(.bool (a3.Radar != a4.Radar))),(173,(.bool (a3.Radar != a4.Radar))),(172,(.I a4.Radar)),(171,(.ptr (ix ids 3) g3 0 3)),(170,(.I a3.Radar)),(169,(.ptr (ix ids 2) g2 0 3))] ?_
           exact Bf hJ10 (.cons J (.cons J (.cons J (.cons J (.cons J (.cons (E5 hb20) .nil))))))
          ·refine Az (t:=160) hb18 J<|Ab 7 [] [(167,(.bool true)),(166,.und),(165,.und),(164,.und),(163,.und),(162,.und),(161,.und)] ?_
           refine Bd<|B5 [(2,(.q ids 0 g)),(3,(.q ids 1 g1)),(6,(.I (j1:Int))),(7,(.q ids 2 g2)),(8,(.q ids 3 g3)),(167,(.bool true))] (FI J)<|hJ9 true _ _ ⟨J,J⟩
          refine Az (t:=160) hb18 J<|Ab 4 [2,3] [(164,(.sl 1 (List.map (rI .i64) a4.Volumes))),(163,(.ptr (ix ids 3) g3 0 2)),(162,(.sl 1 (List.map (rI .i64) a3.Volumes))),(161,(.ptr (ix ids 2) g2 0 2))] ?_
          refine A7 [(.sl 1 (List.map (rI .i64) a3.Volumes)),(.sl 1 (List.map (rI .i64) a4.Volumes))] J (Cq (tj:=160) J J) J J ((Sf a3.Volumes a4.Volumes) _) (fun v _=>B0 Tryz.func12 hI) fun r2 _=>Ab 2 [] [(167,(.bool (!r2))),(166,(.bool (!r2)))] ?_
          refine Bd<|B5 [(2,(.q ids 0 g)),(3,(.q ids 1 g1)),(6,(.I (j1:Int))),(7,(.q ids 2 g2)),(8,(.q ids 3 g3)),(167,(.bool (!r2)))] (FI J)<|hJ9 (!r2) _ _ ⟨J,J⟩
         ·refine Az (t:=152) hb16 J<|Ab 7 [] [(159,(.bool true)),(158,.und),(157,.und),(156,.und),(155,.und),(154,.und),(153,.und)] ?_
          refine Bd<|B5 [(2,(.q ids 0 g)),(3,(.q ids 1 g1)),(6,(.I (j1:Int))),(7,(.q ids 2 g2)),(8,(.q ids 3 g3)),(159,(.bool true))] (FI J)<|hJ8 true _ _ ⟨J,J⟩
         refine Az (t:=152) hb16 J<|Ab 4 [2,3] [(156,(.sl 1 (List.map rS a4.Names))),(155,(.ptr (ix ids 3) g3 0 1)),(154,(.sl 1 (List.map rS a3.Names))),(153,(.ptr (ix ids 2) g2 0 1))] ?_
         refine A7 [(.sl 1 (List.map rS a3.Names)),(.sl 1 (List.map rS a4.Names))] J (Cq (tj:=152) J J) J J ((Rj a3.Names a4.Names) _) (fun v _=>B0 Tryz.func12 hI) fun r1 _=>Ab 2 [] [(159,(.bool (!r1))),(158,(.bool (!r1)))] ?_
         refine Bd<|B5 [(2,(.q ids 0 g)),(3,(.q ids 1 g1)),(6,(.I (j1:Int))),(7,(.q ids 2 g2)),(8,(.q ids 3 g3)),(159,(.bool (!r1)))] (FI J)<|hJ8 (!r1) _ _ ⟨J,J⟩
        rintro _ fr h ⟨rfl,rfl⟩
        refine Al (Fb _ _ _)<|Y<|Y<|O<|Ab 3 [0] [(132,(.sl 5 (List.map A9 a.Sectors))),(130,(.I (a.Sectors.length:Int)))] ?_
        refine Aa (.I (a.Sectors.length:Int)) J (A2 (Bk J1))<|Aa (.bool (decide ((a.Sectors.length:Int)<(a.Sectors.length:Int)))) J (Bh J J J)<|Z<|Df J (Int.lt_irrefl _)<|Cy J<|Y<|Y ?_
        refine O<|Aa (.I 0) J Ai<|Z<|Ba<|D6 [(2,(.q ids 0 g)),(3,(.q ids 1 g1)),(9,(.I 0))] (FI J)<|Eo (P:=Tryz.prog) a.Configs (fun j2 a5=>fun _=>Nu b j2 a5) ((Dz (fun _=>(each (fun j3 a7=>fun _=>Ls b j3 a7) 0 a.Segments ()).bind (Dz (fun _=>(each (fun j4 a9=>fun _=>J9 b j4 a9) 0 a.Routes ()).bind (Dz (fun _=>(each (fun j5 a11=>fun _=>Iq b j5 a11) 0 a.Airports ()).bind (Dz (fun _=>(each (fun j7 a15=>fun _=>Hs b j7 a15) 0 a.Classes ()).bind (Dz (fun _=>(each (fun j8 a17=>fun _=>G1 b j8 a17) 0 a.Rules ()).bind (Dz (fun _=>.ok true) (fun r=>.ok r))) (fun r=>.ok r))) (fun r=>.ok r))) (fun r=>.ok r))) (fun r=>.ok r))) (fun r=>.ok r)):(Unit ⊕ Bool)→R Bool) (fun j2=>fun _=>fun(fr:Nat→AV) (h:Ag)=>fr=A5 [(2,(.q ids 0 g)),(3,(.q ids 1 g1)),(9,(.I (j2:Int)))]∧h=hp h0 ids [(some (.rows g 8 [(A6 a)])),(some (.rows g1 8 [(A6 b)])),none,none,none,none,none,none,none,none,none,none]) () ?_ ?_ ?_
        ·exact⟨J,J⟩
        ·rintro j2 a5 ha5 W hW2 _ fr h ⟨rfl,rfl⟩
         refine Al (m':=Nu b j2 a5) J (Al (Nu.eq_1 _ _ _) ?_)
         refine Y<|Y<|O<|Ab 3 [0] [(184,(.sl 3 (List.map Bj a.Configs))),(182,(.I (j2:Int)))] ?_
         refine Aa (.I (a.Configs.length:Int)) J (A2 (Bk L1))<|Aa (.bool (decide ((j2:Int)<(a.Configs.length:Int)))) J (Bh J J J)<|Z<|Ev (t:=184) (L:=a.Configs) J fun hlim5=>Dg J (Int.ofNat_lt.2 (Bg ha5))<|Ax<|Y ?_
         refine Ba<|Y<|O<|Ab 3 [0] [(191,(.I (j2:Int))),(190,(.sl 3 (List.map Bj a.Configs)))] ?_
         refine Aa (.cp (Bj a5) 0) J (Bz (Ea L1 Kg J ha5))<|Aa (.agg (Bj a5)) J (Au (C7 Kg J))<|A8 (j:=4) hI J J J J Kg J fun g4=>An (Aq (v:=(.agg (Bj a5))) hI J J J J Kg J J J J J)<|Z<|Aj ?_
         refine Y<|O<|Ab 3 [1] [(196,(.I (j2:Int))),(195,(.sl 3 (List.map Bj b.Configs)))] ?_
         refine Dv fun a6 hz2 hx3=>Aa (.cp (Bj a6) 0) J (Bz (Dc L1 Kg J hz2 hx3))<|Aa (.agg (Bj a6)) J (Au (C7 Kg J))<|A8 (j:=5) hI J J J J Kg J fun g5=>An (Aq (v:=(.agg (Bj a6))) hI J J J J Kg J J J J J)<|Z<|Aj ?_
         refine Y<|O<|Ab 6 [4,5] [(204,(.bool (!(a5.Name==a6.Name))))] ?_
         refine Cz 7 ((fun(b3:Bool)=>(if b3 then R.ok true else(Ht a5.Sectors a6.Sectors).bind fun r4=>R.ok (!r4)).bind (fun(b4:Bool)=>if b4 then(.ok (.inr (false))) else(.ok (.inl ())))):Bool→R (Unit ⊕ Bool)) (fun(b3:Bool) (fr:Nat→AV) (h:Ag)=>fr=A5 [(2,(.q ids 0 g)),(3,(.q ids 1 g1)),(9,(.I (j2:Int))),(10,(.q ids 4 g4)),(11,(.q ids 5 g5)),(211,(.bool b3))]∧h=hp h0 ids [(some (.rows g 8 [(A6 a)])),(some (.rows g1 8 [(A6 b)])),none,none,(some (.rows g4 3 [(Bj a5)])),(some (.rows g5 3 [(Bj a6)])),none,none,none,none,none,none]) ?_ fun hJ12=>Dd (fun hb24=>?_) (fun hb24=>?_)
         ·rintro b3 fr h ⟨rfl,rfl⟩
          refine Aa (.bool b3) J Ad<|Cz 7 ((fun(b4:Bool)=>if b4 then(.ok (.inr (false))) else(.ok (.inl ()))):Bool→R (Unit ⊕ Bool)) (fun(b4:Bool) (fr:Nat→AV) (h:Ag)=>fr=A5 [(2,(.q ids 0 g)),(3,(.q ids 1 g1)),(9,(.I (j2:Int))),(219,(.bool b4))]∧h=hp h0 ids [(some (.rows g 8 [(A6 a)])),(some (.rows g1 8 [(A6 b)])),none,none,(some (.rows g4 3 [(Bj a5)])),(some (.rows g5 3 [(Bj a6)])),none,none,none,none,none,none]) ?_ fun hJ13=>Dd (fun hb26=>?_) (fun hb26=>?_)
          ·rintro b4 fr h ⟨rfl,rfl⟩
           refine Z<|Bx J (fun hc3=>?_) (fun hc3=>?_)
           ·refine Y<|O<|Aa (.bool false) J Ai<|Z<|E7<|Fh<|Bl (a:=false) (vs:=[(.bool false)]) Tryz.func12 hI J (.same _)
           refine Ax<|Bi<|O<|Ab 3 [] [(9,(.I (IntKind.wrap .i64 ((j2:Int)+1))))] ?_
           refine Z<|Eb [(some (.rows g 8 [(A6 a)])),(some (.rows g1 8 [(A6 b)])),none,none,none,none,none,none,none,none,none,none] hI J (.keep (.keep (.keep (.keep (.drop (.drop (.keep (.keep (.keep (.keep (.keep (.keep .nil))))))))))))<|Bo (E8 (hW2 () _ _ ⟨J,J⟩)) (.cons J (.cons J (.cons (Eg (Bg ha5) hlim5) .nil)))
          ·refine Az (t:=212) hb26 J<|Ab 7 [] [(219,(.bool true)),(218,.und),(217,.und),(216,.und),(215,.und),(214,.und),(213,.und)] ?_
           refine Bd<|B5 [(2,(.q ids 0 g)),(3,(.q ids 1 g1)),(9,(.I (j2:Int))),(219,(.bool true))] (FI J)<|hJ13 true _ _ ⟨J,J⟩
          refine Az (t:=212) hb26 J<|Ab 4 [4,5] [(216,(.sl 1 (List.map (rI .i64) a6.Sectors))),(215,(.ptr (ix ids 5) g5 0 2)),(214,(.sl 1 (List.map (rI .i64) a5.Sectors))),(213,(.ptr (ix ids 4) g4 0 2))] ?_
          refine A7 [(.sl 1 (List.map (rI .i64) a5.Sectors)),(.sl 1 (List.map (rI .i64) a6.Sectors))] J (Cq (tj:=212) J J) J J ((Sf a5.Sectors a6.Sectors) _) (fun v _=>B0 Tryz.func12 hI) fun r4 _=>Ab 2 [] [(219,(.bool (!r4))),(218,(.bool (!r4)))] ?_
          refine Bd<|B5 [(2,(.q ids 0 g)),(3,(.q ids 1 g1)),(9,(.I (j2:Int))),(219,(.bool (!r4)))] (FI J)<|hJ13 (!r4) _ _ ⟨J,J⟩
         ·refine Az (t:=204) hb24 J<|Ab 7 [] [(211,(.bool true)),(210,.und),(209,.und),(208,.und),(207,.und),(206,.und),(205,.und)] ?_
          refine Bd<|B5 [(2,(.q ids 0 g)),(3,(.q ids 1 g1)),(9,(.I (j2:Int))),(10,(.q ids 4 g4)),(11,(.q ids 5 g5)),(211,(.bool true))] (FI J)<|hJ12 true _ _ ⟨J,J⟩
         refine Az (t:=204) hb24 J<|Ab 4 [4,5] [(208,(.sl 1 (List.map rS a6.Names))),(207,(.ptr (ix ids 5) g5 0 1)),(206,(.sl 1 (List.map rS a5.Names))),(205,(.ptr (ix ids 4) g4 0 1))] ?_
         refine A7 [(.sl 1 (List.map rS a5.Names)),(.sl 1 (List.map rS a6.Names))] J (Cq (tj:=204) J J) J J ((Rj a5.Names a6.Names) _) (fun v _=>B0 Tryz.func12 hI) fun r3 _=>Ab 2 [] [(211,(.bool (!r3))),(210,(.bool (!r3)))] ?_
         refine Bd<|B5 [(2,(.q ids 0 g)),(3,(.q ids 1 g1)),(9,(.I (j2:Int))),(10,(.q ids 4 g4)),(11,(.q ids 5 g5)),(211,(.bool (!r3)))] (FI J)<|hJ12 (!r3) _ _ ⟨J,J⟩
        rintro _ fr h ⟨rfl,rfl⟩
        refine Al (Fb _ _ _)<|Y<|Y<|O<|Ab 3 [0] [(184,(.sl 3 (List.map Bj a.Configs))),(182,(.I (a.Configs.length:Int)))] ?_
        refine Aa (.I (a.Configs.length:Int)) J (A2 (Bk L1))<|Aa (.bool (decide ((a.Configs.length:Int)<(a.Configs.length:Int)))) J (Bh J J J)<|Z<|Df J (Int.lt_irrefl _)<|Cy J<|Y<|Y ?_
        refine O<|Aa (.I 0) J Ai<|Z<|Ba<|D6 [(2,(.q ids 0 g)),(3,(.q ids 1 g1)),(12,(.I 0))] (FI J)<|Eo (P:=Tryz.prog) a.Segments (fun j3 a7=>fun _=>Ls b j3 a7) ((Dz (fun _=>(each (fun j4 a9=>fun _=>J9 b j4 a9) 0 a.Routes ()).bind (Dz (fun _=>(each (fun j5 a11=>fun _=>Iq b j5 a11) 0 a.Airports ()).bind (Dz (fun _=>(each (fun j7 a15=>fun _=>Hs b j7 a15) 0 a.Classes ()).bind (Dz (fun _=>(each (fun j8 a17=>fun _=>G1 b j8 a17) 0 a.Rules ()).bind (Dz (fun _=>.ok true) (fun r=>.ok r))) (fun r=>.ok r))) (fun r=>.ok r))) (fun r=>.ok r))) (fun r=>.ok r)):(Unit ⊕ Bool)→R Bool) (fun j3=>fun _=>fun(fr:Nat→AV) (h:Ag)=>fr=A5 [(2,(.q ids 0 g)),(3,(.q ids 1 g1)),(12,(.I (j3:Int)))]∧h=hp h0 ids [(some (.rows g 8 [(A6 a)])),(some (.rows g1 8 [(A6 b)])),none,none,none,none,none,none,none,none,none,none]) () ?_ ?_ ?_
        ·exact⟨J,J⟩
        ·rintro j3 a7 ha7 W hW3 _ fr h ⟨rfl,rfl⟩
         refine Al (m':=Ls b j3 a7) J (Al (Ls.eq_1 _ _ _) ?_)
         refine Y<|Y<|O<|Ab 3 [0] [(222,(.sl 5 (List.map Be a.Segments))),(220,(.I (j3:Int)))] ?_
         refine Aa (.I (a.Segments.length:Int)) J (A2 (Bk L0))<|Aa (.bool (decide ((j3:Int)<(a.Segments.length:Int)))) J (Bh J J J)<|Z<|Ev (t:=222) (L:=a.Segments) J fun hlim7=>Dg J (Int.ofNat_lt.2 (Bg ha7))<|Ax<|Y ?_
         refine Ba<|Y<|O<|Ab 3 [0] [(229,(.I (j3:Int))),(228,(.sl 5 (List.map Be a.Segments)))] ?_
         refine Aa (.cp (Be a7) 0) J (Bz (Ea L0 H0 J ha7))<|Aa (.agg (Be a7)) J (Au (C7 H0 J))<|A8 (j:=6) hI J J J J H0 J fun g6=>An (Aq (v:=(.agg (Be a7))) hI J J J J H0 J J J J J)<|Z<|Aj ?_
         refine Y<|O<|Ab 3 [1] [(234,(.I (j3:Int))),(233,(.sl 5 (List.map Be b.Segments)))] ?_
         refine Dv fun a8 hz3 hx4=>Aa (.cp (Be a8) 0) J (Bz (Dc L0 H0 J hz3 hx4))<|Aa (.agg (Be a8)) J (Au (C7 H0 J))<|A8 (j:=7) hI J J J J H0 J fun g7=>An (Aq (v:=(.agg (Be a8))) hI J J J J H0 J J J J J)<|Z<|Aj ?_
         refine Y<|O<|Ab 6 [6,7] [(242,(.bool (!(a7.Name==a8.Name))))] ?_
         refine B2 6 [(2,(.q ids 0 g)),(3,(.q ids 1 g1)),(12,(.I (j3:Int))),(13,(.q ids 6 g6)),(14,(.q ids 7 g7)),(248,(.bool ((!(a7.Name==a8.Name))||(!(a7.In==a8.In)))))] ?_ fun hJ14=>Bw (!(a7.Name==a8.Name)) (fun hb28=>?_) (fun hb28=>?_)
         ·refine Aa (.bool ((!(a7.Name==a8.Name))||(!(a7.In==a8.In)))) J Ad<|B2 6 [(2,(.q ids 0 g)),(3,(.q ids 1 g1)),(12,(.I (j3:Int))),(13,(.q ids 6 g6)),(14,(.q ids 7 g7)),(255,(.bool (((!(a7.Name==a8.Name))||(!(a7.In==a8.In)))||(a7.Volume != a8.Volume))))] ?_ fun hJ15=>Bw ((!(a7.Name==a8.Name))||(!(a7.In==a8.In))) (fun hb30=>?_) (fun hb30=>?_)
          ·refine Aa (.bool (((!(a7.Name==a8.Name))||(!(a7.In==a8.In)))||(a7.Volume != a8.Volume))) J Ad<|B2 6 [(2,(.q ids 0 g)),(3,(.q ids 1 g1)),(12,(.I (j3:Int))),(13,(.q ids 6 g6)),(14,(.q ids 7 g7)),(262,(.bool ((((!(a7.Name==a8.Name))||(!(a7.In==a8.In)))||(a7.Volume != a8.Volume))||(a7.Length != a8.Length))))] ?_ fun hJ16=>Bw (((!(a7.Name==a8.Name))||(!(a7.In==a8.In)))||(a7.Volume != a8.Volume)) (fun hb32=>?_) (fun hb32=>?_)
           ·refine Aa (.bool ((((!(a7.Name==a8.Name))||(!(a7.In==a8.In)))||(a7.Volume != a8.Volume))||(a7.Length != a8.Length))) J Ad<|Cz 7 ((fun(b5:Bool)=>if b5 then(.ok (.inr (false))) else(.ok (.inl ()))):Bool→R (Unit ⊕ Bool)) (fun(b5:Bool) (fr:Nat→AV) (h:Ag)=>fr=A5 [(2,(.q ids 0 g)),(3,(.q ids 1 g1)),(12,(.I (j3:Int))),(270,(.bool b5))]∧h=hp h0 ids [(some (.rows g 8 [(A6 a)])),(some (.rows g1 8 [(A6 b)])),none,none,none,none,(some (.rows g6 5 [(Be a7)])),(some (.rows g7 5 [(Be a8)])),none,none,none,none]) ?_ fun hJ17=>Dd (fun hb34=>?_) (fun hb34=>?_)
            ·rintro b5 fr h ⟨rfl,rfl⟩
             refine Z<|Bx J (fun hc4=>?_) (fun hc4=>?_)
             ·refine Y<|O<|Aa (.bool false) J Ai<|Z<|E7<|Fh<|Bl (a:=false) (vs:=[(.bool false)]) Tryz.func12 hI J (.same _)
             refine Ax<|Bi<|O<|Ab 3 [] [(12,(.I (IntKind.wrap .i64 ((j3:Int)+1))))] ?_
             refine Z<|Eb [(some (.rows g 8 [(A6 a)])),(some (.rows g1 8 [(A6 b)])),none,none,none,none,none,none,none,none,none,none] hI J (.keep (.keep (.keep (.keep (.keep (.keep (.drop (.drop (.keep (.keep (.keep (.keep .nil))))))))))))<|Bo (E8 (hW3 () _ _ ⟨J,J⟩)) (.cons J (.cons J (.cons (Eg (Bg ha7) hlim7) .nil)))
            ·refine Az (t:=263) hb34 J<|Ab 7 [] [(270,(.bool true)),(269,.und),(268,.und),(267,.und),(266,.und),(265,.und),(264,.und)] ?_
             refine Bd<|B5 [(2,(.q ids 0 g)),(3,(.q ids 1 g1)),(12,(.I (j3:Int))),(270,(.bool true))] (FI J)<|hJ17 true _ _ ⟨J,J⟩
            refine Az (t:=263) hb34 J<|Ab 4 [6,7] [(267,(.sl 2 (List.map B7 a8.Open))),(266,(.ptr (ix ids 7) g7 0 4)),(265,(.sl 2 (List.map B7 a7.Open))),(264,(.ptr (ix ids 6) g6 0 4))] ?_
            refine A7 [(.sl 2 (List.map B7 a7.Open)),(.sl 2 (List.map B7 a8.Open))] J (Cq (tj:=263) J J) J J ((Vf a7.Open a8.Open) _) (fun v _=>B0 Tryz.func12 hI) fun r5 _=>Ab 2 [] [(270,(.bool (!r5))),(269,(.bool (!r5)))] ?_
            refine Bd<|B5 [(2,(.q ids 0 g)),(3,(.q ids 1 g1)),(12,(.I (j3:Int))),(270,(.bool (!r5)))] (FI J)<|hJ17 (!r5) _ _ ⟨J,J⟩
           ·refine Az (t:=256) hb32 J<|Ab 6 [] [(262,(.bool true)),(261,.und),(260,.und),(259,.und),(258,.und),(257,.und)] ?_
            exact Bf hJ16 (.cons J (.cons J (.cons J (.cons J (.cons J (.cons (E6 hb32) .nil))))))
           refine Az (t:=256) hb32 J<|Ab 6 [6,7] [(262,(.bool (a7.Length != a8.Length))),(261,(.bool (a7.Length != a8.Length))),(260,(.I a8.Length)),(259,(.ptr (ix ids 7) g7 0 3)),(258,(.I a7.Length)),(257,(.ptr (ix ids 6) g6 0 3))] ?_
           exact Bf hJ16 (.cons J (.cons J (.cons J (.cons J (.cons J (.cons (E5 hb32) .nil))))))
          ·refine Az (t:=249) hb30 J<|Ab 6 [] [(255,(.bool true)),(254,.und),(253,.und),(252,.und),(251,.und),(250,.und)] ?_
           exact Bf hJ15 (.cons J (.cons J (.cons J (.cons J (.cons J (.cons (E6 hb30) .nil))))))
          refine Az (t:=249) hb30 J<|Ab 6 [6,7] [(255,(.bool (a7.Volume != a8.Volume))),(254,(.bool (a7.Volume != a8.Volume))),(253,(.I a8.Volume)),(252,(.ptr (ix ids 7) g7 0 2)),(251,(.I a7.Volume)),(250,(.ptr (ix ids 6) g6 0 2))] ?_
          exact Bf hJ15 (.cons J (.cons J (.cons J (.cons J (.cons J (.cons (E5 hb30) .nil))))))
         ·refine Az (t:=242) hb28 J<|Ab 6 [] [(248,(.bool true)),(247,.und),(246,.und),(245,.und),(244,.und),(243,.und)] ?_
          exact Bf hJ14 (.cons J (.cons J (.cons J (.cons J (.cons J (.cons (E6 hb28) .nil))))))
         refine Az (t:=242) hb28 J<|Ab 6 [6,7] [(248,(.bool (!(a7.In==a8.In)))),(247,(.bool (!(a7.In==a8.In)))),(246,(.str a8.In)),(245,(.ptr (ix ids 7) g7 0 1)),(244,(.str a7.In)),(243,(.ptr (ix ids 6) g6 0 1))] ?_
         exact Bf hJ14 (.cons J (.cons J (.cons J (.cons J (.cons J (.cons (E5 hb28) .nil))))))
        rintro _ fr h ⟨rfl,rfl⟩
        refine Al (Fb _ _ _)<|Y<|Y<|O<|Ab 3 [0] [(222,(.sl 5 (List.map Be a.Segments))),(220,(.I (a.Segments.length:Int)))] ?_
        refine Aa (.I (a.Segments.length:Int)) J (A2 (Bk L0))<|Aa (.bool (decide ((a.Segments.length:Int)<(a.Segments.length:Int)))) J (Bh J J J)<|Z<|Df J (Int.lt_irrefl _)<|Cy J<|Y<|Y ?_
        refine O<|Aa (.I 0) J Ai<|Z<|Ba<|D6 [(2,(.q ids 0 g)),(3,(.q ids 1 g1)),(15,(.I 0))] (FI J)<|Eo (P:=Tryz.prog) a.Routes (fun j4 a9=>fun _=>J9 b j4 a9) ((Dz (fun _=>(each (fun j5 a11=>fun _=>Iq b j5 a11) 0 a.Airports ()).bind (Dz (fun _=>(each (fun j7 a15=>fun _=>Hs b j7 a15) 0 a.Classes ()).bind (Dz (fun _=>(each (fun j8 a17=>fun _=>G1 b j8 a17) 0 a.Rules ()).bind (Dz (fun _=>.ok true) (fun r=>.ok r))) (fun r=>.ok r))) (fun r=>.ok r))) (fun r=>.ok r)):(Unit ⊕ Bool)→R Bool) (fun j4=>fun _=>fun(fr:Nat→AV) (h:Ag)=>fr=A5 [(2,(.q ids 0 g)),(3,(.q ids 1 g1)),(15,(.I (j4:Int)))]∧h=hp h0 ids [(some (.rows g 8 [(A6 a)])),(some (.rows g1 8 [(A6 b)])),none,none,none,none,none,none,none,none,none,none]) () ?_ ?_ ?_
        ·exact⟨J,J⟩
        ·rintro j4 a9 ha9 W hW4 _ fr h ⟨rfl,rfl⟩
         refine Al (m':=J9 b j4 a9) J (Al (J9.eq_1 _ _ _) ?_)
         refine Y<|Y<|O<|Ab 3 [0] [(273,(.sl 7 (List.map Bu a.Routes))),(271,(.I (j4:Int)))] ?_
         refine Aa (.I (a.Routes.length:Int)) J (A2 (Bk Ly))<|Aa (.bool (decide ((j4:Int)<(a.Routes.length:Int)))) J (Bh J J J)<|Z<|Ev (t:=273) (L:=a.Routes) J fun hlim9=>Dg J (Int.ofNat_lt.2 (Bg ha9))<|Ax<|Y ?_
         refine Ba<|Y<|O<|Ab 3 [0] [(280,(.I (j4:Int))),(279,(.sl 7 (List.map Bu a.Routes)))] ?_
         refine Aa (.cp (Bu a9) 0) J (Bz (Ea Ly Hx J ha9))<|Aa (.agg (Bu a9)) J (Au (C7 Hx J))<|A8 (j:=8) hI J J J J Hx J fun g8=>An (Aq (v:=(.agg (Bu a9))) hI J J J J Hx J J J J J)<|Z<|Aj ?_
         refine Y<|O<|Ab 3 [1] [(285,(.I (j4:Int))),(284,(.sl 7 (List.map Bu b.Routes)))] ?_
         refine Dv fun a10 hz4 hx5=>Aa (.cp (Bu a10) 0) J (Bz (Dc Ly Hx J hz4 hx5))<|Aa (.agg (Bu a10)) J (Au (C7 Hx J))<|A8 (j:=9) hI J J J J Hx J fun g9=>An (Aq (v:=(.agg (Bu a10))) hI J J J J Hx J J J J J)<|Z<|Aj ?_
         refine Y<|O<|Ab 6 [8,9] [(293,(.bool (!(a9.Name==a10.Name))))] ?_
         refine B2 6 [(2,(.q ids 0 g)),(3,(.q ids 1 g1)),(15,(.I (j4:Int))),(16,(.q ids 8 g8)),(17,(.q ids 9 g9)),(299,(.bool ((!(a9.Name==a10.Name))||(!(a9.A==a10.A)))))] ?_ fun hJ18=>Bw (!(a9.Name==a10.Name)) (fun hb36=>?_) (fun hb36=>?_)
         ·refine Aa (.bool ((!(a9.Name==a10.Name))||(!(a9.A==a10.A)))) J Ad<|B2 6 [(2,(.q ids 0 g)),(3,(.q ids 1 g1)),(15,(.I (j4:Int))),(16,(.q ids 8 g8)),(17,(.q ids 9 g9)),(306,(.bool (((!(a9.Name==a10.Name))||(!(a9.A==a10.A)))||(!(a9.B==a10.B)))))] ?_ fun hJ19=>Bw ((!(a9.Name==a10.Name))||(!(a9.A==a10.A))) (fun hb38=>?_) (fun hb38=>?_)
          ·refine Aa (.bool (((!(a9.Name==a10.Name))||(!(a9.A==a10.A)))||(!(a9.B==a10.B)))) J Ad<|B2 6 [(2,(.q ids 0 g)),(3,(.q ids 1 g1)),(15,(.I (j4:Int))),(16,(.q ids 8 g8)),(17,(.q ids 9 g9)),(313,(.bool ((((!(a9.Name==a10.Name))||(!(a9.A==a10.A)))||(!(a9.B==a10.B)))||(a9.From != a10.From))))] ?_ fun hJ20=>Bw (((!(a9.Name==a10.Name))||(!(a9.A==a10.A)))||(!(a9.B==a10.B))) (fun hb40=>?_) (fun hb40=>?_)
           ·refine Aa (.bool ((((!(a9.Name==a10.Name))||(!(a9.A==a10.A)))||(!(a9.B==a10.B)))||(a9.From != a10.From))) J Ad<|B2 6 [(2,(.q ids 0 g)),(3,(.q ids 1 g1)),(15,(.I (j4:Int))),(16,(.q ids 8 g8)),(17,(.q ids 9 g9)),(320,(.bool (((((!(a9.Name==a10.Name))||(!(a9.A==a10.A)))||(!(a9.B==a10.B)))||(a9.From != a10.From))||(a9.To != a10.To))))] ?_ fun hJ21=>Bw ((((!(a9.Name==a10.Name))||(!(a9.A==a10.A)))||(!(a9.B==a10.B)))||(a9.From != a10.From)) (fun hb42=>?_) (fun hb42=>?_)
            ·refine Aa (.bool (((((!(a9.Name==a10.Name))||(!(a9.A==a10.A)))||(!(a9.B==a10.B)))||(a9.From != a10.From))||(a9.To != a10.To))) J Ad<|Cz 7 ((fun(b6:Bool)=>(if b6 then R.ok true else(Ht a9.Segments a10.Segments).bind fun r7=>R.ok (!r7)).bind (fun(b7:Bool)=>if b7 then(.ok (.inr (false))) else(.ok (.inl ())))):Bool→R (Unit ⊕ Bool)) (fun(b6:Bool) (fr:Nat→AV) (h:Ag)=>fr=A5 [(2,(.q ids 0 g)),(3,(.q ids 1 g1)),(15,(.I (j4:Int))),(16,(.q ids 8 g8)),(17,(.q ids 9 g9)),(328,(.bool b6))]∧h=hp h0 ids [(some (.rows g 8 [(A6 a)])),(some (.rows g1 8 [(A6 b)])),none,none,none,none,none,none,(some (.rows g8 7 [(Bu a9)])),(some (.rows g9 7 [(Bu a10)])),none,none]) ?_ fun hJ22=>Dd (fun hb44=>?_) (fun hb44=>?_)
             ·rintro b6 fr h ⟨rfl,rfl⟩
              refine Aa (.bool b6) J Ad<|Cz 7 ((fun(b7:Bool)=>if b7 then(.ok (.inr (false))) else(.ok (.inl ()))):Bool→R (Unit ⊕ Bool)) (fun(b7:Bool) (fr:Nat→AV) (h:Ag)=>fr=A5 [(2,(.q ids 0 g)),(3,(.q ids 1 g1)),(15,(.I (j4:Int))),(336,(.bool b7))]∧h=hp h0 ids [(some (.rows g 8 [(A6 a)])),(some (.rows g1 8 [(A6 b)])),none,none,none,none,none,none,(some (.rows g8 7 [(Bu a9)])),(some (.rows g9 7 [(Bu a10)])),none,none]) ?_ fun hJ23=>Dd (fun hb46=>?_) (fun hb46=>?_)
              ·rintro b7 fr h ⟨rfl,rfl⟩
               refine Z<|Bx J (fun hc5=>?_) (fun hc5=>?_)
               ·refine Y<|O<|Aa (.bool false) J Ai<|Z<|E7<|Fh<|Bl (a:=false) (vs:=[(.bool false)]) Tryz.func12 hI J (.same _)
               refine Ax<|Bi<|O<|Ab 3 [] [(15,(.I (IntKind.wrap .i64 ((j4:Int)+1))))] ?_
               refine Z<|Eb [(some (.rows g 8 [(A6 a)])),(some (.rows g1 8 [(A6 b)])),none,none,none,none,none,none,none,none,none,none] hI J (.keep (.keep (.keep (.keep (.keep (.keep (.keep (.keep (.drop (.drop (.keep (.keep .nil))))))))))))<|Bo (E8 (hW4 () _ _ ⟨J,J⟩)) (.cons J (.cons J (.cons (Eg (Bg ha9) hlim9) .nil)))
              ·refine Az (t:=329) hb46 J<|Ab 7 [] [(336,(.bool true)),(335,.und),(334,.und),(333,.und),(332,.und),(331,.und),(330,.und)] ?_
               refine Bd<|B5 [(2,(.q ids 0 g)),(3,(.q ids 1 g1)),(15,(.I (j4:Int))),(336,(.bool true))] (FI J)<|hJ23 true _ _ ⟨J,J⟩
              refine Az (t:=329) hb46 J<|Ab 4 [8,9] [(333,(.sl 1 (List.map (rI .i64) a10.Segments))),(332,(.ptr (ix ids 9) g9 0 6)),(331,(.sl 1 (List.map (rI .i64) a9.Segments))),(330,(.ptr (ix ids 8) g8 0 6))] ?_
              refine A7 [(.sl 1 (List.map (rI .i64) a9.Segments)),(.sl 1 (List.map (rI .i64) a10.Segments))] J (Cq (tj:=329) J J) J J ((Sf a9.Segments a10.Segments) _) (fun v _=>B0 Tryz.func12 hI) fun r7 _=>Ab 2 [] [(336,(.bool (!r7))),(335,(.bool (!r7)))] ?_
              refine Bd<|B5 [(2,(.q ids 0 g)),(3,(.q ids 1 g1)),(15,(.I (j4:Int))),(336,(.bool (!r7)))] (FI J)<|hJ23 (!r7) _ _ ⟨J,J⟩
             ·refine Az (t:=321) hb44 J<|Ab 7 [] [(328,(.bool true)),(327,.und),(326,.und),(325,.und),(324,.und),(323,.und),(322,.und)] ?_
              refine Bd<|B5 [(2,(.q ids 0 g)),(3,(.q ids 1 g1)),(15,(.I (j4:Int))),(16,(.q ids 8 g8)),(17,(.q ids 9 g9)),(328,(.bool true))] (FI J)<|hJ22 true _ _ ⟨J,J⟩
             refine Az (t:=321) hb44 J<|Ab 4 [8,9] [(325,(.sl 1 (List.map rS a10.Names))),(324,(.ptr (ix ids 9) g9 0 5)),(323,(.sl 1 (List.map rS a9.Names))),(322,(.ptr (ix ids 8) g8 0 5))] ?_
             refine A7 [(.sl 1 (List.map rS a9.Names)),(.sl 1 (List.map rS a10.Names))] J (Cq (tj:=321) J J) J J ((Rj a9.Names a10.Names) _) (fun v _=>B0 Tryz.func12 hI) fun r6 _=>Ab 2 [] [(328,(.bool (!r6))),(327,(.bool (!r6)))] ?_
             refine Bd<|B5 [(2,(.q ids 0 g)),(3,(.q ids 1 g1)),(15,(.I (j4:Int))),(16,(.q ids 8 g8)),(17,(.q ids 9 g9)),(328,(.bool (!r6)))] (FI J)<|hJ22 (!r6) _ _ ⟨J,J⟩
            ·refine Az (t:=314) hb42 J<|Ab 6 [] [(320,(.bool true)),(319,.und),(318,.und),(317,.und),(316,.und),(315,.und)] ?_
             exact Bf hJ21 (.cons J (.cons J (.cons J (.cons J (.cons J (.cons (E6 hb42) .nil))))))
            refine Az (t:=314) hb42 J<|Ab 6 [8,9] [(320,(.bool (a9.To != a10.To))),(319,(.bool (a9.To != a10.To))),(318,(.I a10.To)),(317,(.ptr (ix ids 9) g9 0 4)),(316,(.I a9.To)),(315,(.ptr (ix ids 8) g8 0 4))] ?_
            exact Bf hJ21 (.cons J (.cons J (.cons J (.cons J (.cons J (.cons (E5 hb42) .nil))))))
           ·refine Az (t:=307) hb40 J<|Ab 6 [] [(313,(.bool true)),(312,.und),(311,.und),(310,.und),(309,.und),(308,.und)] ?_
            exact Bf hJ20 (.cons J (.cons J (.cons J (.cons J (.cons J (.cons (E6 hb40) .nil))))))
           refine Az (t:=307) hb40 J<|Ab 6 [8,9] [(313,(.bool (a9.From != a10.From))),(312,(.bool (a9.From != a10.From))),(311,(.I a10.From)),(310,(.ptr (ix ids 9) g9 0 3)),(309,(.I a9.From)),(308,(.ptr (ix ids 8) g8 0 3))] ?_
           exact Bf hJ20 (.cons J (.cons J (.cons J (.cons J (.cons J (.cons (E5 hb40) .nil))))))
          ·refine Az (t:=300) hb38 J<|Ab 6 [] [(306,(.bool true)),(305,.und),(304,.und),(303,.und),(302,.und),(301,.und)] ?_
           exact Bf hJ19 (.cons J (.cons J (.cons J (.cons J (.cons J (.cons (E6 hb38) .nil))))))
          refine Az (t:=300) hb38 J<|Ab 6 [8,9] [(306,(.bool (!(a9.B==a10.B)))),(305,(.bool (!(a9.B==a10.B)))),(304,(.str a10.B)),(303,(.ptr (ix ids 9) g9 0 2)),(302,(.str a9.B)),(301,(.ptr (ix ids 8) g8 0 2))] ?_
          exact Bf hJ19 (.cons J (.cons J (.cons J (.cons J (.cons J (.cons (E5 hb38) .nil))))))
         ·refine Az (t:=293) hb36 J<|Ab 6 [] [(299,(.bool true)),(298,.und),(297,.und),(296,.und),(295,.und),(294,.und)] ?_
          exact Bf hJ18 (.cons J (.cons J (.cons J (.cons J (.cons J (.cons (E6 hb36) .nil))))))
         refine Az (t:=293) hb36 J<|Ab 6 [8,9] [(299,(.bool (!(a9.A==a10.A)))),(298,(.bool (!(a9.A==a10.A)))),(297,(.str a10.A)),(296,(.ptr (ix ids 9) g9 0 1)),(295,(.str a9.A)),(294,(.ptr (ix ids 8) g8 0 1))] ?_
         exact Bf hJ18 (.cons J (.cons J (.cons J (.cons J (.cons J (.cons (E5 hb36) .nil))))))
        rintro _ fr h ⟨rfl,rfl⟩
        refine Al (Fb _ _ _)<|Y<|Y<|O<|Ab 3 [0] [(273,(.sl 7 (List.map Bu a.Routes))),(271,(.I (a.Routes.length:Int)))] ?_
        refine Aa (.I (a.Routes.length:Int)) J (A2 (Bk Ly))<|Aa (.bool (decide ((a.Routes.length:Int)<(a.Routes.length:Int)))) J (Bh J J J)<|Z<|Df J (Int.lt_irrefl _)<|Cy J<|Y<|Y ?_
        refine O<|Aa (.I 0) J Ai<|Z<|Ba<|D6 [(2,(.q ids 0 g)),(3,(.q ids 1 g1)),(18,(.I 0))] (FI J)<|Eo (P:=Tryz.prog) a.Airports (fun j5 a11=>fun _=>Iq b j5 a11) ((Dz (fun _=>(each (fun j7 a15=>fun _=>Hs b j7 a15) 0 a.Classes ()).bind (Dz (fun _=>(each (fun j8 a17=>fun _=>G1 b j8 a17) 0 a.Rules ()).bind (Dz (fun _=>.ok true) (fun r=>.ok r))) (fun r=>.ok r))) (fun r=>.ok r)):(Unit ⊕ Bool)→R Bool) (fun j5=>fun _=>fun(fr:Nat→AV) (h:Ag)=>fr=A5 [(2,(.q ids 0 g)),(3,(.q ids 1 g1)),(18,(.I (j5:Int)))]∧h=hp h0 ids [(some (.rows g 8 [(A6 a)])),(some (.rows g1 8 [(A6 b)])),none,none,none,none,none,none,none,none,none,none]) () ?_ ?_ ?_
        ·exact⟨J,J⟩
        ·rintro j5 a11 ha11 W hW5 _ fr h ⟨rfl,rfl⟩
         refine Al (m':=Iq b j5 a11) J (Al (Iq.eq_1 _ _ _) ?_)
         refine Y<|Y<|O<|Ab 3 [0] [(339,(.sl 2 (List.map Bb a.Airports))),(337,(.I (j5:Int)))] ?_
         refine Aa (.I (a.Airports.length:Int)) J (A2 (Bk Lc))<|Aa (.bool (decide ((j5:Int)<(a.Airports.length:Int)))) J (Bh J J J)<|Z<|Ev (t:=339) (L:=a.Airports) J fun hlim11=>Dg J (Int.ofNat_lt.2 (Bg ha11))<|Ax<|Y ?_
         refine Ba<|Y<|O<|Ab 3 [0] [(346,(.I (j5:Int))),(345,(.sl 2 (List.map Bb a.Airports)))] ?_
         refine Aa (.cp (Bb a11) 0) J (Bz (Ea Lc Ho J ha11))<|Aa (.agg (Bb a11)) J (Au (C7 Ho J))<|A8 (j:=10) hI J J J J Ho J fun g10=>An (Aq (v:=(.agg (Bb a11))) hI J J J J Ho J J J J J)<|Z<|Aj ?_
         refine Y<|O<|Ab 3 [1] [(351,(.I (j5:Int))),(350,(.sl 2 (List.map Bb b.Airports)))] ?_
         refine Dv fun a12 hz5 hx6=>Aa (.cp (Bb a12) 0) J (Bz (Dc Lc Ho J hz5 hx6))<|Aa (.agg (Bb a12)) J (Au (C7 Ho J))<|A8 (j:=11) hI J J J J Ho J fun g11=>An (Aq (v:=(.agg (Bb a12))) hI J J J J Ho J J J J J)<|Z<|Aj ?_
         refine Y<|Y<|O<|Ab 6 [10,11] [(359,(.bool (!(a11.Name==a12.Name))))] ?_
         refine B2 8 [(2,(.q ids 0 g)),(3,(.q ids 1 g1)),(18,(.I (j5:Int))),(19,(.q ids 10 g10)),(20,(.q ids 11 g11)),(367,(.bool ((!(a11.Name==a12.Name))||((a11.Modes.length:Int) != (a12.Modes.length:Int)))))] ?_ fun hJ24=>Bw (!(a11.Name==a12.Name)) (fun hb48=>?_) (fun hb48=>?_)
         ·refine Z<|Bx J (fun hc6=>?_) (fun hc6=>?_)
          ·refine Y<|O<|Aa (.bool false) J Ai<|Z<|E7<|Fh<|Bl (a:=false) (vs:=[(.bool false)]) Tryz.func12 hI J (.same _)
          refine Ax<|Y<|O<|Aa (.I 0) J Ai<|Z<|Ba<|D6 [(2,(.q ids 0 g)),(3,(.q ids 1 g1)),(18,(.I (j5:Int))),(19,(.q ids 10 g10)),(20,(.q ids 11 g11)),(21,(.I 0))] (FI J) ?_
          refine Eo (P:=Tryz.prog) a11.Modes (fun j6 a13=>fun _=>Qz a12 j6 a13) ((Dz (fun _=>.ok (.inl ())) (fun r=>.ok (.inr (r)))):(Unit ⊕ Bool)→R (Unit ⊕ Bool)) (fun j6=>fun _=>fun(fr:Nat→AV) (h:Ag)=>fr=A5 [(2,(.q ids 0 g)),(3,(.q ids 1 g1)),(18,(.I (j5:Int))),(19,(.q ids 10 g10)),(20,(.q ids 11 g11)),(21,(.I (j6:Int)))]∧h=hp h0 ids [(some (.rows g 8 [(A6 a)])),(some (.rows g1 8 [(A6 b)])),none,none,none,none,none,none,none,none,(some (.rows g10 2 [(Bb a11)])),(some (.rows g11 2 [(Bb a12)]))]) () ?_ ?_ ?_
          ·exact⟨J,J⟩
          ·rintro j6 a13 ha13 W hW6 _ fr h ⟨rfl,rfl⟩
           refine Al (m':=Qz a12 j6 a13) J (Al (Qz.eq_1 _ _ _) ?_)
           refine Y<|Y<|O<|Ab 3 [10] [(370,(.sl 2 (List.map Dy a11.Modes))),(368,(.I (j6:Int)))] ?_
           refine Aa (.I (a11.Modes.length:Int)) J (A2 (Bk K8))<|Aa (.bool (decide ((j6:Int)<(a11.Modes.length:Int)))) J (Bh J J J)<|Z<|Ev (t:=370) (L:=a11.Modes) J fun hlim13=>Dg J (Int.ofNat_lt.2 (Bg ha13))<|Ax<|Y ?_
           refine Ba<|Y<|Ct Es [[],[0],[],[0,1,2],[0,1,2,3],[],[5],[],[5,6,7],[5,6,7,8],[0,1,2,3,4,5,6,7,8,9]] [(false,0),(false,1),(false,2),(false,3),(false,4),(false,5),(false,6),(false,7),(false,8),(false,9),(false,10)] (by kernel_rfl)<|Af (.ptr (ix ids 10) g10 0 1) J J (Cb (B3 (c:=0) (off:=1) (i:=1) Ho J K8 J))<|Af (.sl 2 (List.map Dy a11.Modes)) J J (Au (A3 hI J J J K8 J))<|Af (.I (j6:Int)) J J Ad<|Af (.cp (Dy a13) 0) J J (Bz (Ea K8 Nv J ha13)) ?_
           refine Af (.agg (Dy a13)) J J (Au (C7 Nv J))<|Af (.ptr (ix ids 11) g11 0 1) J J (Cb (B3 (c:=0) (off:=1) (i:=1) Ho J K8 J))<|Af (.sl 2 (List.map Dy a12.Modes)) J J (Au (A3 hI J J J K8 J))<|Af (.I (j6:Int)) J J Ad<|Ny fun a14 hz6 hx7=>Af (.cp (Dy a14) 0) J J (Bz (Dc K8 Nv J hz6 hx7))<|Af (.agg (Dy a14)) J J (Au (C7 Nv J)) ?_
           refine Af (.bool (!((a13.Name==a14.Name)&&(a13.Places==a14.Places)))) J J (Bh (Akl J J) J Ajo)<|Ck<|D2 J (fun hc7=>?_) (fun hc7=>?_)
           ·refine Ax<|Bi<|O<|Ab 3 [] [(21,(.I (IntKind.wrap .i64 ((j6:Int)+1))))] ?_
            refine Z<|Bo (E8 (hW6 () _ _ ⟨J,J⟩)) (.cons J (.cons J (.cons J (.cons J (.cons J (.cons (Eg (Bg ha13) hlim13) .nil))))))
           refine Y<|O<|Aa (.bool false) J Ai<|Z<|E7<|Fh<|E7 ?_
           refine Fh<|Bl (a:=false) (vs:=[(.bool false)]) Tryz.func12 hI J (.same _)
          rintro _ fr h ⟨rfl,rfl⟩
          refine Al (Fb _ _ _)<|Y<|Y<|O<|Ab 3 [10] [(370,(.sl 2 (List.map Dy a11.Modes))),(368,(.I (a11.Modes.length:Int)))] ?_
          refine Aa (.I (a11.Modes.length:Int)) J (A2 (Bk K8))<|Aa (.bool (decide ((a11.Modes.length:Int)<(a11.Modes.length:Int)))) J (Bh J J J)<|Z<|Df J (Int.lt_irrefl _)<|Cy J<|Bi<|O ?_
          refine Ab 3 [] [(18,(.I (IntKind.wrap .i64 ((j5:Int)+1))))] ?_
          refine Z<|Eb [(some (.rows g 8 [(A6 a)])),(some (.rows g1 8 [(A6 b)])),none,none,none,none,none,none,none,none,none,none] hI J (.keep (.keep (.keep (.keep (.keep (.keep (.keep (.keep (.keep (.keep (.drop (.drop .nil))))))))))))<|Bo (E8 (hW5 () _ _ ⟨J,J⟩)) (.cons J (.cons J (.cons (Eg (Bg ha11) hlim11) .nil)))
         ·refine Az (t:=359) hb48 J<|Ab 8 [] [(367,(.bool true)),(366,.und),(365,.und),(364,.und),(363,.und),(362,.und),(361,.und),(360,.und)] ?_
          exact Bf hJ24 (.cons J (.cons J (.cons J (.cons J (.cons J (.cons (E6 hb48) .nil))))))
         refine Az (t:=359) hb48 J<|Ab 2 [10] [(361,(.sl 2 (List.map Dy a11.Modes))),(360,(.ptr (ix ids 10) g10 0 1))] ?_
         refine By (tj:=359) (.I (a11.Modes.length:Int)) J J J (A2 (Bk K8))<|Ab 2 [11] [(364,(.sl 2 (List.map Dy a12.Modes))),(363,(.ptr (ix ids 11) g11 0 1))] ?_
         refine By (tj:=359) (.I (a12.Modes.length:Int)) J J J (A2 (Bk K8))<|Ab 2 [] [(367,(.bool ((a11.Modes.length:Int) != (a12.Modes.length:Int)))),(366,(.bool ((a11.Modes.length:Int) != (a12.Modes.length:Int))))] ?_
         exact Bf hJ24 (.cons J (.cons J (.cons J (.cons J (.cons J (.cons (E5 hb48) .nil))))))
        rintro _ fr h ⟨rfl,rfl⟩
        refine Al (Fb _ _ _)<|Y<|Y<|O<|Ab 3 [0] [(339,(.sl 2 (List.map Bb a.Airports))),(337,(.I (a.Airports.length:Int)))] ?_
        refine Aa (.I (a.Airports.length:Int)) J (A2 (Bk Lc))<|Aa (.bool (decide ((a.Airports.length:Int)<(a.Airports.length:Int)))) J (Bh J J J)<|Z<|Df J (Int.lt_irrefl _)<|Cy J<|Y<|Y ?_
        refine O<|Aa (.I 0) J Ai<|Z<|Ba<|D6 [(2,(.q ids 0 g)),(3,(.q ids 1 g1)),(22,(.I 0))] (FI J)<|Eo (P:=Tryz.prog) a.Classes (fun j7 a15=>fun _=>Hs b j7 a15) ((Dz (fun _=>(each (fun j8 a17=>fun _=>G1 b j8 a17) 0 a.Rules ()).bind (Dz (fun _=>.ok true) (fun r=>.ok r))) (fun r=>.ok r)):(Unit ⊕ Bool)→R Bool) (fun j7=>fun _=>fun(fr:Nat→AV) (h:Ag)=>fr=A5 [(2,(.q ids 0 g)),(3,(.q ids 1 g1)),(22,(.I (j7:Int)))]∧h=hp h0 ids [(some (.rows g 8 [(A6 a)])),(some (.rows g1 8 [(A6 b)])),none,none,none,none,none,none,none,none,none,none]) () ?_ ?_ ?_
        ·exact⟨J,J⟩
        ·rintro j7 a15 ha15 W hW7 _ fr h ⟨rfl,rfl⟩
         refine Al (m':=Hs b j7 a15) J (Al (Hs.eq_1 _ _ _) ?_)
         refine Y<|Y<|O<|Ab 3 [0] [(388,(.sl 4 (List.map B4 a.Classes))),(386,(.I (j7:Int)))] ?_
         refine Aa (.I (a.Classes.length:Int)) J (A2 (Bk J2))<|Aa (.bool (decide ((j7:Int)<(a.Classes.length:Int)))) J (Bh J J J)<|Z<|Ev (t:=388) (L:=a.Classes) J fun hlim15=>Dg J (Int.ofNat_lt.2 (Bg ha15))<|Ax<|Y ?_
         refine Ba<|Y<|Ct Es [[],[0],[],[0,1,2],[0,1,2,3],[],[5],[],[5,6,7],[5,6,7,8],[0,1,2,3,4,5,6,7,8,9]] [(false,0),(false,1),(false,2),(false,3),(false,4),(false,5),(false,6),(false,7),(false,8),(false,9),(false,10)] (by kernel_rfl)<|Af (.ptr (ix ids 0) g 0 6) J J (Cb (B3 (c:=0) (off:=6) (i:=6) Dl J J2 J))<|Af (.sl 4 (List.map B4 a.Classes)) J J (Au (A3 hI J J J J2 J))<|Af (.I (j7:Int)) J J Ad<|Af (.cp (B4 a15) 0) J J (Bz (Ea J2 Jj J ha15)) ?_
         refine Af (.agg (B4 a15)) J J (Au (C7 Jj J))<|Af (.ptr (ix ids 1) g1 0 6) J J (Cb (B3 (c:=0) (off:=6) (i:=6) Dl J J2 J))<|Af (.sl 4 (List.map B4 b.Classes)) J J (Au (A3 hI J J J J2 J))<|Af (.I (j7:Int)) J J Ad<|Ny fun a16 hz7 hx8=>Af (.cp (B4 a16) 0) J J (Bz (Dc J2 Jj J hz7 hx8))<|Af (.agg (B4 a16)) J J (Au (C7 Jj J)) ?_
         refine Af (.bool (!((a15.Name==a16.Name)&&((a15.Slow==a16.Slow)&&((a15.Fast==a16.Fast)&&(a15.Places==a16.Places)))))) J J (Bh (Ak2 J J) J Akb)<|Ck<|D2 J (fun hc8=>?_) (fun hc8=>?_)
         ·refine Ax<|Bi<|O<|Ab 3 [] [(22,(.I (IntKind.wrap .i64 ((j7:Int)+1))))] ?_
          refine Z<|Bo (E8 (hW7 () _ _ ⟨J,J⟩)) (.cons J (.cons J (.cons (Eg (Bg ha15) hlim15) .nil)))
         refine Y<|O<|Aa (.bool false) J Ai<|Z<|E7<|Fh<|Bl (a:=false) (vs:=[(.bool false)]) Tryz.func12 hI J (.same _)
        rintro _ fr h ⟨rfl,rfl⟩
        refine Al (Fb _ _ _)<|Y<|Y<|O<|Ab 3 [0] [(388,(.sl 4 (List.map B4 a.Classes))),(386,(.I (a.Classes.length:Int)))] ?_
        refine Aa (.I (a.Classes.length:Int)) J (A2 (Bk J2))<|Aa (.bool (decide ((a.Classes.length:Int)<(a.Classes.length:Int)))) J (Bh J J J)<|Z<|Df J (Int.lt_irrefl _)<|Cy J<|Y<|Y ?_
        refine O<|Aa (.I 0) J Ai<|Z<|Ba<|D6 [(2,(.q ids 0 g)),(3,(.q ids 1 g1)),(23,(.I 0))] (FI J)<|Eo (P:=Tryz.prog) a.Rules (fun j8 a17=>fun _=>G1 b j8 a17) ((Dz (fun _=>.ok true) (fun r=>.ok r)):(Unit ⊕ Bool)→R Bool) (fun j8=>fun _=>fun(fr:Nat→AV) (h:Ag)=>fr=A5 [(2,(.q ids 0 g)),(3,(.q ids 1 g1)),(23,(.I (j8:Int)))]∧h=hp h0 ids [(some (.rows g 8 [(A6 a)])),(some (.rows g1 8 [(A6 b)])),none,none,none,none,none,none,none,none,none,none]) () ?_ ?_ ?_
        ·exact⟨J,J⟩
        ·rintro j8 a17 ha17 W hW8 _ fr h ⟨rfl,rfl⟩
         refine Al (m':=G1 b j8 a17) J (Al (G1.eq_1 _ _ _) ?_)
         refine Y<|Y<|O<|Ab 3 [0] [(406,(.sl 8 (List.map Bc a.Rules))),(404,(.I (j8:Int)))] ?_
         refine Aa (.I (a.Rules.length:Int)) J (A2 (Bk Fg))<|Aa (.bool (decide ((j8:Int)<(a.Rules.length:Int)))) J (Bh J J J)<|Z<|Ev (t:=406) (L:=a.Rules) J fun hlim17=>Dg J (Int.ofNat_lt.2 (Bg ha17))<|Ax<|Y ?_
         refine Ba<|Y<|Ct Es [[],[0],[],[0,1,2],[0,1,2,3],[],[5],[],[5,6,7],[5,6,7,8],[0,1,2,3,4,5,6,7,8,9]] [(false,0),(false,1),(false,2),(false,3),(false,4),(false,5),(false,6),(false,7),(false,8),(false,9),(false,10)] (by kernel_rfl)<|Af (.ptr (ix ids 0) g 0 7) J J (Cb (B3 (c:=0) (off:=7) (i:=7) Dl J Fg J))<|Af (.sl 8 (List.map Bc a.Rules)) J J (Au (A3 hI J J J Fg J))<|Af (.I (j8:Int)) J J Ad<|Af (.cp (Bc a17) 0) J J (Bz (Ea Fg D3 J ha17)) ?_
         refine Af (.agg (Bc a17)) J J (Au (C7 D3 J))<|Af (.ptr (ix ids 1) g1 0 7) J J (Cb (B3 (c:=0) (off:=7) (i:=7) Dl J Fg J))<|Af (.sl 8 (List.map Bc b.Rules)) J J (Au (A3 hI J J J Fg J))<|Af (.I (j8:Int)) J J Ad<|Ny fun a18 hz8 hx9=>Af (.cp (Bc a18) 0) J J (Bz (Dc Fg D3 J hz8 hx9))<|Af (.agg (Bc a18)) J J (Au (C7 D3 J)) ?_
         refine Af (.bool (!((a17.Kind==a18.Kind)&&((a17.C==a18.C)&&((a17.A==a18.A)&&((a17.Class==a18.Class)&&((a17.Airport==a18.Airport)&&((a17.N==a18.N)&&((a17.Hours.From==a18.Hours.From)&&(a17.Hours.To==a18.Hours.To)))))))))) J J (Bh (Ahc J J) J Agj)<|Ck<|D2 J (fun hc9=>?_) (fun hc9=>?_)
         ·refine Ax<|Bi<|O<|Ab 3 [] [(23,(.I (IntKind.wrap .i64 ((j8:Int)+1))))] ?_
          refine Z<|Bo (E8 (hW8 () _ _ ⟨J,J⟩)) (.cons J (.cons J (.cons (Eg (Bg ha17) hlim17) .nil)))
         refine Y<|O<|Aa (.bool false) J Ai<|Z<|E7<|Fh<|Bl (a:=false) (vs:=[(.bool false)]) Tryz.func12 hI J (.same _)
        rintro _ fr h ⟨rfl,rfl⟩
        refine Al (Fb _ _ _)<|Y<|Y<|O<|Ab 3 [0] [(406,(.sl 8 (List.map Bc a.Rules))),(404,(.I (a.Rules.length:Int)))] ?_
        refine Aa (.I (a.Rules.length:Int)) J (A2 (Bk Fg))<|Aa (.bool (decide ((a.Rules.length:Int)<(a.Rules.length:Int)))) J (Bh J J J)<|Z<|Df J (Int.lt_irrefl _)<|Cy J<|Y<|O ?_
        refine Aa (.bool true) J Ai<|Z<|Bl (a:=true) (vs:=[(.bool true)]) Tryz.func12 hI J (.same _)
       ·refine Az (t:=85) hb13 J<|Ab 8 [] [(93,(.bool true))] ?_
        exact Bf hJ6 (.cons J (.cons J (.cons (E6 hb13) .nil)))
       refine Az (t:=85) hb13 J<|Ab 2 [0] [(87,(.sl 8 (List.map Bc a.Rules)))] ?_
       refine By (tj:=85) (.I (a.Rules.length:Int)) J J J (A2 (Bk Fg))<|Ab 2 [1] [(90,(.sl 8 (List.map Bc b.Rules)))] ?_
       refine By (tj:=85) (.I (b.Rules.length:Int)) J J J (A2 (Bk Fg))<|Ab 2 [] [(93,(.bool ((a.Rules.length:Int) != (b.Rules.length:Int))))] ?_
       exact Bf hJ6 (.cons J (.cons J (.cons (E5 hb13) .nil)))
      ·refine Az (t:=76) hb11 J<|Ab 8 [] [(84,(.bool true))] ?_
       exact Bf hJ5 (.cons J (.cons J (.cons (E6 hb11) .nil)))
      refine Az (t:=76) hb11 J<|Ab 2 [0] [(78,(.sl 4 (List.map B4 a.Classes)))] ?_
      refine By (tj:=76) (.I (a.Classes.length:Int)) J J J (A2 (Bk J2))<|Ab 2 [1] [(81,(.sl 4 (List.map B4 b.Classes)))] ?_
      refine By (tj:=76) (.I (b.Classes.length:Int)) J J J (A2 (Bk J2))<|Ab 2 [] [(84,(.bool ((a.Classes.length:Int) != (b.Classes.length:Int))))] ?_
      exact Bf hJ5 (.cons J (.cons J (.cons (E5 hb11) .nil)))
     ·refine Az (t:=67) hb9 J<|Ab 8 [] [(75,(.bool true))] ?_
      exact Bf hJ4 (.cons J (.cons J (.cons (E6 hb9) .nil)))
     refine Az (t:=67) hb9 J<|Ab 2 [0] [(69,(.sl 2 (List.map Bb a.Airports)))] ?_
     refine By (tj:=67) (.I (a.Airports.length:Int)) J J J (A2 (Bk Lc))<|Ab 2 [1] [(72,(.sl 2 (List.map Bb b.Airports)))] ?_
     refine By (tj:=67) (.I (b.Airports.length:Int)) J J J (A2 (Bk Lc))<|Ab 2 [] [(75,(.bool ((a.Airports.length:Int) != (b.Airports.length:Int))))] ?_
     exact Bf hJ4 (.cons J (.cons J (.cons (E5 hb9) .nil)))
    ·refine Az (t:=58) hb7 J<|Ab 8 [] [(66,(.bool true))] ?_
     exact Bf hJ3 (.cons J (.cons J (.cons (E6 hb7) .nil)))
    refine Az (t:=58) hb7 J<|Ab 2 [0] [(60,(.sl 7 (List.map Bu a.Routes)))] ?_
    refine By (tj:=58) (.I (a.Routes.length:Int)) J J J (A2 (Bk Ly))<|Ab 2 [1] [(63,(.sl 7 (List.map Bu b.Routes)))] ?_
    refine By (tj:=58) (.I (b.Routes.length:Int)) J J J (A2 (Bk Ly))<|Ab 2 [] [(66,(.bool ((a.Routes.length:Int) != (b.Routes.length:Int))))] ?_
    exact Bf hJ3 (.cons J (.cons J (.cons (E5 hb7) .nil)))
   ·refine Az (t:=49) hb5 J<|Ab 8 [] [(57,(.bool true))] ?_
    exact Bf hJ2 (.cons J (.cons J (.cons (E6 hb5) .nil)))
   refine Az (t:=49) hb5 J<|Ab 2 [0] [(51,(.sl 5 (List.map Be a.Segments)))] ?_
   refine By (tj:=49) (.I (a.Segments.length:Int)) J J J (A2 (Bk L0))<|Ab 2 [1] [(54,(.sl 5 (List.map Be b.Segments)))] ?_
   refine By (tj:=49) (.I (b.Segments.length:Int)) J J J (A2 (Bk L0))<|Ab 2 [] [(57,(.bool ((a.Segments.length:Int) != (b.Segments.length:Int))))] ?_
   exact Bf hJ2 (.cons J (.cons J (.cons (E5 hb5) .nil)))
  ·refine Az (t:=40) hb3 J<|Ab 8 [] [(48,(.bool true))] ?_
   exact Bf hJ1 (.cons J (.cons J (.cons (E6 hb3) .nil)))
  refine Az (t:=40) hb3 J<|Ab 2 [0] [(42,(.sl 3 (List.map Bj a.Configs)))] ?_
  refine By (tj:=40) (.I (a.Configs.length:Int)) J J J (A2 (Bk L1))<|Ab 2 [1] [(45,(.sl 3 (List.map Bj b.Configs)))] ?_
  refine By (tj:=40) (.I (b.Configs.length:Int)) J J J (A2 (Bk L1))<|Ab 2 [] [(48,(.bool ((a.Configs.length:Int) != (b.Configs.length:Int))))] ?_
  exact Bf hJ1 (.cons J (.cons J (.cons (E5 hb3) .nil)))
 ·refine Az (t:=31) hb1 J<|Ab 8 [] [(39,(.bool true))] ?_
  exact Bf hJ (.cons J (.cons J (.cons (E6 hb1) .nil)))
 refine Az (t:=31) hb1 J<|Ab 2 [0] [(33,(.sl 5 (List.map A9 a.Sectors)))] ?_
 refine By (tj:=31) (.I (a.Sectors.length:Int)) J J J (A2 (Bk J1))<|Ab 2 [1] [(36,(.sl 5 (List.map A9 b.Sectors)))] ?_
 refine By (tj:=31) (.I (b.Sectors.length:Int)) J J J (A2 (Bk J1))<|Ab 2 [] [(39,(.bool ((a.Sectors.length:Int) != (b.Sectors.length:Int))))] ?_
 exact Bf hJ (.cons J (.cons J (.cons (E5 hb1) .nil)))
theorem Ti (s1:List Span)(s2:List Span):CP Tryz.prog 64 [(.sl 2 (List.map B7 s1)),(.sl 2 (List.map B7 s2))] (Pm s1 s2) (fun(x:Bool)=>(AV.bool x)):=by
 refine Cd (n:=26) 0 Tryz.func64 J (by decide) J J fun h0 ids hI=>Bn (Al (Pm.eq_1 _ _) ?_)
 refine Y<|O<|Aa (.bool false) J Ai<|Z<|Y<|Y<|O ?_
 refine Aa (.sl 2 (List.map B7 s1)) J Ad<|Aa (.I (s1.length:Int)) J (A2 (Bk Ki))<|Aa (.sl 2 (List.map B7 s2)) J Ad<|Aa (.I (s2.length:Int)) J (A2 (Bk Ki))<|Aa (.bool ((s1.length:Int) != (s2.length:Int))) J (Bh J J J)<|Z<|Bx J (fun hc=>?_) (fun hc=>?_)
 ·refine Y<|O<|Aa (.bool false) J Ai<|Z<|Bl (a:=false) (vs:=[(.bool false)]) Tryz.func64 hI J (.same _)
 refine Ax<|Y<|Y<|O<|Aa (.sl 2 (List.map B7 s1)) J Ad<|Aa (.I (s1.length:Int)) J (A2 (Bk Ki))<|Aa (.I 0) J Ad ?_
 refine Z<|Ba<|D6 [(0,(.sl 2 (List.map B7 s1))),(1,(.sl 2 (List.map B7 s2))),(12,(.I (s1.length:Int))),(13,(.I 0))] (FI J)<|Eo (P:=Tryz.prog) s1 (fun j a=>fun _=>Ob s2 j a) ((Dz (fun _=>.ok true) (fun r=>.ok r)):(Unit ⊕ Bool)→R Bool) (fun j=>fun _=>fun(fr:Nat→AV) (h:Ag)=>fr=A5 [(0,(.sl 2 (List.map B7 s1))),(1,(.sl 2 (List.map B7 s2))),(12,(.I (s1.length:Int))),(13,(.I (j:Int)))]∧h=hp h0 ids []) () ?_ ?_ ?_
 ·exact⟨J,J⟩
 ·rintro j a ha W hW _ fr h ⟨rfl,rfl⟩
  refine Al (m':=Ob s2 j a) J (Al (Ob.eq_1 _ _ _) ?_)
  refine Y<|O<|Aa (.bool (decide ((j:Int)<(s1.length:Int)))) J (Bh J J J)<|Z<|Y<|Ev (t:=0) (L:=s1) J fun hlim=>Dg J (Int.ofNat_lt.2 (Bg ha)) ?_
  refine Ax<|Y<|Ba<|Y<|O<|Ab 2 [] [(5,(.I (j:Int)))] ?_
  refine Z<|Y<|Ct Es [[],[],[0,1],[0,1,2],[],[],[4,5],[4,5,6],[0,1,2,3,4,5,6,7]] [(false,0),(false,1),(false,2),(false,3),(false,4),(false,5),(false,6),(false,7),(false,8)] (by kernel_rfl)<|Af (.sl 2 (List.map B7 s1)) J J Ad<|Af (.I (j:Int)) J J Ad<|Af (.cp (B7 a) 0) J J (Bz (Ea Ki Hz J ha))<|Af (.agg (B7 a)) J J (Au (C7 Hz J)) ?_
  refine Af (.sl 2 (List.map B7 s2)) J J Ad<|Af (.I (j:Int)) J J Ad<|Ny fun a1 hz hx1=>Af (.cp (B7 a1) 0) J J (Bz (Dc Ki Hz J hz hx1))<|Af (.agg (B7 a1)) J J (Au (C7 Hz J))<|Af (.bool (!((a.From==a1.From)&&(a.To==a1.To)))) J J (Bh (Ak0 J J) J Akm)<|Ck ?_
  refine D2 J (fun hc1=>?_) (fun hc1=>?_)
  ·refine Ax<|Bi<|O<|Ab 2 [] [(13,(.I (IntKind.wrap .i64 ((j:Int)+1))))] ?_
   refine Z<|Bo (E8 (hW () _ _ ⟨J,J⟩)) (.cons J (.cons J (.cons J (.cons (Eg (Bg ha) hlim) .nil))))
  refine Y<|O<|Aa (.bool false) J Ai<|Z<|E7<|Fh<|Bl (a:=false) (vs:=[(.bool false)]) Tryz.func64 hI J (.same _)
 rintro _ fr h ⟨rfl,rfl⟩
 refine Al (Fb _ _ _)<|Y<|O<|Aa (.bool (decide ((s1.length:Int)<(s1.length:Int)))) J (Bh J J J)<|Z<|Y<|Df J (Int.lt_irrefl _) ?_
 refine Cy J<|Y<|O<|Aa (.bool true) J Ai<|Z<|Bl (a:=true) (vs:=[(.bool true)]) Tryz.func64 hI J (.same _)
end Go.Am
