/- Written by shrink.py from texts of ours: comments struck, what is not reached left out, names short. -/
import Derived.Test.YtjidhdlbojmlfaaGreatDoorU6
import Derived.Test.YtjidhdlbojmlfaaGreatDoorU4
import Derived.Test.YtjidhdlbojmlfaaGreatDoorRows
import Derived.KernelRfl
import Derived.Test.YtjidhdlbojmlfaaGreatDoorCards
import Derived.Test.YtjidhdlbojmlfaaGreatDoorTie
import Derived.SevenTiedAt
import Derived.LaidMore
import Derived.LaidSub
namespace Go.Am
open Go Go.Proofs
set_option maxRecDepth 100000
set_option maxHeartbeats 4000000
set_option linter.unusedSimpArgs false
set_option linter.unusedVariables false
theorem Sb (text:Av)(l:List Config)(most:Int)(s0_bad:Bool)(l1:List Token)(h0:Ae)(o0:Nat)(o1:Nat)(o2:Nat)(g:Nat)(v1:AV)(g1:Nat)(g2:Nat)(vH:Az v1 o1 g1 l1.length)(hI0:Ids h0 [o0,o1,o2] 3):Jr text l most s0_bad l1≠.bad→Bh Tryz.prog 38 [(.ptr o0 g 0 0),(.str text),(.sl 3 (List.map Bl l)),(.int .i64 most),(.func (.func 39) [] [(.ptr o2 g2 0 0)])] (hp h0 [o0,o1,o2] [some (.rows g 2 [[v1,(.bool s0_bad)]]),Ai v1 g1 4 (List.map Ab l1),some (.rows g2 1 [[(.ptr o0 g 0 0)]])]) (Ce (fun a_ v h' => ∃ (v7:AV),∃ (g9:Nat),Az v7 o1 g9 a_.2.length∧v=(.tup [])∧h'=hp h0 [o0,o1,o2] [some (.rows g 2 [[v7,(.bool a_.1)]]),Ai v7 g9 4 (List.map Ab a_.2),some (.rows g2 1 [[(.ptr o0 g 0 0)]])]) h0 (Jr text l most s0_bad l1)):=by
 refine A6 (n:=44) 1 Tryz.func38 J (by decide) J J hI0 J fun ids he hI=>?_
 clear hI0
 obtain rfl:ix ids 0=o0:=he 0 rfl
 obtain rfl:ix ids 1=o1:=he 1 rfl
 obtain rfl:ix ids 2=o2:=he 2 rfl
 clear he
 refine Bk (Al (Jr.eq_1 _ _ _ _ _) ?_)
 refine Aj ?_
 refine Y<|O<|Ac 6 [0] [(17,(.bool s0_bad)),(12,(.q ids 0 g))] ?_
 refine Br 5 [(0,(.q ids 0 g)),(1,(.str text)),(2,(.sl 3 (List.map Bl l))),(4,(.func (.func 39) [] [(.q ids 2 g2)])),(12,(.q ids 0 g)),(22,(.bool (s0_bad||(decide ((l.length:Int) > most)))))] ?_ fun hJ=>Bm s0_bad (fun hb1=>?_) (fun hb1=>?_)
 ·refine Ac 2 [] [(24,(.ptr (ix ids 0) g 0 1))] ?_
  refine Aq (Aw (v:=(.bool (s0_bad||(decide ((l.length:Int) > most))))) hI J J J J Og J J J J J)<|Z<|Aj ?_
  refine Y<|O<|Aa (.sl 3 (List.map Bl l)) J Ad<|Aa (.I (l.length:Int)) J (A3 (Be Mm))<|Aa (.I 0) J Ad<|Z<|A9 ?_
  refine D0 [(0,(.q ids 0 g)),(1,(.str text)),(4,(.func (.func 39) [] [(.q ids 2 g2)])),(25,(.sl 3 (List.map Bl l))),(26,(.I (l.length:Int))),(27,(.I 0))] (FI J)<|Iu (P:=Tryz.prog) l (fun _ a=>Cz fun fBad l2=>Io text a fBad l2) (((Cz fun fBad l2=>.ok (fBad,l2))):(Bool×(List Token))→R (Bool×(List Token))) (fun j=>Cz fun fBad l2=>fun(fr:Nat→AV) (h:Ae) => ∃ (v2:AV),∃ (g3:Nat),Az v2 (ix ids 1) g3 l2.length∧fr=A2 [(0,(.q ids 0 g)),(1,(.str text)),(4,(.func (.func 39) [] [(.q ids 2 g2)])),(25,(.sl 3 (List.map Bl l))),(26,(.I (l.length:Int))),(27,(.I (j:Int)))]∧h=hp h0 ids [(some (.rows g 2 [[v2,(.bool fBad)]])),(Ai v2 g3 4 (List.map Ab l2)),(some (.rows g2 1 [[(.q ids 0 g)]])),none]) ((s0_bad||(decide ((l.length:Int) > most))),l1) ?_ ?_ ?_
  ·exact⟨v1,g1,vH,J,J⟩
  ·rintro j a ha W hW ⟨fBad,l2⟩ fr h ⟨v2,g3,vH1,rfl,rfl⟩
   refine Al (m':=Io text a fBad l2) J (Al (Io.eq_1 _ _ _ _) ?_)
   refine Y<|O<|Aa (.bool (decide ((j:Int)<(l.length:Int)))) J (Bc J J J)<|Z<|Y<|Dz (t:=25) (L:=l) J fun hlim=>Cw J (Int.ofNat_lt.2 (A7 ha)) ?_
   refine Ay<|Y<|A9<|Y<|O<|Aa (.cp (Bl a) 0) J (Bt (Db Mm J6 J ha))<|Aa (.agg (Bl a)) J (As (Cf J6 J)) ?_
   refine Bb (j:=3) hI J J J J J6 J fun g4=>Aq (Aw (v:=(.agg (Bl a))) hI J J J J J6 J J J J J)<|Z<|Aj ?_
   refine Y<|Y<|O<|Ac 2 [] [(32,(.bool (!(text==[]))))] ?_
   refine Z<|Dv (Cz fun fBad1 l3=>Ih a fBad1 l3) (Cz fun fBad1 l3=>fun(fr:Nat→AV) (h:Ae) => ∃ (v4:AV),∃ (g6:Nat),Az v4 (ix ids 1) g6 l3.length∧fr=A2 [(0,(.q ids 0 g)),(1,(.str text)),(4,(.func (.func 39) [] [(.q ids 2 g2)])),(11,(.q ids 3 g4)),(25,(.sl 3 (List.map Bl l))),(26,(.I (l.length:Int))),(27,(.I (j:Int)))]∧h=hp h0 ids [(some (.rows g 2 [[v4,(.bool fBad1)]])),(Ai v4 g6 4 (List.map Ab l3)),(some (.rows g2 1 [[(.q ids 0 g)]])),(some (.rows g4 3 [(Bl a)]))]) ?_ fun hJ1=>?_
   ·rintro⟨fBad1,l3⟩ fr h ⟨v4,g6,vH3,rfl,rfl⟩
    refine Al (Ih.eq_1 _ _ _)<|Y<|O<|Ac 2 [3] [(38,(.agg (Bl a))),(37,(.func (.func 39) [] [(.q ids 2 g2)]))] ?_
    refine Ak [2,0,1] hI J J (Wy a fBad1 l3 _ (ix ids 2) (ix ids 0) (ix ids 1) g2 g v4 g6 vH3 (by exact hI.sub' J J)) J J J J J J (fun v _=>Ao (K:=3) (N:=1) Tryz.func38 hI) ?_
    rintro r1 _ _ _ ⟨v5,g7,vH4,rfl,rfl⟩
    refine Au [2,0,1] hI J J J ?_
    refine Ap<|Z<|Aj ?_
    refine O<|Aa (.q ids 0 g) J Ad<|C8 (e:=rS) (L:=[[59]]) (st:=1) (rows:=[[(.str [59])]]) J Dl Cg J J J J J (.cons (RowSim.refl _) .nil) (fun x=>Fy x) J J<|Ak [0,1] hI J J (Cy [[59]] r1.1 r1.2 _ (ix ids 0) (ix ids 1) g v5 g7 vH4 (by exact hI.sub' J J)) J J J J J J (fun v _=>Ao (K:=3) (N:=1) Tryz.func38 hI) ?_
    rintro r2 _ _ _ ⟨v6,g8,vH5,rfl,rfl⟩
    refine Au [0,1] hI J J J ?_
    refine Ap<|Z<|Aj ?_
    refine Bn<|O<|Ac 2 [] [(27,(.I (IntKind.wrap .i64 ((j:Int)+1))))] ?_
    refine Z<|D2 [(some (.rows g 2 [[v6,(.bool r2.1)]])),(Ai v6 g8 4 (List.map Ab r2.2)),(some (.rows g2 1 [[(.q ids 0 g)]])),none] hI J (.keep (.keep (.keep (.drop .nil))))<|Bo (Qy (hW (r2.1,r2.2) _ _ ⟨v6,g8,vH5,J,J⟩)) (.cons J (.cons J (.cons J (.cons J (.cons J (.cons (Dw (A7 ha) hlim) .nil))))))
   refine Dx J (fun hc=>?_) (fun hc=>?_)
   ·refine Ay<|Bo (hJ1 (fBad,l2) _ _ ⟨v2,g3,vH1,J,J⟩)
   refine O<|Ac 2 [] [(34,(.str text)),(33,(.q ids 0 g))] ?_
   refine C8 (e:=rS) (L:=[text]) (st:=1) (rows:=[[(.str text)]]) J Dl Cg J J J J J (.cons (RowSim.refl _) .nil) (fun x=>Fy x) J J<|Ak [0,1] hI J J (Bu [text] fBad l2 _ (ix ids 0) (ix ids 1) g v2 g3 vH1 (by exact hI.sub' J J)) J J J J J J (fun v _=>Ao (K:=3) (N:=1) Tryz.func38 hI) ?_
   rintro r _ _ _ ⟨v3,g5,vH2,rfl,rfl⟩
   refine Au [0,1] hI J J J ?_
   refine Ap<|Z<|Aj ?_
   exact Bo (hJ1 (r.1,r.2) _ _ ⟨v3,g5,vH2,J,J⟩)
  rintro⟨fBad,l2⟩ fr h ⟨v2,g3,vH1,rfl,rfl⟩
  refine Al (Ns _ _ _)<|Y<|O<|Aa (.bool (decide ((l.length:Int)<(l.length:Int)))) J (Bc J J J)<|Z<|Y<|Cx J (Int.lt_irrefl _) ?_
  refine C4 J<|B2 (K:=3) (N:=1) (a:=(fBad,l2)) (vs:=[]) [some (.rows g 2 [[v2,(.bool fBad)]]),Ai v2 g3 4 (List.map Ab l2),some (.rows g2 1 [[(.q ids 0 g)]])] Tryz.func38 hI J J J (.keep (.keep (.keep (.keep .nil)))) (.same _) ⟨v2,g3,vH1,J,J⟩
 ·refine Ax (t:=17) hb1 J<|Ac 5 [] [(22,(.bool true))] ?_
  exact A5 hJ (.cons J (.cons J (.cons J (.cons J (.cons J (.cons (D9 hb1) .nil))))))
 refine Ax (t:=17) hb1 J<|By (tj:=17) (.sl 3 (List.map Bl l)) J J J Ad<|By (tj:=17) (.I (l.length:Int)) J J J (A3 (Be Mm))<|Ac 3 [] [(22,(.bool (decide ((l.length:Int) > most))))] ?_
 exact A5 hJ (.cons J (.cons J (.cons J (.cons J (.cons J (.cons (Eb hb1) .nil))))))
theorem W0 (a:Segment)(s1_bad:Bool)(l:List Token)(h0:Ae)(o0:Nat)(o1:Nat)(o2:Nat)(g:Nat)(g1:Nat)(v1:AV)(g2:Nat)(vH:Az v1 o2 g2 l.length)(hI0:Ids h0 [o0,o1,o2] 3):Nj a s1_bad l≠.bad→Bh Tryz.prog 41 [(.agg (Bf a)),(.ptr o0 g 0 0)] (hp h0 [o0,o1,o2] [some (.rows g 1 [[(.ptr o1 g1 0 0)]]),some (.rows g1 2 [[v1,(.bool s1_bad)]]),Ai v1 g2 4 (List.map Ab l)]) (Ce (fun a_ v h' => ∃ (v8:AV),∃ (g10:Nat),Az v8 o2 g10 a_.2.length∧v=(.tup [])∧h'=hp h0 [o0,o1,o2] [some (.rows g 1 [[(.ptr o1 g1 0 0)]]),some (.rows g1 2 [[v8,(.bool a_.1)]]),Ai v8 g10 4 (List.map Ab a_.2)]) h0 (Nj a s1_bad l)):=by
 refine A6 (n:=25) 1 Tryz.func41 J (by decide) J J hI0 J fun ids he hI=>?_
 clear hI0
 obtain rfl:ix ids 0=o0:=he 0 rfl
 obtain rfl:ix ids 1=o1:=he 1 rfl
 obtain rfl:ix ids 2=o2:=he 2 rfl
 clear he
 refine Bk (Al (Nj.eq_1 _ _ _) ?_)
 refine Aj ?_
 refine Y<|O<|Ck (v:=(.agg (Bf a))) (j:=3) hI J J J J J J J fun g3=>Z<|Aj ?_
 refine Y<|O<|Ac 3 [0,3] [(5,(.str a.Name)),(3,(.q ids 1 g1))] ?_
 refine Ak [1,2] hI J J (Cr a.Name s1_bad l _ (ix ids 1) (ix ids 2) g1 v1 g2 vH (by exact hI.sub' J J)) J J J J J J (fun v _=>Ao (K:=3) (N:=1) Tryz.func41 hI) ?_
 rintro r _ _ _ ⟨v2,g4,vH1,rfl,rfl⟩
 refine Au [1,2] hI J J J ?_
 refine Ap<|Z<|Aj ?_
 refine Y<|O<|Ac 1 [0] [(7,(.q ids 1 g1))] ?_
 refine C8 (e:=rS) (L:=[[105,110]]) (st:=1) (rows:=[[(.str [105,110])]]) J Dl Cg J J J J J (.cons (RowSim.refl _) .nil) (fun x=>Fy x) J J<|Ak [1,2] hI J J (Bu [[105,110]] r.1 r.2 _ (ix ids 1) (ix ids 2) g1 v2 g4 vH1 (by exact hI.sub' J J)) J J J J J J (fun v _=>Ao (K:=3) (N:=1) Tryz.func41 hI) ?_
 rintro r1 _ _ _ ⟨v3,g5,vH2,rfl,rfl⟩
 refine Au [1,2] hI J J J ?_
 refine Ap<|Z<|Aj ?_
 refine Y<|O<|Ac 3 [0,3] [(12,(.str a.In)),(10,(.q ids 1 g1))] ?_
 refine Ak [1,2] hI J J (Cr a.In r1.1 r1.2 _ (ix ids 1) (ix ids 2) g1 v3 g5 vH2 (by exact hI.sub' J J)) J J J J J J (fun v _=>Ao (K:=3) (N:=1) Tryz.func41 hI) ?_
 rintro r2 _ _ _ ⟨v4,g6,vH3,rfl,rfl⟩
 refine Au [1,2] hI J J J ?_
 refine Ap<|Z<|Aj ?_
 refine Y<|O<|Ac 1 [0] [(14,(.q ids 1 g1))] ?_
 refine C8 (e:=rS) (L:=[[108,101,110,103,116,104]]) (st:=1) (rows:=[[(.str [108,101,110,103,116,104])]]) J Dl Cg J J J J J (.cons (RowSim.refl _) .nil) (fun x=>Fy x) J J<|Ak [1,2] hI J J (Bu [[108,101,110,103,116,104]] r2.1 r2.2 _ (ix ids 1) (ix ids 2) g1 v4 g6 vH3 (by exact hI.sub' J J)) J J J J J J (fun v _=>Ao (K:=3) (N:=1) Tryz.func41 hI) ?_
 rintro r3 _ _ _ ⟨v5,g7,vH4,rfl,rfl⟩
 refine Au [1,2] hI J J J ?_
 refine Ap<|Z<|Aj ?_
 refine Y<|O<|Ac 3 [0,3] [(19,(.I a.Length)),(17,(.q ids 1 g1))] ?_
 refine Ak [1,2] hI J J (C7 a.Length 1 4096 r3.1 r3.2 _ (ix ids 1) (ix ids 2) g1 v5 g7 vH4 (by exact hI.sub' J J)) J J J J J J (fun v _=>Ao (K:=3) (N:=1) Tryz.func41 hI) ?_
 rintro r4 _ _ _ ⟨v6,g8,vH5,rfl,rfl⟩
 refine Au [1,2] hI J J J ?_
 refine Ap<|Z<|Aj ?_
 refine O<|Ac 3 [0,3] [(23,(.sl 2 (List.map B4 a.Open))),(21,(.q ids 1 g1))] ?_
 refine Ak [1,2] hI J J (Ox [111,112,101,110] a.Open (r3.1||(!((decide (a.Length≥1))&&(decide (a.Length≤4096))))) r4 _ (ix ids 1) (ix ids 2) g1 v6 g8 vH5 (by exact hI.sub' J J)) J J J J J J (fun v _=>Ao (K:=3) (N:=1) Tryz.func41 hI) ?_
 rintro r5 _ _ _ ⟨v7,g9,vH6,rfl,rfl⟩
 refine Au [1,2] hI J J J ?_
 refine Ap<|Z<|Aj ?_
 exact B2 (K:=3) (N:=1) (a:=(r5.1,r5.2)) (vs:=[]) [some (.rows g 1 [[(.q ids 1 g1)]]),some (.rows g1 2 [[v7,(.bool r5.1)]]),Ai v7 g9 4 (List.map Ab r5.2)] Tryz.func41 hI J J J (.keep (.keep (.keep (.drop .nil)))) (.same _) ⟨v7,g9,vH6,J,J⟩
theorem Ry (text:Av)(l:List Segment)(most:Int)(s0_bad:Bool)(l1:List Token)(h0:Ae)(o0:Nat)(o1:Nat)(o2:Nat)(g:Nat)(v1:AV)(g1:Nat)(g2:Nat)(vH:Az v1 o1 g1 l1.length)(hI0:Ids h0 [o0,o1,o2] 3):Jp text l most s0_bad l1≠.bad→Bh Tryz.prog 40 [(.ptr o0 g 0 0),(.str text),(.sl 5 (List.map Bf l)),(.int .i64 most),(.func (.func 41) [] [(.ptr o2 g2 0 0)])] (hp h0 [o0,o1,o2] [some (.rows g 2 [[v1,(.bool s0_bad)]]),Ai v1 g1 4 (List.map Ab l1),some (.rows g2 1 [[(.ptr o0 g 0 0)]])]) (Ce (fun a_ v h' => ∃ (v7:AV),∃ (g9:Nat),Az v7 o1 g9 a_.2.length∧v=(.tup [])∧h'=hp h0 [o0,o1,o2] [some (.rows g 2 [[v7,(.bool a_.1)]]),Ai v7 g9 4 (List.map Ab a_.2),some (.rows g2 1 [[(.ptr o0 g 0 0)]])]) h0 (Jp text l most s0_bad l1)):=by
 refine A6 (n:=44) 1 Tryz.func40 J (by decide) J J hI0 J fun ids he hI=>?_
 clear hI0
 obtain rfl:ix ids 0=o0:=he 0 rfl
 obtain rfl:ix ids 1=o1:=he 1 rfl
 obtain rfl:ix ids 2=o2:=he 2 rfl
 clear he
 refine Bk (Al (Jp.eq_1 _ _ _ _ _) ?_)
 refine Aj ?_
 refine Y<|O<|Ac 6 [0] [(17,(.bool s0_bad)),(12,(.q ids 0 g))] ?_
 refine Br 5 [(0,(.q ids 0 g)),(1,(.str text)),(2,(.sl 5 (List.map Bf l))),(4,(.func (.func 41) [] [(.q ids 2 g2)])),(12,(.q ids 0 g)),(22,(.bool (s0_bad||(decide ((l.length:Int) > most)))))] ?_ fun hJ=>Bm s0_bad (fun hb1=>?_) (fun hb1=>?_)
 ·refine Ac 2 [] [(24,(.ptr (ix ids 0) g 0 1))] ?_
  refine Aq (Aw (v:=(.bool (s0_bad||(decide ((l.length:Int) > most))))) hI J J J J Og J J J J J)<|Z<|Aj ?_
  refine Y<|O<|Aa (.sl 5 (List.map Bf l)) J Ad<|Aa (.I (l.length:Int)) J (A3 (Be Mn))<|Aa (.I 0) J Ad<|Z<|A9 ?_
  refine D0 [(0,(.q ids 0 g)),(1,(.str text)),(4,(.func (.func 41) [] [(.q ids 2 g2)])),(25,(.sl 5 (List.map Bf l))),(26,(.I (l.length:Int))),(27,(.I 0))] (FI J)<|Iu (P:=Tryz.prog) l (fun _ a=>Cz fun fBad l2=>Hh text a fBad l2) (((Cz fun fBad l2=>.ok (fBad,l2))):(Bool×(List Token))→R (Bool×(List Token))) (fun j=>Cz fun fBad l2=>fun(fr:Nat→AV) (h:Ae) => ∃ (v2:AV),∃ (g3:Nat),Az v2 (ix ids 1) g3 l2.length∧fr=A2 [(0,(.q ids 0 g)),(1,(.str text)),(4,(.func (.func 41) [] [(.q ids 2 g2)])),(25,(.sl 5 (List.map Bf l))),(26,(.I (l.length:Int))),(27,(.I (j:Int)))]∧h=hp h0 ids [(some (.rows g 2 [[v2,(.bool fBad)]])),(Ai v2 g3 4 (List.map Ab l2)),(some (.rows g2 1 [[(.q ids 0 g)]])),none]) ((s0_bad||(decide ((l.length:Int) > most))),l1) ?_ ?_ ?_
  ·exact⟨v1,g1,vH,J,J⟩
  ·rintro j a ha W hW ⟨fBad,l2⟩ fr h ⟨v2,g3,vH1,rfl,rfl⟩
   refine Al (m':=Hh text a fBad l2) J (Al (Hh.eq_1 _ _ _ _) ?_)
   refine Y<|O<|Aa (.bool (decide ((j:Int)<(l.length:Int)))) J (Bc J J J)<|Z<|Y<|Dz (t:=25) (L:=l) J fun hlim=>Cw J (Int.ofNat_lt.2 (A7 ha)) ?_
   refine Ay<|Y<|A9<|Y<|O<|Aa (.cp (Bf a) 0) J (Bt (Db Mn Id J ha))<|Aa (.agg (Bf a)) J (As (Cf Id J)) ?_
   refine Bb (j:=3) hI J J J J Id J fun g4=>Aq (Aw (v:=(.agg (Bf a))) hI J J J J Id J J J J J)<|Z<|Aj ?_
   refine Y<|Y<|O<|Ac 2 [] [(32,(.bool (!(text==[]))))] ?_
   refine Z<|Dv (Cz fun fBad1 l3=>Hq a fBad1 l3) (Cz fun fBad1 l3=>fun(fr:Nat→AV) (h:Ae) => ∃ (v4:AV),∃ (g6:Nat),Az v4 (ix ids 1) g6 l3.length∧fr=A2 [(0,(.q ids 0 g)),(1,(.str text)),(4,(.func (.func 41) [] [(.q ids 2 g2)])),(11,(.q ids 3 g4)),(25,(.sl 5 (List.map Bf l))),(26,(.I (l.length:Int))),(27,(.I (j:Int)))]∧h=hp h0 ids [(some (.rows g 2 [[v4,(.bool fBad1)]])),(Ai v4 g6 4 (List.map Ab l3)),(some (.rows g2 1 [[(.q ids 0 g)]])),(some (.rows g4 5 [(Bf a)]))]) ?_ fun hJ1=>?_
   ·rintro⟨fBad1,l3⟩ fr h ⟨v4,g6,vH3,rfl,rfl⟩
    refine Al (Hq.eq_1 _ _ _)<|Y<|O<|Ac 2 [3] [(38,(.agg (Bf a))),(37,(.func (.func 41) [] [(.q ids 2 g2)]))] ?_
    refine Ak [2,0,1] hI J J (W0 a fBad1 l3 _ (ix ids 2) (ix ids 0) (ix ids 1) g2 g v4 g6 vH3 (by exact hI.sub' J J)) J J J J J J (fun v _=>Ao (K:=3) (N:=1) Tryz.func40 hI) ?_
    rintro r1 _ _ _ ⟨v5,g7,vH4,rfl,rfl⟩
    refine Au [2,0,1] hI J J J ?_
    refine Ap<|Z<|Aj ?_
    refine O<|Aa (.q ids 0 g) J Ad<|C8 (e:=rS) (L:=[[59]]) (st:=1) (rows:=[[(.str [59])]]) J Dl Cg J J J J J (.cons (RowSim.refl _) .nil) (fun x=>Fy x) J J<|Ak [0,1] hI J J (Cy [[59]] r1.1 r1.2 _ (ix ids 0) (ix ids 1) g v5 g7 vH4 (by exact hI.sub' J J)) J J J J J J (fun v _=>Ao (K:=3) (N:=1) Tryz.func40 hI) ?_
    rintro r2 _ _ _ ⟨v6,g8,vH5,rfl,rfl⟩
    refine Au [0,1] hI J J J ?_
    refine Ap<|Z<|Aj ?_
    refine Bn<|O<|Ac 2 [] [(27,(.I (IntKind.wrap .i64 ((j:Int)+1))))] ?_
    refine Z<|D2 [(some (.rows g 2 [[v6,(.bool r2.1)]])),(Ai v6 g8 4 (List.map Ab r2.2)),(some (.rows g2 1 [[(.q ids 0 g)]])),none] hI J (.keep (.keep (.keep (.drop .nil))))<|Bo (Qy (hW (r2.1,r2.2) _ _ ⟨v6,g8,vH5,J,J⟩)) (.cons J (.cons J (.cons J (.cons J (.cons J (.cons (Dw (A7 ha) hlim) .nil))))))
   refine Dx J (fun hc=>?_) (fun hc=>?_)
   ·refine Ay<|Bo (hJ1 (fBad,l2) _ _ ⟨v2,g3,vH1,J,J⟩)
   refine O<|Ac 2 [] [(34,(.str text)),(33,(.q ids 0 g))] ?_
   refine C8 (e:=rS) (L:=[text]) (st:=1) (rows:=[[(.str text)]]) J Dl Cg J J J J J (.cons (RowSim.refl _) .nil) (fun x=>Fy x) J J<|Ak [0,1] hI J J (Bu [text] fBad l2 _ (ix ids 0) (ix ids 1) g v2 g3 vH1 (by exact hI.sub' J J)) J J J J J J (fun v _=>Ao (K:=3) (N:=1) Tryz.func40 hI) ?_
   rintro r _ _ _ ⟨v3,g5,vH2,rfl,rfl⟩
   refine Au [0,1] hI J J J ?_
   refine Ap<|Z<|Aj ?_
   exact Bo (hJ1 (r.1,r.2) _ _ ⟨v3,g5,vH2,J,J⟩)
  rintro⟨fBad,l2⟩ fr h ⟨v2,g3,vH1,rfl,rfl⟩
  refine Al (Ns _ _ _)<|Y<|O<|Aa (.bool (decide ((l.length:Int)<(l.length:Int)))) J (Bc J J J)<|Z<|Y<|Cx J (Int.lt_irrefl _) ?_
  refine C4 J<|B2 (K:=3) (N:=1) (a:=(fBad,l2)) (vs:=[]) [some (.rows g 2 [[v2,(.bool fBad)]]),Ai v2 g3 4 (List.map Ab l2),some (.rows g2 1 [[(.q ids 0 g)]])] Tryz.func40 hI J J J (.keep (.keep (.keep (.keep .nil)))) (.same _) ⟨v2,g3,vH1,J,J⟩
 ·refine Ax (t:=17) hb1 J<|Ac 5 [] [(22,(.bool true))] ?_
  exact A5 hJ (.cons J (.cons J (.cons J (.cons J (.cons J (.cons (D9 hb1) .nil))))))
 refine Ax (t:=17) hb1 J<|By (tj:=17) (.sl 5 (List.map Bf l)) J J J Ad<|By (tj:=17) (.I (l.length:Int)) J J J (A3 (Be Mn))<|Ac 3 [] [(22,(.bool (decide ((l.length:Int) > most))))] ?_
 exact A5 hJ (.cons J (.cons J (.cons J (.cons J (.cons J (.cons (Eb hb1) .nil))))))
theorem Wu (a:Route)(s1_bad:Bool)(l:List Token)(h0:Ae)(o0:Nat)(o1:Nat)(o2:Nat)(g:Nat)(g1:Nat)(v1:AV)(g2:Nat)(vH:Az v1 o2 g2 l.length)(hI0:Ids h0 [o0,o1,o2] 3):Nh a s1_bad l≠.bad→Bh Tryz.prog 43 [(.agg (Bs a)),(.ptr o0 g 0 0)] (hp h0 [o0,o1,o2] [some (.rows g 1 [[(.ptr o1 g1 0 0)]]),some (.rows g1 2 [[v1,(.bool s1_bad)]]),Ai v1 g2 4 (List.map Ab l)]) (Ce (fun a_ v h' => ∃ (v9:AV),∃ (g11:Nat),Az v9 o2 g11 a_.2.length∧v=(.tup [])∧h'=hp h0 [o0,o1,o2] [some (.rows g 1 [[(.ptr o1 g1 0 0)]]),some (.rows g1 2 [[v9,(.bool a_.1)]]),Ai v9 g11 4 (List.map Ab a_.2)]) h0 (Nh a s1_bad l)):=by
 refine A6 (n:=30) 1 Tryz.func43 J (by decide) J J hI0 J fun ids he hI=>?_
 clear hI0
 obtain rfl:ix ids 0=o0:=he 0 rfl
 obtain rfl:ix ids 1=o1:=he 1 rfl
 obtain rfl:ix ids 2=o2:=he 2 rfl
 clear he
 refine Bk (Al (Nh.eq_1 _ _ _) ?_)
 refine Aj ?_
 refine Y<|O<|Ck (v:=(.agg (Bs a))) (j:=3) hI J J J J J J J fun g3=>Z<|Aj ?_
 refine Y<|O<|Ac 3 [0,3] [(5,(.str a.Name)),(3,(.q ids 1 g1))] ?_
 refine Ak [1,2] hI J J (Cr a.Name s1_bad l _ (ix ids 1) (ix ids 2) g1 v1 g2 vH (by exact hI.sub' J J)) J J J J J J (fun v _=>Ao (K:=3) (N:=1) Tryz.func43 hI) ?_
 rintro r _ _ _ ⟨v2,g4,vH1,rfl,rfl⟩
 refine Au [1,2] hI J J J ?_
 refine Ap<|Z<|Aj ?_
 refine Y<|O<|Ac 1 [0] [(7,(.q ids 1 g1))] ?_
 refine C8 (e:=rS) (L:=[[102,114,111,109]]) (st:=1) (rows:=[[(.str [102,114,111,109])]]) J Dl Cg J J J J J (.cons (RowSim.refl _) .nil) (fun x=>Fy x) J J<|Ak [1,2] hI J J (Bu [[102,114,111,109]] r.1 r.2 _ (ix ids 1) (ix ids 2) g1 v2 g4 vH1 (by exact hI.sub' J J)) J J J J J J (fun v _=>Ao (K:=3) (N:=1) Tryz.func43 hI) ?_
 rintro r1 _ _ _ ⟨v3,g5,vH2,rfl,rfl⟩
 refine Au [1,2] hI J J J ?_
 refine Ap<|Z<|Aj ?_
 refine Y<|O<|Ac 3 [0,3] [(12,(.str a.A)),(10,(.q ids 1 g1))] ?_
 refine Ak [1,2] hI J J (Cr a.A r1.1 r1.2 _ (ix ids 1) (ix ids 2) g1 v3 g5 vH2 (by exact hI.sub' J J)) J J J J J J (fun v _=>Ao (K:=3) (N:=1) Tryz.func43 hI) ?_
 rintro r2 _ _ _ ⟨v4,g6,vH3,rfl,rfl⟩
 refine Au [1,2] hI J J J ?_
 refine Ap<|Z<|Aj ?_
 refine Y<|O<|Ac 1 [0] [(14,(.q ids 1 g1))] ?_
 refine C8 (e:=rS) (L:=[[116,111]]) (st:=1) (rows:=[[(.str [116,111])]]) J Dl Cg J J J J J (.cons (RowSim.refl _) .nil) (fun x=>Fy x) J J<|Ak [1,2] hI J J (Bu [[116,111]] r2.1 r2.2 _ (ix ids 1) (ix ids 2) g1 v4 g6 vH3 (by exact hI.sub' J J)) J J J J J J (fun v _=>Ao (K:=3) (N:=1) Tryz.func43 hI) ?_
 rintro r3 _ _ _ ⟨v5,g7,vH4,rfl,rfl⟩
 refine Au [1,2] hI J J J ?_
 refine Ap<|Z<|Aj ?_
 refine Y<|O<|Ac 3 [0,3] [(19,(.str a.B)),(17,(.q ids 1 g1))] ?_
 refine Ak [1,2] hI J J (Cr a.B r3.1 r3.2 _ (ix ids 1) (ix ids 2) g1 v5 g7 vH4 (by exact hI.sub' J J)) J J J J J J (fun v _=>Ao (K:=3) (N:=1) Tryz.func43 hI) ?_
 rintro r4 _ _ _ ⟨v6,g8,vH5,rfl,rfl⟩
 refine Au [1,2] hI J J J ?_
 refine Ap<|Z<|Aj ?_
 refine Y<|O<|Ac 1 [0] [(21,(.q ids 1 g1))] ?_
 refine C8 (e:=rS) (L:=[[118,105,97]]) (st:=1) (rows:=[[(.str [118,105,97])]]) J Dl Cg J J J J J (.cons (RowSim.refl _) .nil) (fun x=>Fy x) J J<|Ak [1,2] hI J J (Bu [[118,105,97]] r4.1 r4.2 _ (ix ids 1) (ix ids 2) g1 v6 g8 vH5 (by exact hI.sub' J J)) J J J J J J (fun v _=>Ao (K:=3) (N:=1) Tryz.func43 hI) ?_
 rintro r5 _ _ _ ⟨v7,g9,vH6,rfl,rfl⟩
 refine Au [1,2] hI J J J ?_
 refine Ap<|Z<|Aj ?_
 refine O<|Ac 5 [0,3,0] [(28,(.func (.func 30) [(.q ids 1 g1)] [])),(26,(.sl 1 (List.map rS a.Names))),(24,(.q ids 1 g1))] ?_
 refine Ak [1,2] hI J J (Lg a.Names 8 r5.1 r5.2 _ (ix ids 1) (ix ids 2) g1 v7 g9 vH6 (by exact hI.sub' J J)) J J J J J J (fun v _=>Ao (K:=3) (N:=1) Tryz.func43 hI) ?_
 rintro r6 _ _ _ ⟨v8,g10,vH7,rfl,rfl⟩
 refine Au [1,2] hI J J J ?_
 refine Ap<|Z<|Aj ?_
 exact B2 (K:=3) (N:=1) (a:=(r6.1,r6.2)) (vs:=[]) [some (.rows g 1 [[(.q ids 1 g1)]]),some (.rows g1 2 [[v8,(.bool r6.1)]]),Ai v8 g10 4 (List.map Ab r6.2)] Tryz.func43 hI J J J (.keep (.keep (.keep (.drop .nil)))) (.same _) ⟨v8,g10,vH7,J,J⟩
theorem Sy (text:Av)(l:List Route)(most:Int)(s0_bad:Bool)(l1:List Token)(h0:Ae)(o0:Nat)(o1:Nat)(o2:Nat)(g:Nat)(v1:AV)(g1:Nat)(g2:Nat)(vH:Az v1 o1 g1 l1.length)(hI0:Ids h0 [o0,o1,o2] 3):Kl text l most s0_bad l1≠.bad→Bh Tryz.prog 42 [(.ptr o0 g 0 0),(.str text),(.sl 7 (List.map Bs l)),(.int .i64 most),(.func (.func 43) [] [(.ptr o2 g2 0 0)])] (hp h0 [o0,o1,o2] [some (.rows g 2 [[v1,(.bool s0_bad)]]),Ai v1 g1 4 (List.map Ab l1),some (.rows g2 1 [[(.ptr o0 g 0 0)]])]) (Ce (fun a_ v h' => ∃ (v7:AV),∃ (g9:Nat),Az v7 o1 g9 a_.2.length∧v=(.tup [])∧h'=hp h0 [o0,o1,o2] [some (.rows g 2 [[v7,(.bool a_.1)]]),Ai v7 g9 4 (List.map Ab a_.2),some (.rows g2 1 [[(.ptr o0 g 0 0)]])]) h0 (Kl text l most s0_bad l1)):=by
 refine A6 (n:=44) 1 Tryz.func42 J (by decide) J J hI0 J fun ids he hI=>?_
 clear hI0
 obtain rfl:ix ids 0=o0:=he 0 rfl
 obtain rfl:ix ids 1=o1:=he 1 rfl
 obtain rfl:ix ids 2=o2:=he 2 rfl
 clear he
 refine Bk (Al (Kl.eq_1 _ _ _ _ _) ?_)
 refine Aj ?_
 refine Y<|O<|Ac 6 [0] [(17,(.bool s0_bad)),(12,(.q ids 0 g))] ?_
 refine Br 5 [(0,(.q ids 0 g)),(1,(.str text)),(2,(.sl 7 (List.map Bs l))),(4,(.func (.func 43) [] [(.q ids 2 g2)])),(12,(.q ids 0 g)),(22,(.bool (s0_bad||(decide ((l.length:Int) > most)))))] ?_ fun hJ=>Bm s0_bad (fun hb1=>?_) (fun hb1=>?_)
 ·refine Ac 2 [] [(24,(.ptr (ix ids 0) g 0 1))] ?_
  refine Aq (Aw (v:=(.bool (s0_bad||(decide ((l.length:Int) > most))))) hI J J J J Og J J J J J)<|Z<|Aj ?_
  refine Y<|O<|Aa (.sl 7 (List.map Bs l)) J Ad<|Aa (.I (l.length:Int)) J (A3 (Be Ml))<|Aa (.I 0) J Ad<|Z<|A9 ?_
  refine D0 [(0,(.q ids 0 g)),(1,(.str text)),(4,(.func (.func 43) [] [(.q ids 2 g2)])),(25,(.sl 7 (List.map Bs l))),(26,(.I (l.length:Int))),(27,(.I 0))] (FI J)<|Iu (P:=Tryz.prog) l (fun _ a=>Cz fun fBad l2=>I0 text a fBad l2) (((Cz fun fBad l2=>.ok (fBad,l2))):(Bool×(List Token))→R (Bool×(List Token))) (fun j=>Cz fun fBad l2=>fun(fr:Nat→AV) (h:Ae) => ∃ (v2:AV),∃ (g3:Nat),Az v2 (ix ids 1) g3 l2.length∧fr=A2 [(0,(.q ids 0 g)),(1,(.str text)),(4,(.func (.func 43) [] [(.q ids 2 g2)])),(25,(.sl 7 (List.map Bs l))),(26,(.I (l.length:Int))),(27,(.I (j:Int)))]∧h=hp h0 ids [(some (.rows g 2 [[v2,(.bool fBad)]])),(Ai v2 g3 4 (List.map Ab l2)),(some (.rows g2 1 [[(.q ids 0 g)]])),none]) ((s0_bad||(decide ((l.length:Int) > most))),l1) ?_ ?_ ?_
  ·exact⟨v1,g1,vH,J,J⟩
  ·rintro j a ha W hW ⟨fBad,l2⟩ fr h ⟨v2,g3,vH1,rfl,rfl⟩
   refine Al (m':=I0 text a fBad l2) J (Al (I0.eq_1 _ _ _ _) ?_)
   refine Y<|O<|Aa (.bool (decide ((j:Int)<(l.length:Int)))) J (Bc J J J)<|Z<|Y<|Dz (t:=25) (L:=l) J fun hlim=>Cw J (Int.ofNat_lt.2 (A7 ha)) ?_
   refine Ay<|Y<|A9<|Y<|O<|Aa (.cp (Bs a) 0) J (Bt (Db Ml H9 J ha))<|Aa (.agg (Bs a)) J (As (Cf H9 J)) ?_
   refine Bb (j:=3) hI J J J J H9 J fun g4=>Aq (Aw (v:=(.agg (Bs a))) hI J J J J H9 J J J J J)<|Z<|Aj ?_
   refine Y<|Y<|O<|Ac 2 [] [(32,(.bool (!(text==[]))))] ?_
   refine Z<|Dv (Cz fun fBad1 l3=>Iy a fBad1 l3) (Cz fun fBad1 l3=>fun(fr:Nat→AV) (h:Ae) => ∃ (v4:AV),∃ (g6:Nat),Az v4 (ix ids 1) g6 l3.length∧fr=A2 [(0,(.q ids 0 g)),(1,(.str text)),(4,(.func (.func 43) [] [(.q ids 2 g2)])),(11,(.q ids 3 g4)),(25,(.sl 7 (List.map Bs l))),(26,(.I (l.length:Int))),(27,(.I (j:Int)))]∧h=hp h0 ids [(some (.rows g 2 [[v4,(.bool fBad1)]])),(Ai v4 g6 4 (List.map Ab l3)),(some (.rows g2 1 [[(.q ids 0 g)]])),(some (.rows g4 7 [(Bs a)]))]) ?_ fun hJ1=>?_
   ·rintro⟨fBad1,l3⟩ fr h ⟨v4,g6,vH3,rfl,rfl⟩
    refine Al (Iy.eq_1 _ _ _)<|Y<|O<|Ac 2 [3] [(38,(.agg (Bs a))),(37,(.func (.func 43) [] [(.q ids 2 g2)]))] ?_
    refine Ak [2,0,1] hI J J (Wu a fBad1 l3 _ (ix ids 2) (ix ids 0) (ix ids 1) g2 g v4 g6 vH3 (by exact hI.sub' J J)) J J J J J J (fun v _=>Ao (K:=3) (N:=1) Tryz.func42 hI) ?_
    rintro r1 _ _ _ ⟨v5,g7,vH4,rfl,rfl⟩
    refine Au [2,0,1] hI J J J ?_
    refine Ap<|Z<|Aj ?_
    refine O<|Aa (.q ids 0 g) J Ad<|C8 (e:=rS) (L:=[[59]]) (st:=1) (rows:=[[(.str [59])]]) J Dl Cg J J J J J (.cons (RowSim.refl _) .nil) (fun x=>Fy x) J J<|Ak [0,1] hI J J (Cy [[59]] r1.1 r1.2 _ (ix ids 0) (ix ids 1) g v5 g7 vH4 (by exact hI.sub' J J)) J J J J J J (fun v _=>Ao (K:=3) (N:=1) Tryz.func42 hI) ?_
    rintro r2 _ _ _ ⟨v6,g8,vH5,rfl,rfl⟩
    refine Au [0,1] hI J J J ?_
    refine Ap<|Z<|Aj ?_
    refine Bn<|O<|Ac 2 [] [(27,(.I (IntKind.wrap .i64 ((j:Int)+1))))] ?_
    refine Z<|D2 [(some (.rows g 2 [[v6,(.bool r2.1)]])),(Ai v6 g8 4 (List.map Ab r2.2)),(some (.rows g2 1 [[(.q ids 0 g)]])),none] hI J (.keep (.keep (.keep (.drop .nil))))<|Bo (Qy (hW (r2.1,r2.2) _ _ ⟨v6,g8,vH5,J,J⟩)) (.cons J (.cons J (.cons J (.cons J (.cons J (.cons (Dw (A7 ha) hlim) .nil))))))
   refine Dx J (fun hc=>?_) (fun hc=>?_)
   ·refine Ay<|Bo (hJ1 (fBad,l2) _ _ ⟨v2,g3,vH1,J,J⟩)
   refine O<|Ac 2 [] [(34,(.str text)),(33,(.q ids 0 g))] ?_
   refine C8 (e:=rS) (L:=[text]) (st:=1) (rows:=[[(.str text)]]) J Dl Cg J J J J J (.cons (RowSim.refl _) .nil) (fun x=>Fy x) J J<|Ak [0,1] hI J J (Bu [text] fBad l2 _ (ix ids 0) (ix ids 1) g v2 g3 vH1 (by exact hI.sub' J J)) J J J J J J (fun v _=>Ao (K:=3) (N:=1) Tryz.func42 hI) ?_
   rintro r _ _ _ ⟨v3,g5,vH2,rfl,rfl⟩
   refine Au [0,1] hI J J J ?_
   refine Ap<|Z<|Aj ?_
   exact Bo (hJ1 (r.1,r.2) _ _ ⟨v3,g5,vH2,J,J⟩)
  rintro⟨fBad,l2⟩ fr h ⟨v2,g3,vH1,rfl,rfl⟩
  refine Al (Ns _ _ _)<|Y<|O<|Aa (.bool (decide ((l.length:Int)<(l.length:Int)))) J (Bc J J J)<|Z<|Y<|Cx J (Int.lt_irrefl _) ?_
  refine C4 J<|B2 (K:=3) (N:=1) (a:=(fBad,l2)) (vs:=[]) [some (.rows g 2 [[v2,(.bool fBad)]]),Ai v2 g3 4 (List.map Ab l2),some (.rows g2 1 [[(.q ids 0 g)]])] Tryz.func42 hI J J J (.keep (.keep (.keep (.keep .nil)))) (.same _) ⟨v2,g3,vH1,J,J⟩
 ·refine Ax (t:=17) hb1 J<|Ac 5 [] [(22,(.bool true))] ?_
  exact A5 hJ (.cons J (.cons J (.cons J (.cons J (.cons J (.cons (D9 hb1) .nil))))))
 refine Ax (t:=17) hb1 J<|By (tj:=17) (.sl 7 (List.map Bs l)) J J J Ad<|By (tj:=17) (.I (l.length:Int)) J J J (A3 (Be Ml))<|Ac 3 [] [(22,(.bool (decide ((l.length:Int) > most))))] ?_
 exact A5 hJ (.cons J (.cons J (.cons J (.cons J (.cons J (.cons (Eb hb1) .nil))))))
theorem Uu (m:Mode)(s1_bad:Bool)(l:List Token)(h0:Ae)(o0:Nat)(o1:Nat)(o2:Nat)(g:Nat)(g1:Nat)(v1:AV)(g2:Nat)(vH:Az v1 o2 g2 l.length)(hI0:Ids h0 [o0,o1,o2] 3):L5 m s1_bad l≠.bad→Bh Tryz.prog 47 [(.agg (Da m)),(.ptr o0 g 0 0)] (hp h0 [o0,o1,o2] [some (.rows g 1 [[(.ptr o1 g1 0 0)]]),some (.rows g1 2 [[v1,(.bool s1_bad)]]),Ai v1 g2 4 (List.map Ab l)]) (Ce (fun a_ v h' => ∃ (v5:AV),∃ (g7:Nat),Az v5 o2 g7 a_.2.length∧v=(.tup [])∧h'=hp h0 [o0,o1,o2] [some (.rows g 1 [[(.ptr o1 g1 0 0)]]),some (.rows g1 2 [[v5,(.bool a_.1)]]),Ai v5 g7 4 (List.map Ab a_.2)]) h0 (L5 m s1_bad l)):=by
 refine A6 (n:=14) 1 Tryz.func47 J (by decide) J J hI0 J fun ids he hI=>?_
 clear hI0
 obtain rfl:ix ids 0=o0:=he 0 rfl
 obtain rfl:ix ids 1=o1:=he 1 rfl
 obtain rfl:ix ids 2=o2:=he 2 rfl
 clear he
 refine Bk (Al (L5.eq_1 _ _ _) ?_)
 refine Aj ?_
 refine Y<|O<|Ck (v:=(.agg (Da m))) (j:=3) hI J J J J J J J fun g3=>Z<|Aj ?_
 refine Y<|O<|Ac 1 [0] [(3,(.q ids 1 g1))] ?_
 refine C8 (e:=rS) (L:=[[109,111,100,101]]) (st:=1) (rows:=[[(.str [109,111,100,101])]]) J Dl Cg J J J J J (.cons (RowSim.refl _) .nil) (fun x=>Fy x) J J<|Ak [1,2] hI J J (Bu [[109,111,100,101]] s1_bad l _ (ix ids 1) (ix ids 2) g1 v1 g2 vH (by exact hI.sub' J J)) J J J J J J (fun v _=>Ao (K:=3) (N:=1) Tryz.func47 hI) ?_
 rintro r _ _ _ ⟨v2,g4,vH1,rfl,rfl⟩
 refine Au [1,2] hI J J J ?_
 refine Ap<|Z<|Aj ?_
 refine Y<|O<|Ac 3 [0,3] [(8,(.str m.Name)),(6,(.q ids 1 g1))] ?_
 refine Ak [1,2] hI J J (Cr m.Name r.1 r.2 _ (ix ids 1) (ix ids 2) g1 v2 g4 vH1 (by exact hI.sub' J J)) J J J J J J (fun v _=>Ao (K:=3) (N:=1) Tryz.func47 hI) ?_
 rintro r1 _ _ _ ⟨v3,g5,vH2,rfl,rfl⟩
 refine Au [1,2] hI J J J ?_
 refine Ap<|Z<|Aj ?_
 refine O<|Ac 3 [0,3] [(12,(.I m.Places)),(10,(.q ids 1 g1))] ?_
 refine Ak [1,2] hI J J (C7 m.Places 0 64 r1.1 r1.2 _ (ix ids 1) (ix ids 2) g1 v3 g5 vH2 (by exact hI.sub' J J)) J J J J J J (fun v _=>Ao (K:=3) (N:=1) Tryz.func47 hI) ?_
 rintro r2 _ _ _ ⟨v4,g6,vH3,rfl,rfl⟩
 refine Au [1,2] hI J J J ?_
 refine Ap<|Z<|Aj ?_
 exact B2 (K:=3) (N:=1) (a:=((r1.1||(!((decide (m.Places≥0))&&(decide (m.Places≤64))))),r2)) (vs:=[]) [some (.rows g 1 [[(.q ids 1 g1)]]),some (.rows g1 2 [[v4,(.bool (r1.1||(!((decide (m.Places≥0))&&(decide (m.Places≤64))))))]]),Ai v4 g6 4 (List.map Ab r2)] Tryz.func47 hI J J J (.keep (.keep (.keep (.drop .nil)))) (.same _) ⟨v4,g6,vH3,J,J⟩
theorem Ux (l:List Mode)(most:Int)(s0_bad:Bool)(l1:List Token)(h0:Ae)(o0:Nat)(o1:Nat)(o2:Nat)(g:Nat)(v1:AV)(g1:Nat)(g2:Nat)(vH:Az v1 o1 g1 l1.length)(hI0:Ids h0 [o0,o1,o2] 3):L8 l most s0_bad l1≠.bad→Bh Tryz.prog 46 [(.ptr o0 g 0 0),(.sl 2 (List.map Da l)),(.int .i64 most),(.func (.func 47) [] [(.ptr o2 g2 0 0)])] (hp h0 [o0,o1,o2] [some (.rows g 2 [[v1,(.bool s0_bad)]]),Ai v1 g1 4 (List.map Ab l1),some (.rows g2 1 [[(.ptr o0 g 0 0)]])]) (Ce (fun a_ v h' => ∃ (v6:AV),∃ (g8:Nat),Az v6 o1 g8 a_.2.length∧v=(.tup [])∧h'=hp h0 [o0,o1,o2] [some (.rows g 2 [[v6,(.bool a_.1)]]),Ai v6 g8 4 (List.map Ab a_.2),some (.rows g2 1 [[(.ptr o0 g 0 0)]])]) h0 (L8 l most s0_bad l1)):=by
 refine A6 (n:=44) 1 Tryz.func46 J (by decide) J J hI0 J fun ids he hI=>?_
 clear hI0
 obtain rfl:ix ids 0=o0:=he 0 rfl
 obtain rfl:ix ids 1=o1:=he 1 rfl
 obtain rfl:ix ids 2=o2:=he 2 rfl
 clear he
 refine Bk (Al (L8.eq_1 _ _ _ _) ?_)
 refine Aj ?_
 refine Y<|O<|Ac 6 [0] [(15,(.bool s0_bad)),(10,(.q ids 0 g))] ?_
 refine Br 4 [(0,(.q ids 0 g)),(1,(.sl 2 (List.map Da l))),(2,(.I most)),(3,(.func (.func 47) [] [(.q ids 2 g2)])),(10,(.q ids 0 g)),(19,(.bool (s0_bad||((l.length:Int)==0))))] ?_ fun hJ=>Bm s0_bad (fun hb1=>?_) (fun hb1=>?_)
 ·refine Aa (.bool (s0_bad||((l.length:Int)==0))) J Ad<|Br 5 [(0,(.q ids 0 g)),(1,(.sl 2 (List.map Da l))),(3,(.func (.func 47) [] [(.q ids 2 g2)])),(10,(.q ids 0 g)),(25,(.bool ((s0_bad||((l.length:Int)==0))||(decide ((l.length:Int) > most)))))] ?_ fun hJ1=>Bm (s0_bad||((l.length:Int)==0)) (fun hb3=>?_) (fun hb3=>?_)
  ·refine Ac 2 [] [(27,(.ptr (ix ids 0) g 0 1))] ?_
   refine Aq (Aw (v:=(.bool ((s0_bad||((l.length:Int)==0))||(decide ((l.length:Int) > most))))) hI J J J J Og J J J J J)<|Z<|Aj ?_
   refine Y<|O<|Aa (.sl 2 (List.map Da l)) J Ad<|Aa (.I (l.length:Int)) J (A3 (Be Mi))<|Aa (.I 0) J Ad<|Z<|A9 ?_
   refine D0 [(0,(.q ids 0 g)),(3,(.func (.func 47) [] [(.q ids 2 g2)])),(28,(.sl 2 (List.map Da l))),(29,(.I (l.length:Int))),(30,(.I 0))] (FI J)<|Iu (P:=Tryz.prog) l (fun j a=>Cz fun fBad l2=>Kg j a fBad l2) (((Cz fun fBad l2=>.ok (fBad,l2))):(Bool×(List Token))→R (Bool×(List Token))) (fun j=>Cz fun fBad l2=>fun(fr:Nat→AV) (h:Ae) => ∃ (v2:AV),∃ (g3:Nat),Az v2 (ix ids 1) g3 l2.length∧fr=A2 [(0,(.q ids 0 g)),(3,(.func (.func 47) [] [(.q ids 2 g2)])),(28,(.sl 2 (List.map Da l))),(29,(.I (l.length:Int))),(30,(.I (j:Int)))]∧h=hp h0 ids [(some (.rows g 2 [[v2,(.bool fBad)]])),(Ai v2 g3 4 (List.map Ab l2)),(some (.rows g2 1 [[(.q ids 0 g)]])),none]) (((s0_bad||((l.length:Int)==0))||(decide ((l.length:Int) > most))),l1) ?_ ?_ ?_
   ·exact⟨v1,g1,vH,J,J⟩
   ·rintro j a ha W hW ⟨fBad,l2⟩ fr h ⟨v2,g3,vH1,rfl,rfl⟩
    refine Al (m':=Kg j a fBad l2) J (Al (Kg.eq_1 _ _ _ _) ?_)
    refine Y<|O<|Aa (.bool (decide ((j:Int)<(l.length:Int)))) J (Bc J J J)<|Z<|Y<|Dz (t:=28) (L:=l) J fun hlim=>Cw J (Int.ofNat_lt.2 (A7 ha)) ?_
    refine Ay<|Y<|A9<|Y<|O<|Aa (.I (j:Int)) J Ad<|Aa (.cp (Da a) 0) J (Bt (Db Mi Nx J ha)) ?_
    refine Aa (.agg (Da a)) J (As (Cf Nx J))<|Bb (j:=3) hI J J J J Nx J fun g4=>Aa (.I (j:Int)) J An<|Aq (Aw (v:=(.agg (Da a))) hI J J J J Nx J J J J J)<|Z<|Aj ?_
    refine Y<|Y<|O<|Ac 2 [] [(36,(.bool (decide ((j:Int) > 0))))] ?_
    refine Z<|Dv (Cz fun fBad1 l3=>Kk a fBad1 l3) (Cz fun fBad1 l3=>fun(fr:Nat→AV) (h:Ae) => ∃ (v4:AV),∃ (g6:Nat),Az v4 (ix ids 1) g6 l3.length∧fr=A2 [(0,(.q ids 0 g)),(3,(.func (.func 47) [] [(.q ids 2 g2)])),(9,(.q ids 3 g4)),(28,(.sl 2 (List.map Da l))),(29,(.I (l.length:Int))),(30,(.I (j:Int)))]∧h=hp h0 ids [(some (.rows g 2 [[v4,(.bool fBad1)]])),(Ai v4 g6 4 (List.map Ab l3)),(some (.rows g2 1 [[(.q ids 0 g)]])),(some (.rows g4 2 [(Da a)]))]) ?_ fun hJ2=>?_
    ·rintro⟨fBad1,l3⟩ fr h ⟨v4,g6,vH3,rfl,rfl⟩
     refine Al (Kk.eq_1 _ _ _)<|O<|Ac 2 [3] [(41,(.agg (Da a))),(40,(.func (.func 47) [] [(.q ids 2 g2)]))] ?_
     refine Ak [2,0,1] hI J J (Uu a fBad1 l3 _ (ix ids 2) (ix ids 0) (ix ids 1) g2 g v4 g6 vH3 (by exact hI.sub' J J)) J J J J J J (fun v _=>Ao (K:=3) (N:=1) Tryz.func46 hI) ?_
     rintro r1 _ _ _ ⟨v5,g7,vH4,rfl,rfl⟩
     refine Au [2,0,1] hI J J J ?_
     refine Ap<|Z<|Aj ?_
     refine Bn<|O<|Ac 2 [] [(30,(.I (IntKind.wrap .i64 ((j:Int)+1))))] ?_
     refine Z<|D2 [(some (.rows g 2 [[v5,(.bool r1.1)]])),(Ai v5 g7 4 (List.map Ab r1.2)),(some (.rows g2 1 [[(.q ids 0 g)]])),none] hI J (.keep (.keep (.keep (.drop .nil))))<|Bo (Qy (hW (r1.1,r1.2) _ _ ⟨v5,g7,vH4,J,J⟩)) (.cons J (.cons J (.cons J (.cons J (.cons (Dw (A7 ha) hlim) .nil)))))
    refine Oi J (fun hc=>?_) (fun hc=>?_)
    ·refine O<|Aa (.q ids 0 g) J Ad<|C8 (e:=rS) (L:=[[44]]) (st:=1) (rows:=[[(.str [44])]]) J Dl Cg J J J J J (.cons (RowSim.refl _) .nil) (fun x=>Fy x) J J<|Ak [0,1] hI J J (Cy [[44]] fBad l2 _ (ix ids 0) (ix ids 1) g v2 g3 vH1 (by exact hI.sub' J J)) J J J J J J (fun v _=>Ao (K:=3) (N:=1) Tryz.func46 hI) ?_
     rintro r _ _ _ ⟨v3,g5,vH2,rfl,rfl⟩
     refine Au [0,1] hI J J J ?_
     refine Ap<|Z<|Aj ?_
     exact Bo (hJ2 (r.1,r.2) _ _ ⟨v3,g5,vH2,J,J⟩)
    refine Ay<|Bo (hJ2 (fBad,l2) _ _ ⟨v2,g3,vH1,J,J⟩)
   rintro⟨fBad,l2⟩ fr h ⟨v2,g3,vH1,rfl,rfl⟩
   refine Al (Ns _ _ _)<|Y<|O<|Aa (.bool (decide ((l.length:Int)<(l.length:Int)))) J (Bc J J J)<|Z<|Y<|Cx J (Int.lt_irrefl _) ?_
   refine C4 J<|B2 (K:=3) (N:=1) (a:=(fBad,l2)) (vs:=[]) [some (.rows g 2 [[v2,(.bool fBad)]]),Ai v2 g3 4 (List.map Ab l2),some (.rows g2 1 [[(.q ids 0 g)]])] Tryz.func46 hI J J J (.keep (.keep (.keep (.keep .nil)))) (.same _) ⟨v2,g3,vH1,J,J⟩
  ·refine Ax (t:=20) hb3 J<|Ac 5 [] [(25,(.bool true))] ?_
   exact A5 hJ1 (.cons J (.cons J (.cons J (.cons J (.cons (D9 hb3) .nil)))))
  refine Ax (t:=20) hb3 J<|By (tj:=20) (.sl 2 (List.map Da l)) J J J Ad<|By (tj:=20) (.I (l.length:Int)) J J J (A3 (Be Mi))<|Ac 3 [] [(25,(.bool (decide ((l.length:Int) > most))))] ?_
  exact A5 hJ1 (.cons J (.cons J (.cons J (.cons J (.cons (Eb hb3) .nil)))))
 ·refine Ax (t:=15) hb1 J<|Ac 4 [] [(19,(.bool true))] ?_
  exact A5 hJ (.cons J (.cons J (.cons J (.cons J (.cons J (.cons (D9 hb1) .nil))))))
 refine Ax (t:=15) hb1 J<|By (tj:=15) (.sl 2 (List.map Da l)) J J J Ad<|By (tj:=15) (.I (l.length:Int)) J J J (A3 (Be Mi))<|Ac 2 [] [(19,(.bool ((l.length:Int)==0)))] ?_
 exact A5 hJ (.cons J (.cons J (.cons J (.cons J (.cons J (.cons (Eb hb1) .nil))))))
theorem Wg (a:Airport)(s1_bad:Bool)(l:List Token)(h0:Ae)(o0:Nat)(o1:Nat)(o2:Nat)(g:Nat)(g1:Nat)(v1:AV)(g2:Nat)(vH:Az v1 o2 g2 l.length)(hI0:Ids h0 [o0,o1,o2] 3):Ng a s1_bad l≠.bad→Bh Tryz.prog 45 [(.agg (Bd a)),(.ptr o0 g 0 0)] (hp h0 [o0,o1,o2] [some (.rows g 1 [[(.ptr o1 g1 0 0)]]),some (.rows g1 2 [[v1,(.bool s1_bad)]]),Ai v1 g2 4 (List.map Ab l)]) (Ce (fun a_ v h' => ∃ (v4:AV),∃ (g6:Nat),Az v4 o2 g6 a_.2.length∧v=(.tup [])∧h'=hp h0 [o0,o1,o2] [some (.rows g 1 [[(.ptr o1 g1 0 0)]]),some (.rows g1 2 [[v4,(.bool a_.1)]]),Ai v4 g6 4 (List.map Ab a_.2)]) h0 (Ng a s1_bad l)):=by
 refine A6 (n:=12) 1 Tryz.func45 J (by decide) J J hI0 J fun ids he hI=>?_
 clear hI0
 obtain rfl:ix ids 0=o0:=he 0 rfl
 obtain rfl:ix ids 1=o1:=he 1 rfl
 obtain rfl:ix ids 2=o2:=he 2 rfl
 clear he
 refine Bk (Al (Ng.eq_1 _ _ _) ?_)
 refine Aj ?_
 refine Y<|O<|Ck (v:=(.agg (Bd a))) (j:=3) hI J J J J J J J fun g3=>Z<|Aj ?_
 refine Y<|O<|Ac 3 [0,3] [(5,(.str a.Name)),(3,(.q ids 1 g1))] ?_
 refine Ak [1,2] hI J J (Cr a.Name s1_bad l _ (ix ids 1) (ix ids 2) g1 v1 g2 vH (by exact hI.sub' J J)) J J J J J J (fun v _=>Ao (K:=3) (N:=1) Tryz.func45 hI) ?_
 rintro r _ _ _ ⟨v2,g4,vH1,rfl,rfl⟩
 refine Au [1,2] hI J J J ?_
 refine Ap<|Z<|Aj ?_
 refine O<|Ac 4 [0,3] [(10,(.func (.func 47) [] [(.q ids 0 g)])),(9,(.sl 2 (List.map Da a.Modes))),(7,(.q ids 1 g1))] ?_
 refine Ak [1,2,0] hI J J (Ux a.Modes 16 r.1 r.2 _ (ix ids 1) (ix ids 2) (ix ids 0) g1 v2 g4 g vH1 (by exact hI.sub' J J)) J J J J J J (fun v _=>Ao (K:=3) (N:=1) Tryz.func45 hI) ?_
 rintro r1 _ _ _ ⟨v3,g5,vH2,rfl,rfl⟩
 refine Au [1,2,0] hI J J J ?_
 refine Ap<|Z<|Aj ?_
 exact B2 (K:=3) (N:=1) (a:=(r1.1,r1.2)) (vs:=[]) [some (.rows g 1 [[(.q ids 1 g1)]]),some (.rows g1 2 [[v3,(.bool r1.1)]]),Ai v3 g5 4 (List.map Ab r1.2)] Tryz.func45 hI J J J (.keep (.keep (.keep (.drop .nil)))) (.same _) ⟨v3,g5,vH2,J,J⟩
theorem Ri (text:Av)(l:List Airport)(most:Int)(s0_bad:Bool)(l1:List Token)(h0:Ae)(o0:Nat)(o1:Nat)(o2:Nat)(g:Nat)(v1:AV)(g1:Nat)(g2:Nat)(vH:Az v1 o1 g1 l1.length)(hI0:Ids h0 [o0,o1,o2] 3):Jo text l most s0_bad l1≠.bad→Bh Tryz.prog 44 [(.ptr o0 g 0 0),(.str text),(.sl 2 (List.map Bd l)),(.int .i64 most),(.func (.func 45) [] [(.ptr o2 g2 0 0)])] (hp h0 [o0,o1,o2] [some (.rows g 2 [[v1,(.bool s0_bad)]]),Ai v1 g1 4 (List.map Ab l1),some (.rows g2 1 [[(.ptr o0 g 0 0)]])]) (Ce (fun a_ v h' => ∃ (v7:AV),∃ (g9:Nat),Az v7 o1 g9 a_.2.length∧v=(.tup [])∧h'=hp h0 [o0,o1,o2] [some (.rows g 2 [[v7,(.bool a_.1)]]),Ai v7 g9 4 (List.map Ab a_.2),some (.rows g2 1 [[(.ptr o0 g 0 0)]])]) h0 (Jo text l most s0_bad l1)):=by
 refine A6 (n:=44) 1 Tryz.func44 J (by decide) J J hI0 J fun ids he hI=>?_
 clear hI0
 obtain rfl:ix ids 0=o0:=he 0 rfl
 obtain rfl:ix ids 1=o1:=he 1 rfl
 obtain rfl:ix ids 2=o2:=he 2 rfl
 clear he
 refine Bk (Al (Jo.eq_1 _ _ _ _ _) ?_)
 refine Aj ?_
 refine Y<|O<|Ac 6 [0] [(17,(.bool s0_bad)),(12,(.q ids 0 g))] ?_
 refine Br 5 [(0,(.q ids 0 g)),(1,(.str text)),(2,(.sl 2 (List.map Bd l))),(4,(.func (.func 45) [] [(.q ids 2 g2)])),(12,(.q ids 0 g)),(22,(.bool (s0_bad||(decide ((l.length:Int) > most)))))] ?_ fun hJ=>Bm s0_bad (fun hb1=>?_) (fun hb1=>?_)
 ·refine Ac 2 [] [(24,(.ptr (ix ids 0) g 0 1))] ?_
  refine Aq (Aw (v:=(.bool (s0_bad||(decide ((l.length:Int) > most))))) hI J J J J Og J J J J J)<|Z<|Aj ?_
  refine Y<|O<|Aa (.sl 2 (List.map Bd l)) J Ad<|Aa (.I (l.length:Int)) J (A3 (Be Me))<|Aa (.I 0) J Ad<|Z<|A9 ?_
  refine D0 [(0,(.q ids 0 g)),(1,(.str text)),(4,(.func (.func 45) [] [(.q ids 2 g2)])),(25,(.sl 2 (List.map Bd l))),(26,(.I (l.length:Int))),(27,(.I 0))] (FI J)<|Iu (P:=Tryz.prog) l (fun _ a=>Cz fun fBad l2=>Hm text a fBad l2) (((Cz fun fBad l2=>.ok (fBad,l2))):(Bool×(List Token))→R (Bool×(List Token))) (fun j=>Cz fun fBad l2=>fun(fr:Nat→AV) (h:Ae) => ∃ (v2:AV),∃ (g3:Nat),Az v2 (ix ids 1) g3 l2.length∧fr=A2 [(0,(.q ids 0 g)),(1,(.str text)),(4,(.func (.func 45) [] [(.q ids 2 g2)])),(25,(.sl 2 (List.map Bd l))),(26,(.I (l.length:Int))),(27,(.I (j:Int)))]∧h=hp h0 ids [(some (.rows g 2 [[v2,(.bool fBad)]])),(Ai v2 g3 4 (List.map Ab l2)),(some (.rows g2 1 [[(.q ids 0 g)]])),none]) ((s0_bad||(decide ((l.length:Int) > most))),l1) ?_ ?_ ?_
  ·exact⟨v1,g1,vH,J,J⟩
  ·rintro j a ha W hW ⟨fBad,l2⟩ fr h ⟨v2,g3,vH1,rfl,rfl⟩
   refine Al (m':=Hm text a fBad l2) J (Al (Hm.eq_1 _ _ _ _) ?_)
   refine Y<|O<|Aa (.bool (decide ((j:Int)<(l.length:Int)))) J (Bc J J J)<|Z<|Y<|Dz (t:=25) (L:=l) J fun hlim=>Cw J (Int.ofNat_lt.2 (A7 ha)) ?_
   refine Ay<|Y<|A9<|Y<|O<|Aa (.cp (Bd a) 0) J (Bt (Db Me Ic J ha))<|Aa (.agg (Bd a)) J (As (Cf Ic J)) ?_
   refine Bb (j:=3) hI J J J J Ic J fun g4=>Aq (Aw (v:=(.agg (Bd a))) hI J J J J Ic J J J J J)<|Z<|Aj ?_
   refine Y<|Y<|O<|Ac 2 [] [(32,(.bool (!(text==[]))))] ?_
   refine Z<|Dv (Cz fun fBad1 l3=>Hs a fBad1 l3) (Cz fun fBad1 l3=>fun(fr:Nat→AV) (h:Ae) => ∃ (v4:AV),∃ (g6:Nat),Az v4 (ix ids 1) g6 l3.length∧fr=A2 [(0,(.q ids 0 g)),(1,(.str text)),(4,(.func (.func 45) [] [(.q ids 2 g2)])),(11,(.q ids 3 g4)),(25,(.sl 2 (List.map Bd l))),(26,(.I (l.length:Int))),(27,(.I (j:Int)))]∧h=hp h0 ids [(some (.rows g 2 [[v4,(.bool fBad1)]])),(Ai v4 g6 4 (List.map Ab l3)),(some (.rows g2 1 [[(.q ids 0 g)]])),(some (.rows g4 2 [(Bd a)]))]) ?_ fun hJ1=>?_
   ·rintro⟨fBad1,l3⟩ fr h ⟨v4,g6,vH3,rfl,rfl⟩
    refine Al (Hs.eq_1 _ _ _)<|Y<|O<|Ac 2 [3] [(38,(.agg (Bd a))),(37,(.func (.func 45) [] [(.q ids 2 g2)]))] ?_
    refine Ak [2,0,1] hI J J (Wg a fBad1 l3 _ (ix ids 2) (ix ids 0) (ix ids 1) g2 g v4 g6 vH3 (by exact hI.sub' J J)) J J J J J J (fun v _=>Ao (K:=3) (N:=1) Tryz.func44 hI) ?_
    rintro r1 _ _ _ ⟨v5,g7,vH4,rfl,rfl⟩
    refine Au [2,0,1] hI J J J ?_
    refine Ap<|Z<|Aj ?_
    refine O<|Aa (.q ids 0 g) J Ad<|C8 (e:=rS) (L:=[[59]]) (st:=1) (rows:=[[(.str [59])]]) J Dl Cg J J J J J (.cons (RowSim.refl _) .nil) (fun x=>Fy x) J J<|Ak [0,1] hI J J (Cy [[59]] r1.1 r1.2 _ (ix ids 0) (ix ids 1) g v5 g7 vH4 (by exact hI.sub' J J)) J J J J J J (fun v _=>Ao (K:=3) (N:=1) Tryz.func44 hI) ?_
    rintro r2 _ _ _ ⟨v6,g8,vH5,rfl,rfl⟩
    refine Au [0,1] hI J J J ?_
    refine Ap<|Z<|Aj ?_
    refine Bn<|O<|Ac 2 [] [(27,(.I (IntKind.wrap .i64 ((j:Int)+1))))] ?_
    refine Z<|D2 [(some (.rows g 2 [[v6,(.bool r2.1)]])),(Ai v6 g8 4 (List.map Ab r2.2)),(some (.rows g2 1 [[(.q ids 0 g)]])),none] hI J (.keep (.keep (.keep (.drop .nil))))<|Bo (Qy (hW (r2.1,r2.2) _ _ ⟨v6,g8,vH5,J,J⟩)) (.cons J (.cons J (.cons J (.cons J (.cons J (.cons (Dw (A7 ha) hlim) .nil))))))
   refine Dx J (fun hc=>?_) (fun hc=>?_)
   ·refine Ay<|Bo (hJ1 (fBad,l2) _ _ ⟨v2,g3,vH1,J,J⟩)
   refine O<|Ac 2 [] [(34,(.str text)),(33,(.q ids 0 g))] ?_
   refine C8 (e:=rS) (L:=[text]) (st:=1) (rows:=[[(.str text)]]) J Dl Cg J J J J J (.cons (RowSim.refl _) .nil) (fun x=>Fy x) J J<|Ak [0,1] hI J J (Bu [text] fBad l2 _ (ix ids 0) (ix ids 1) g v2 g3 vH1 (by exact hI.sub' J J)) J J J J J J (fun v _=>Ao (K:=3) (N:=1) Tryz.func44 hI) ?_
   rintro r _ _ _ ⟨v3,g5,vH2,rfl,rfl⟩
   refine Au [0,1] hI J J J ?_
   refine Ap<|Z<|Aj ?_
   exact Bo (hJ1 (r.1,r.2) _ _ ⟨v3,g5,vH2,J,J⟩)
  rintro⟨fBad,l2⟩ fr h ⟨v2,g3,vH1,rfl,rfl⟩
  refine Al (Ns _ _ _)<|Y<|O<|Aa (.bool (decide ((l.length:Int)<(l.length:Int)))) J (Bc J J J)<|Z<|Y<|Cx J (Int.lt_irrefl _) ?_
  refine C4 J<|B2 (K:=3) (N:=1) (a:=(fBad,l2)) (vs:=[]) [some (.rows g 2 [[v2,(.bool fBad)]]),Ai v2 g3 4 (List.map Ab l2),some (.rows g2 1 [[(.q ids 0 g)]])] Tryz.func44 hI J J J (.keep (.keep (.keep (.keep .nil)))) (.same _) ⟨v2,g3,vH1,J,J⟩
 ·refine Ax (t:=17) hb1 J<|Ac 5 [] [(22,(.bool true))] ?_
  exact A5 hJ (.cons J (.cons J (.cons J (.cons J (.cons J (.cons (D9 hb1) .nil))))))
 refine Ax (t:=17) hb1 J<|By (tj:=17) (.sl 2 (List.map Bd l)) J J J Ad<|By (tj:=17) (.I (l.length:Int)) J J J (A3 (Be Me))<|Ac 3 [] [(22,(.bool (decide ((l.length:Int) > most))))] ?_
 exact A5 hJ (.cons J (.cons J (.cons J (.cons J (.cons J (.cons (Eb hb1) .nil))))))
theorem We (a:Class)(s1_bad:Bool)(l:List Token)(h0:Ae)(o0:Nat)(o1:Nat)(o2:Nat)(g:Nat)(g1:Nat)(v1:AV)(g2:Nat)(vH:Az v1 o2 g2 l.length)(hI0:Ids h0 [o0,o1,o2] 3):Ni a s1_bad l≠.bad→Bh Tryz.prog 49 [(.agg (B6 a)),(.ptr o0 g 0 0)] (hp h0 [o0,o1,o2] [some (.rows g 1 [[(.ptr o1 g1 0 0)]]),some (.rows g1 2 [[v1,(.bool s1_bad)]]),Ai v1 g2 4 (List.map Ab l)]) (Ce (fun a_ v h' => ∃ (v9:AV),∃ (g11:Nat),Az v9 o2 g11 a_.2.length∧v=(.tup [])∧h'=hp h0 [o0,o1,o2] [some (.rows g 1 [[(.ptr o1 g1 0 0)]]),some (.rows g1 2 [[v9,(.bool a_.1)]]),Ai v9 g11 4 (List.map Ab a_.2)]) h0 (Ni a s1_bad l)):=by
 refine A6 (n:=30) 1 Tryz.func49 J (by decide) J J hI0 J fun ids he hI=>?_
 clear hI0
 obtain rfl:ix ids 0=o0:=he 0 rfl
 obtain rfl:ix ids 1=o1:=he 1 rfl
 obtain rfl:ix ids 2=o2:=he 2 rfl
 clear he
 refine Bk (Al (Ni.eq_1 _ _ _) ?_)
 refine Aj ?_
 refine Y<|O<|Ck (v:=(.agg (B6 a))) (j:=3) hI J J J J J J J fun g3=>Z<|Aj ?_
 refine Y<|O<|Ac 3 [0,3] [(5,(.str a.Name)),(3,(.q ids 1 g1))] ?_
 refine Ak [1,2] hI J J (Cr a.Name s1_bad l _ (ix ids 1) (ix ids 2) g1 v1 g2 vH (by exact hI.sub' J J)) J J J J J J (fun v _=>Ao (K:=3) (N:=1) Tryz.func49 hI) ?_
 rintro r _ _ _ ⟨v2,g4,vH1,rfl,rfl⟩
 refine Au [1,2] hI J J J ?_
 refine Ap<|Z<|Aj ?_
 refine Y<|O<|Ac 1 [0] [(7,(.q ids 1 g1))] ?_
 refine C8 (e:=rS) (L:=[[115,108,111,119]]) (st:=1) (rows:=[[(.str [115,108,111,119])]]) J Dl Cg J J J J J (.cons (RowSim.refl _) .nil) (fun x=>Fy x) J J<|Ak [1,2] hI J J (Bu [[115,108,111,119]] r.1 r.2 _ (ix ids 1) (ix ids 2) g1 v2 g4 vH1 (by exact hI.sub' J J)) J J J J J J (fun v _=>Ao (K:=3) (N:=1) Tryz.func49 hI) ?_
 rintro r1 _ _ _ ⟨v3,g5,vH2,rfl,rfl⟩
 refine Au [1,2] hI J J J ?_
 refine Ap<|Z<|Aj ?_
 refine Y<|O<|Ac 3 [0,3] [(12,(.I a.Slow)),(10,(.q ids 1 g1))] ?_
 refine Ak [1,2] hI J J (C7 a.Slow 1 64 r1.1 r1.2 _ (ix ids 1) (ix ids 2) g1 v3 g5 vH2 (by exact hI.sub' J J)) J J J J J J (fun v _=>Ao (K:=3) (N:=1) Tryz.func49 hI) ?_
 rintro r2 _ _ _ ⟨v4,g6,vH3,rfl,rfl⟩
 refine Au [1,2] hI J J J ?_
 refine Ap<|Z<|Aj ?_
 refine Y<|O<|Ac 1 [0] [(14,(.q ids 1 g1))] ?_
 refine C8 (e:=rS) (L:=[[102,97,115,116]]) (st:=1) (rows:=[[(.str [102,97,115,116])]]) J Dl Cg J J J J J (.cons (RowSim.refl _) .nil) (fun x=>Fy x) J J<|Ak [1,2] hI J J (Bu [[102,97,115,116]] (r1.1||(!((decide (a.Slow≥1))&&(decide (a.Slow≤64))))) r2 _ (ix ids 1) (ix ids 2) g1 v4 g6 vH3 (by exact hI.sub' J J)) J J J J J J (fun v _=>Ao (K:=3) (N:=1) Tryz.func49 hI) ?_
 rintro r3 _ _ _ ⟨v5,g7,vH4,rfl,rfl⟩
 refine Au [1,2] hI J J J ?_
 refine Ap<|Z<|Aj ?_
 refine Y<|O<|Ac 5 [0,3,3] [(21,(.I a.Slow)),(19,(.I a.Fast)),(17,(.q ids 1 g1))] ?_
 refine Ak [1,2] hI J J (C7 a.Fast a.Slow 64 r3.1 r3.2 _ (ix ids 1) (ix ids 2) g1 v5 g7 vH4 (by exact hI.sub' J J)) J J J J J J (fun v _=>Ao (K:=3) (N:=1) Tryz.func49 hI) ?_
 rintro r4 _ _ _ ⟨v6,g8,vH5,rfl,rfl⟩
 refine Au [1,2] hI J J J ?_
 refine Ap<|Z<|Aj ?_
 refine Y<|O<|Ac 1 [0] [(23,(.q ids 1 g1))] ?_
 refine C8 (e:=rS) (L:=[[112,108,97,99,101,115]]) (st:=1) (rows:=[[(.str [112,108,97,99,101,115])]]) J Dl Cg J J J J J (.cons (RowSim.refl _) .nil) (fun x=>Fy x) J J<|Ak [1,2] hI J J (Bu [[112,108,97,99,101,115]] (r3.1||(!((decide (a.Fast≥a.Slow))&&(decide (a.Fast≤64))))) r4 _ (ix ids 1) (ix ids 2) g1 v6 g8 vH5 (by exact hI.sub' J J)) J J J J J J (fun v _=>Ao (K:=3) (N:=1) Tryz.func49 hI) ?_
 rintro r5 _ _ _ ⟨v7,g9,vH6,rfl,rfl⟩
 refine Au [1,2] hI J J J ?_
 refine Ap<|Z<|Aj ?_
 refine O<|Ac 3 [0,3] [(28,(.I a.Places)),(26,(.q ids 1 g1))] ?_
 refine Ak [1,2] hI J J (C7 a.Places 1 8 r5.1 r5.2 _ (ix ids 1) (ix ids 2) g1 v7 g9 vH6 (by exact hI.sub' J J)) J J J J J J (fun v _=>Ao (K:=3) (N:=1) Tryz.func49 hI) ?_
 rintro r6 _ _ _ ⟨v8,g10,vH7,rfl,rfl⟩
 refine Au [1,2] hI J J J ?_
 refine Ap<|Z<|Aj ?_
 exact B2 (K:=3) (N:=1) (a:=((r5.1||(!((decide (a.Places≥1))&&(decide (a.Places≤8))))),r6)) (vs:=[]) [some (.rows g 1 [[(.q ids 1 g1)]]),some (.rows g1 2 [[v8,(.bool (r5.1||(!((decide (a.Places≥1))&&(decide (a.Places≤8))))))]]),Ai v8 g10 4 (List.map Ab r6)] Tryz.func49 hI J J J (.keep (.keep (.keep (.drop .nil)))) (.same _) ⟨v8,g10,vH7,J,J⟩
theorem Ta (text:Av)(l:List Class)(most:Int)(s0_bad:Bool)(l1:List Token)(h0:Ae)(o0:Nat)(o1:Nat)(o2:Nat)(g:Nat)(v1:AV)(g1:Nat)(g2:Nat)(vH:Az v1 o1 g1 l1.length)(hI0:Ids h0 [o0,o1,o2] 3):Kn text l most s0_bad l1≠.bad→Bh Tryz.prog 48 [(.ptr o0 g 0 0),(.str text),(.sl 4 (List.map B6 l)),(.int .i64 most),(.func (.func 49) [] [(.ptr o2 g2 0 0)])] (hp h0 [o0,o1,o2] [some (.rows g 2 [[v1,(.bool s0_bad)]]),Ai v1 g1 4 (List.map Ab l1),some (.rows g2 1 [[(.ptr o0 g 0 0)]])]) (Ce (fun a_ v h' => ∃ (v7:AV),∃ (g9:Nat),Az v7 o1 g9 a_.2.length∧v=(.tup [])∧h'=hp h0 [o0,o1,o2] [some (.rows g 2 [[v7,(.bool a_.1)]]),Ai v7 g9 4 (List.map Ab a_.2),some (.rows g2 1 [[(.ptr o0 g 0 0)]])]) h0 (Kn text l most s0_bad l1)):=by
 refine A6 (n:=44) 1 Tryz.func48 J (by decide) J J hI0 J fun ids he hI=>?_
 clear hI0
 obtain rfl:ix ids 0=o0:=he 0 rfl
 obtain rfl:ix ids 1=o1:=he 1 rfl
 obtain rfl:ix ids 2=o2:=he 2 rfl
 clear he
 refine Bk (Al (Kn.eq_1 _ _ _ _ _) ?_)
 refine Aj ?_
 refine Y<|O<|Ac 6 [0] [(17,(.bool s0_bad)),(12,(.q ids 0 g))] ?_
 refine Br 5 [(0,(.q ids 0 g)),(1,(.str text)),(2,(.sl 4 (List.map B6 l))),(4,(.func (.func 49) [] [(.q ids 2 g2)])),(12,(.q ids 0 g)),(22,(.bool (s0_bad||(decide ((l.length:Int) > most)))))] ?_ fun hJ=>Bm s0_bad (fun hb1=>?_) (fun hb1=>?_)
 ·refine Ac 2 [] [(24,(.ptr (ix ids 0) g 0 1))] ?_
  refine Aq (Aw (v:=(.bool (s0_bad||(decide ((l.length:Int) > most))))) hI J J J J Og J J J J J)<|Z<|Aj ?_
  refine Y<|O<|Aa (.sl 4 (List.map B6 l)) J Ad<|Aa (.I (l.length:Int)) J (A3 (Be Ld))<|Aa (.I 0) J Ad<|Z<|A9 ?_
  refine D0 [(0,(.q ids 0 g)),(1,(.str text)),(4,(.func (.func 49) [] [(.q ids 2 g2)])),(25,(.sl 4 (List.map B6 l))),(26,(.I (l.length:Int))),(27,(.I 0))] (FI J)<|Iu (P:=Tryz.prog) l (fun _ a=>Cz fun fBad l2=>Iz text a fBad l2) (((Cz fun fBad l2=>.ok (fBad,l2))):(Bool×(List Token))→R (Bool×(List Token))) (fun j=>Cz fun fBad l2=>fun(fr:Nat→AV) (h:Ae) => ∃ (v2:AV),∃ (g3:Nat),Az v2 (ix ids 1) g3 l2.length∧fr=A2 [(0,(.q ids 0 g)),(1,(.str text)),(4,(.func (.func 49) [] [(.q ids 2 g2)])),(25,(.sl 4 (List.map B6 l))),(26,(.I (l.length:Int))),(27,(.I (j:Int)))]∧h=hp h0 ids [(some (.rows g 2 [[v2,(.bool fBad)]])),(Ai v2 g3 4 (List.map Ab l2)),(some (.rows g2 1 [[(.q ids 0 g)]])),none]) ((s0_bad||(decide ((l.length:Int) > most))),l1) ?_ ?_ ?_
  ·exact⟨v1,g1,vH,J,J⟩
  ·rintro j a ha W hW ⟨fBad,l2⟩ fr h ⟨v2,g3,vH1,rfl,rfl⟩
   refine Al (m':=Iz text a fBad l2) J (Al (Iz.eq_1 _ _ _ _) ?_)
   refine Y<|O<|Aa (.bool (decide ((j:Int)<(l.length:Int)))) J (Bc J J J)<|Z<|Y<|Dz (t:=25) (L:=l) J fun hlim=>Cw J (Int.ofNat_lt.2 (A7 ha)) ?_
   refine Ay<|Y<|A9<|Y<|O<|Aa (.cp (B6 a) 0) J (Bt (Db Ld K9 J ha))<|Aa (.agg (B6 a)) J (As (Cf K9 J)) ?_
   refine Bb (j:=3) hI J J J J K9 J fun g4=>Aq (Aw (v:=(.agg (B6 a))) hI J J J J K9 J J J J J)<|Z<|Aj ?_
   refine Y<|Y<|O<|Ac 2 [] [(32,(.bool (!(text==[]))))] ?_
   refine Z<|Dv (Cz fun fBad1 l3=>I1 a fBad1 l3) (Cz fun fBad1 l3=>fun(fr:Nat→AV) (h:Ae) => ∃ (v4:AV),∃ (g6:Nat),Az v4 (ix ids 1) g6 l3.length∧fr=A2 [(0,(.q ids 0 g)),(1,(.str text)),(4,(.func (.func 49) [] [(.q ids 2 g2)])),(11,(.q ids 3 g4)),(25,(.sl 4 (List.map B6 l))),(26,(.I (l.length:Int))),(27,(.I (j:Int)))]∧h=hp h0 ids [(some (.rows g 2 [[v4,(.bool fBad1)]])),(Ai v4 g6 4 (List.map Ab l3)),(some (.rows g2 1 [[(.q ids 0 g)]])),(some (.rows g4 4 [(B6 a)]))]) ?_ fun hJ1=>?_
   ·rintro⟨fBad1,l3⟩ fr h ⟨v4,g6,vH3,rfl,rfl⟩
    refine Al (I1.eq_1 _ _ _)<|Y<|O<|Ac 2 [3] [(38,(.agg (B6 a))),(37,(.func (.func 49) [] [(.q ids 2 g2)]))] ?_
    refine Ak [2,0,1] hI J J (We a fBad1 l3 _ (ix ids 2) (ix ids 0) (ix ids 1) g2 g v4 g6 vH3 (by exact hI.sub' J J)) J J J J J J (fun v _=>Ao (K:=3) (N:=1) Tryz.func48 hI) ?_
    rintro r1 _ _ _ ⟨v5,g7,vH4,rfl,rfl⟩
    refine Au [2,0,1] hI J J J ?_
    refine Ap<|Z<|Aj ?_
    refine O<|Aa (.q ids 0 g) J Ad<|C8 (e:=rS) (L:=[[59]]) (st:=1) (rows:=[[(.str [59])]]) J Dl Cg J J J J J (.cons (RowSim.refl _) .nil) (fun x=>Fy x) J J<|Ak [0,1] hI J J (Cy [[59]] r1.1 r1.2 _ (ix ids 0) (ix ids 1) g v5 g7 vH4 (by exact hI.sub' J J)) J J J J J J (fun v _=>Ao (K:=3) (N:=1) Tryz.func48 hI) ?_
    rintro r2 _ _ _ ⟨v6,g8,vH5,rfl,rfl⟩
    refine Au [0,1] hI J J J ?_
    refine Ap<|Z<|Aj ?_
    refine Bn<|O<|Ac 2 [] [(27,(.I (IntKind.wrap .i64 ((j:Int)+1))))] ?_
    refine Z<|D2 [(some (.rows g 2 [[v6,(.bool r2.1)]])),(Ai v6 g8 4 (List.map Ab r2.2)),(some (.rows g2 1 [[(.q ids 0 g)]])),none] hI J (.keep (.keep (.keep (.drop .nil))))<|Bo (Qy (hW (r2.1,r2.2) _ _ ⟨v6,g8,vH5,J,J⟩)) (.cons J (.cons J (.cons J (.cons J (.cons J (.cons (Dw (A7 ha) hlim) .nil))))))
   refine Dx J (fun hc=>?_) (fun hc=>?_)
   ·refine Ay<|Bo (hJ1 (fBad,l2) _ _ ⟨v2,g3,vH1,J,J⟩)
   refine O<|Ac 2 [] [(34,(.str text)),(33,(.q ids 0 g))] ?_
   refine C8 (e:=rS) (L:=[text]) (st:=1) (rows:=[[(.str text)]]) J Dl Cg J J J J J (.cons (RowSim.refl _) .nil) (fun x=>Fy x) J J<|Ak [0,1] hI J J (Bu [text] fBad l2 _ (ix ids 0) (ix ids 1) g v2 g3 vH1 (by exact hI.sub' J J)) J J J J J J (fun v _=>Ao (K:=3) (N:=1) Tryz.func48 hI) ?_
   rintro r _ _ _ ⟨v3,g5,vH2,rfl,rfl⟩
   refine Au [0,1] hI J J J ?_
   refine Ap<|Z<|Aj ?_
   exact Bo (hJ1 (r.1,r.2) _ _ ⟨v3,g5,vH2,J,J⟩)
  rintro⟨fBad,l2⟩ fr h ⟨v2,g3,vH1,rfl,rfl⟩
  refine Al (Ns _ _ _)<|Y<|O<|Aa (.bool (decide ((l.length:Int)<(l.length:Int)))) J (Bc J J J)<|Z<|Y<|Cx J (Int.lt_irrefl _) ?_
  refine C4 J<|B2 (K:=3) (N:=1) (a:=(fBad,l2)) (vs:=[]) [some (.rows g 2 [[v2,(.bool fBad)]]),Ai v2 g3 4 (List.map Ab l2),some (.rows g2 1 [[(.q ids 0 g)]])] Tryz.func48 hI J J J (.keep (.keep (.keep (.keep .nil)))) (.same _) ⟨v2,g3,vH1,J,J⟩
 ·refine Ax (t:=17) hb1 J<|Ac 5 [] [(22,(.bool true))] ?_
  exact A5 hJ (.cons J (.cons J (.cons J (.cons J (.cons J (.cons (D9 hb1) .nil))))))
 refine Ax (t:=17) hb1 J<|By (tj:=17) (.sl 4 (List.map B6 l)) J J J Ad<|By (tj:=17) (.I (l.length:Int)) J J J (A3 (Be Ld))<|Ac 3 [] [(22,(.bool (decide ((l.length:Int) > most))))] ?_
 exact A5 hJ (.cons J (.cons J (.cons J (.cons J (.cons J (.cons (Eb hb1) .nil))))))
theorem I2 (text:Av)(s1_bad:Bool)(l:List Token)(s3:Rule)(h0:Ae)(o0:Nat)(o1:Nat)(o2:Nat)(o3:Nat)(g:Nat)(g1:Nat)(v1:AV)(g2:Nat)(g3:Nat)(vH:Az v1 o2 g2 l.length)(hI0:Ids h0 [o0,o1,o2,o3] 4):Fd text s1_bad l s3≠.bad→Bh Tryz.prog 103 [(.str text),(.ptr o0 g 0 0),(.ptr o3 g3 0 0)] (hp h0 [o0,o1,o2,o3] [some (.rows g 1 [[(.ptr o1 g1 0 0)]]),some (.rows g1 2 [[v1,(.bool s1_bad)]]),Ai v1 g2 4 (List.map Ab l),some (.rows g3 8 [(A4 s3)])]) (Ce (fun a_ v h' => ∃ (v4:AV),∃ (g6:Nat),Az v4 o2 g6 a_.2.length∧v=(.tup [])∧h'=hp h0 [o0,o1,o2,o3] [some (.rows g 1 [[(.ptr o1 g1 0 0)]]),some (.rows g1 2 [[v4,(.bool a_.1)]]),Ai v4 g6 4 (List.map Ab a_.2),some (.rows g3 8 [(A4 s3)])]) h0 (Fd text s1_bad l s3)):=by
 refine A6 (n:=12) 0 Tryz.func103 J (by decide) J J hI0 J fun ids he hI=>?_
 clear hI0
 obtain rfl:ix ids 0=o0:=he 0 rfl
 obtain rfl:ix ids 1=o1:=he 1 rfl
 obtain rfl:ix ids 2=o2:=he 2 rfl
 obtain rfl:ix ids 3=o3:=he 3 rfl
 clear he
 refine Bk (Al (Fd.eq_1 _ _ _ _) ?_)
 refine Y<|O<|Ac 2 [0] [(5,(.str text)),(4,(.q ids 1 g1))] ?_
 refine C8 (e:=rS) (L:=[text]) (st:=1) (rows:=[[(.str text)]]) J Dl Cg J J J J J (.cons (RowSim.refl _) .nil) (fun x=>Fy x) J J<|Ak [1,2] hI J J (Bu [text] s1_bad l _ (ix ids 1) (ix ids 2) g1 v1 g2 vH (by exact hI.sub' J J)) J J J J J J (fun v _=>Ao (K:=4) (N:=0) Tryz.func103 hI) ?_
 rintro r _ _ _ ⟨v2,g4,vH1,rfl,rfl⟩
 refine Au [1,2] hI J J J ?_
 refine Ap<|Z<|Aj ?_
 refine O<|Ac 3 [0,3] [(10,(.str s3.C)),(8,(.q ids 1 g1))] ?_
 refine Ak [1,2] hI J J (Cr s3.C r.1 r.2 _ (ix ids 1) (ix ids 2) g1 v2 g4 vH1 (by exact hI.sub' J J)) J J J J J J (fun v _=>Ao (K:=4) (N:=0) Tryz.func103 hI) ?_
 rintro r1 _ _ _ ⟨v3,g5,vH2,rfl,rfl⟩
 refine Au [1,2] hI J J J ?_
 refine Ap<|Z<|Aj ?_
 exact B2 (K:=4) (N:=0) (a:=(r1.1,r1.2)) (vs:=[]) [some (.rows g 1 [[(.q ids 1 g1)]]),some (.rows g1 2 [[v3,(.bool r1.1)]]),Ai v3 g5 4 (List.map Ab r1.2),some (.rows g3 8 [(A4 s3)])] Tryz.func103 hI J J J (.keep (.keep (.keep (.keep .nil)))) (.same _) ⟨v3,g5,vH2,J,J⟩
theorem Us (b:Rule)(s0_bad:Bool)(l:List Token)(h0:Ae)(o0:Nat)(o1:Nat)(g:Nat)(v1:AV)(g1:Nat)(vH:Az v1 o1 g1 l.length)(hI0:Ids h0 [o0,o1] 2):L7 b s0_bad l≠.bad→Bh Tryz.prog 51 [(.ptr o0 g 0 0),(.agg (A4 b))] (hp h0 [o0,o1] [some (.rows g 2 [[v1,(.bool s0_bad)]]),Ai v1 g1 4 (List.map Ab l)]) (Ce (fun a_ v h' => ∃ (v12:AV),∃ (g16:Nat),Az v12 o1 g16 a_.2.length∧v=(.tup [])∧h'=hp h0 [o0,o1] [some (.rows g 2 [[v12,(.bool a_.1)]]),Ai v12 g16 4 (List.map Ab a_.2)]) h0 (L7 b s0_bad l)):=by
 refine A6 (n:=93) 4 Tryz.func51 J (by decide) J J hI0 J fun ids he hI=>?_
 clear hI0
 obtain rfl:ix ids 0=o0:=he 0 rfl
 obtain rfl:ix ids 1=o1:=he 1 rfl
 clear he
 refine Bk (Al (L7.eq_1 _ _ _) ?_)
 refine Aj ?_
 refine Y<|O<|Ck (v:=(.q ids 0 g)) (j:=2) hI J J J J J J J fun g2=>Ck (v:=(.agg (A4 b))) (j:=3) hI J J J J J J J fun g3=>Z<|Aj ?_
 refine Y<|O<|Ac 1 [3] [(7,(.agg (A4 b)))] ?_
 refine Bb (j:=4) hI J J J J Dk J fun g4=>Aq (Aw (v:=(.agg (A4 b))) hI J J J J Dk J J J J J)<|Z<|Aj ?_
 refine Y<|O<|Aa (.ptr (ix ids 4) g4 0 3) J (Cb (B0 (c:=0) (off:=3) (i:=3) Dk J Dq J))<|Aq (Aw (v:=(.I 0)) hI J J J J Dq J J J J J)<|Aa (.ptr (ix ids 4) g4 0 4) J (Cb (B0 (c:=0) (off:=4) (i:=4) Dk J Dq J))<|Aq (Aw (v:=(.I 0)) hI J J J J Dq J J J J J)<|Z ?_
 refine Aj ?_
 refine Y<|O<|Ac 5 [3,3] [(14,(.agg [(.I b.Kind),(.str b.C),(.str []),(.I 0),(.I 0),(.I 0),(.I 0),(.I 0)]))] ?_
 refine Bb (j:=5) hI J J J J Dk J fun g5=>Aq (Aw (v:=(.agg [(.I b.Kind),(.str b.C),(.str []),(.I 0),(.I 0),(.I 0),(.I 0),(.I 0)])) hI J J J J Dk J J J J J)<|Z<|Aj ?_
 refine Y<|O<|Ac 2 [] [(6,(.func (.func 103) [] [(.q ids 2 g2),(.q ids 3 g3)]))] ?_
 refine Z<|Y<|Y<|O<|Ac 2 [3] [(17,(.I b.Kind))] ?_
 refine Z<|Dv (un3 fun fBad l1 o=>Ew b fBad l1 o) (un3 fun fBad l1 o=>fun(fr:Nat→AV) (h:Ae) => ∃ (v11:AV),∃ (g15:Nat),Az v11 (ix ids 1) g15 l1.length∧fr=A2 [(2,(.q ids 2 g2)),(4,(.q ids 4 g4)),(5,(.q ids 5 g5))]∧h=hp h0 ids [(some (.rows g 2 [[v11,(.bool fBad)]])),(Ai v11 g15 4 (List.map Ab l1)),(some (.rows g2 1 [[(.q ids 0 g)]])),none,(some (.rows g4 8 [[(.I b.Kind),(.str b.C),(.str b.A),(.I 0),(.I 0),(.I b.N),(.I b.Hours.From),(.I b.Hours.To)]])),(some (.rows g5 8 [(A4 o)]))]) ?_ fun hJ=>?_
 ·rintro⟨fBad,l1,o⟩ fr h ⟨v11,g15,vH10,rfl,rfl⟩
  refine Al (Ew.eq_1 _ _ _ _)<|C2 Fa [[],[],[1],[1,2],[1,2,3],[1,2,3,4],[1,2,3,4,5],[1,2,3,4,5],[1,2,3,4,5,6,7],[1,2,3,4,5,6,7,8],[0,0,1,2,3,4,5,6,7,8,9],[0,1,2,3,4,5,6,7,8,9,10],[0,1,2,3,4,5,6,7,8,9,10,11]] [(false,0),(false,1),(false,2),(false,3),(false,4),(false,5),(false,6),(false,7),(false,8),(false,9),(false,10),(false,11),(true,12)] (by kernel_rfl)<|Ag (.q ids 0 g) J J (As (Ba hI J J J Aa1 J))<|Ag (.q ids 0 g) J J (As (Ba hI J J J Aa1 J))<|Ag (.q ids 0 g) J J (Bg J)<|Ag (.ptr (ix ids 0) g 0 1) J J (Cb (B0 (c:=0) (off:=1) (i:=1) Vd J Og J))<|Ag (.bool fBad) J J (As (Ba hI J J J Og J)) ?_
  refine Ag (.bool fBad) J J Ad<|Lo (fun hb1=>?_) (fun hb1=>?_)
  ·refine Jd (tj:=86) (b:=true) J J (congrArg AV.bool hb1) J J<|Jd (tj:=86) (b:=true) J J (congrArg AV.bool hb1) J J<|Jd (tj:=86) (b:=true) J J (congrArg AV.bool hb1) J J<|Ag (.bool true) J J (Eg (t:=true) (congrArg AV.bool hb1) J)<|Ag (.q ids 0 g) J J (Bg J)<|Ag (.ptr (ix ids 0) g 0 1) J J (Cb (B0 (c:=0) (off:=1) (i:=1) Vd J Og J))<|Fk J (fun _ _=>J) (fun K hK=>Dj (Aw (v:=(.bool true)) hI J J J J Og J J J J J) (hK _ _ (Af J (Af J (Af J (Af J (Af J (Af J (Af J (Af J (Af J (Af J (Af J (Af J Bw)))))))))))) ?_))
   clear hK K
   refine Cl<|Aj ?_
   exact B2 (K:=2) (N:=4) (a:=(true,l1)) (vs:=[]) [some (.rows g 2 [[v11,(.bool true)]]),Ai v11 g15 4 (List.map Ab l1)] Tryz.func51 hI J J J (.keep (.keep (.drop (.keep (.drop (.drop .nil)))))) (.same _) ⟨v11,g15,vH10,J,J⟩
  refine G2 (tj:=86) (.agg [(.I b.Kind),(.str b.C),(.str b.A),(.I 0),(.I 0),(.I b.N),(.I b.Hours.From),(.I b.Hours.To)]) J J (congrArg AV.bool hb1) J (As (Ba hI J J J Dk J))<|G2 (tj:=86) (.agg (A4 o)) J J (congrArg AV.bool hb1) J (As (Ba hI J J J Dk J))<|G2 (tj:=86) (.bool (!((b.Kind==o.Kind)&&((b.C==o.C)&&((b.A==o.A)&&((0==o.Class)&&((0==o.Airport)&&((b.N==o.N)&&((b.Hours.From==o.Hours.From)&&(b.Hours.To==o.Hours.To)))))))))) J J (congrArg AV.bool hb1) J (Bc (Acw J J) J Acb)<|Ag (.bool (!((b.Kind==o.Kind)&&((b.C==o.C)&&((b.A==o.A)&&((0==o.Class)&&((0==o.Airport)&&((b.N==o.N)&&((b.Hours.From==o.Hours.From)&&(b.Hours.To==o.Hours.To)))))))))) J J (Eg (t:=false) (congrArg AV.bool hb1) J)<|Ag (.q ids 0 g) J J (Bg J)<|Ag (.ptr (ix ids 0) g 0 1) J J (Cb (B0 (c:=0) (off:=1) (i:=1) Vd J Og J))<|Fk J (fun _ _=>J) (fun K hK=>Dj (Aw (v:=(.bool (!((b.Kind==o.Kind)&&((b.C==o.C)&&((b.A==o.A)&&((0==o.Class)&&((0==o.Airport)&&((b.N==o.N)&&((b.Hours.From==o.Hours.From)&&(b.Hours.To==o.Hours.To))))))))))) hI J J J J Og J J J J J) (hK _ _ (Af J (Af J (Af J (Af J (Af J (Af J (Af J (Af J (Af J (Af J (Af J (Af J Bw)))))))))))) ?_))
  clear hK K
  refine Cl<|Aj ?_
  exact B2 (K:=2) (N:=4) (a:=((!((b.Kind==o.Kind)&&((b.C==o.C)&&((b.A==o.A)&&((0==o.Class)&&((0==o.Airport)&&((b.N==o.N)&&((b.Hours.From==o.Hours.From)&&(b.Hours.To==o.Hours.To))))))))),l1)) (vs:=[]) [some (.rows g 2 [[v11,(.bool (!((b.Kind==o.Kind)&&((b.C==o.C)&&((b.A==o.A)&&((0==o.Class)&&((0==o.Airport)&&((b.N==o.N)&&((b.Hours.From==o.Hours.From)&&(b.Hours.To==o.Hours.To))))))))))]]),Ai v11 g15 4 (List.map Ab l1)] Tryz.func51 hI J J J (.keep (.keep (.drop (.keep (.drop (.drop .nil)))))) (.same _) ⟨v11,g15,vH10,J,J⟩
 refine A9<|Y<|O<|Ac 2 [] [(21,(.bool (b.Kind==1)))] ?_
 refine Z<|B3 J (fun hc=>?_) (fun hc=>?_)
 ·refine Y<|C2 Fa [[],[0],[],[2],[0,1],[0,1,1,4],[0,1,2,3,4,5],[0,1,2,3,3,4,5,5,6]] [(false,0),(false,1),(false,2),(false,3),(false,4),(true,5),(false,6),(true,7)] (by kernel_rfl)<|Ag (.ptr (ix ids 3) g3 0 2) J J (Cb (B0 (c:=0) (off:=2) (i:=2) Dk J Cg J))<|Ag (.str b.A) J J (As (Ba hI J J J Cg J))<|Ag (.ptr (ix ids 3) g3 0 6) J J (Cb (B0 (c:=0) (off:=6) (i:=6) Dk J Kd J))<|Ag (.agg (B4 b.Hours)) J J (As (Ba hI J J J Kd J))<|Ag (.ptr (ix ids 5) g5 0 2) J J (Cb (B0 (c:=0) (off:=2) (i:=2) Dk J Cg J)) ?_
  refine Fk J (fun _ _=>J) (fun K hK=>Dj (Aw (v:=(.str b.A)) hI J J J J Cg J J J J J) (hK _ _ (Af J (Bp J (As (Ba hI J J J Kd J)) (Bp J (Cb (B0 (c:=0) (off:=6) (i:=6) Dk J Kd J)) (Af J (Af J Bw))))) ?_))
  clear hK K
  refine Ag (.ptr (ix ids 5) g5 0 6) J J (Cb (B0 (c:=0) (off:=6) (i:=6) Dk J Kd J))<|Fk J (fun _ _=>J) (fun K hK=>Dj (Aw (v:=(.agg (B4 b.Hours))) hI J J J J Kd J J J J J) (hK _ _ (Af J (Af J (Af J (Af J (Af J (Af J Bw)))))) ?_))
  clear hK K
  refine Cl<|Aj ?_
  refine Y<|O<|Aa (.func (.func 103) [] [(.q ids 2 g2),(.q ids 3 g3)]) J Ad<|Ak [2,0,1,3] hI J J (I2 [99,117,114,102,101,119] s0_bad l b _ (ix ids 2) (ix ids 0) (ix ids 1) (ix ids 3) g2 g v1 g1 g3 vH (by exact hI.sub' J J)) J J J J J J (fun v _=>Ao (K:=2) (N:=4) Tryz.func51 hI) ?_
  rintro r _ _ _ ⟨v2,g6,vH1,rfl,rfl⟩
  refine Au [2,0,1,3] hI J J J ?_
  refine Ap<|Z<|Aj ?_
  refine Y<|O<|Ac 1 [2] [(31,(.q ids 0 g))] ?_
  refine C8 (e:=rS) (L:=[[97,116]]) (st:=1) (rows:=[[(.str [97,116])]]) J Dl Cg J J J J J (.cons (RowSim.refl _) .nil) (fun x=>Fy x) J J<|Ak [0,1] hI J J (Bu [[97,116]] r.1 r.2 _ (ix ids 0) (ix ids 1) g v2 g6 vH1 (by exact hI.sub' J J)) J J J J J J (fun v _=>Ao (K:=2) (N:=4) Tryz.func51 hI) ?_
  rintro r1 _ _ _ ⟨v3,g7,vH2,rfl,rfl⟩
  refine Au [0,1] hI J J J ?_
  refine Ap<|Z<|Aj ?_
  refine Y<|O<|Ac 3 [2,3] [(36,(.str b.A)),(34,(.q ids 0 g))] ?_
  refine Ak [0,1] hI J J (Cr b.A r1.1 r1.2 _ (ix ids 0) (ix ids 1) g v3 g7 vH2 (by exact hI.sub' J J)) J J J J J J (fun v _=>Ao (K:=2) (N:=4) Tryz.func51 hI) ?_
  rintro r2 _ _ _ ⟨v4,g8,vH3,rfl,rfl⟩
  refine Au [0,1] hI J J J ?_
  refine Ap<|Z<|Aj ?_
  refine O<|Ac 3 [2,3] [(40,(.agg (B4 b.Hours))),(38,(.q ids 0 g))] ?_
  refine Ak [0,1] hI J J (O0 b.Hours r2.1 r2.2 _ (ix ids 0) (ix ids 1) g v4 g8 vH3 (by exact hI.sub' J J)) J J J J J J (fun v _=>Ao (K:=2) (N:=4) Tryz.func51 hI) ?_
  rintro r3 _ _ _ ⟨v5,g9,vH4,rfl,rfl⟩
  refine Au [0,1] hI J J J ?_
  refine Ap<|Z<|Aj ?_
  refine Bn<|D2 [(some (.rows g 2 [[v5,(.bool r3.1)]])),(Ai v5 g9 4 (List.map Ab r3.2)),(some (.rows g2 1 [[(.q ids 0 g)]])),none,(some (.rows g4 8 [[(.I b.Kind),(.str b.C),(.str b.A),(.I 0),(.I 0),(.I b.N),(.I b.Hours.From),(.I b.Hours.To)]])),(some (.rows g5 8 [[(.I b.Kind),(.str b.C),(.str b.A),(.I 0),(.I 0),(.I 0),(.I b.Hours.From),(.I b.Hours.To)]]))] hI J (.keep (.keep (.keep (.drop (.keep (.keep .nil))))))<|Bo (hJ (r3.1,r3.2,({ Kind:=b.Kind,C:=b.C,A:=b.A,Class:=0,Airport:=0,N:=0,Hours:=b.Hours }:Rule)) _ _ ⟨v5,g9,vH4,J,J⟩)
 refine Y<|O<|Ac 2 [] [(42,(.bool (b.Kind==2)))] ?_
 refine Z<|B3 J (fun hc1=>?_) (fun hc1=>?_)
 ·refine O<|Aa (.func (.func 103) [] [(.q ids 2 g2),(.q ids 3 g3)]) J Ad<|Ak [2,0,1,3] hI J J (I2 [101,120,101,109,112,116] s0_bad l b _ (ix ids 2) (ix ids 0) (ix ids 1) (ix ids 3) g2 g v1 g1 g3 vH (by exact hI.sub' J J)) J J J J J J (fun v _=>Ao (K:=2) (N:=4) Tryz.func51 hI) ?_
  rintro r4 _ _ _ ⟨v6,g10,vH5,rfl,rfl⟩
  refine Au [2,0,1,3] hI J J J ?_
  refine Ap<|Z<|Aj ?_
  refine Bn<|D2 [(some (.rows g 2 [[v6,(.bool r4.1)]])),(Ai v6 g10 4 (List.map Ab r4.2)),(some (.rows g2 1 [[(.q ids 0 g)]])),none,(some (.rows g4 8 [[(.I b.Kind),(.str b.C),(.str b.A),(.I 0),(.I 0),(.I b.N),(.I b.Hours.From),(.I b.Hours.To)]])),(some (.rows g5 8 [[(.I b.Kind),(.str b.C),(.str []),(.I 0),(.I 0),(.I 0),(.I 0),(.I 0)]]))] hI J (.keep (.keep (.keep (.drop (.keep (.keep .nil))))))<|Bo (hJ (r4.1,r4.2,({ Kind:=b.Kind,C:=b.C,A:=[],Class:=0,Airport:=0,N:=0,Hours:=({ From:=0,To:=0 }:Span) }:Rule)) _ _ ⟨v6,g10,vH5,J,J⟩)
 refine Y<|O<|Ac 2 [] [(46,(.bool (b.Kind==3)))] ?_
 refine Z<|B3 J (fun hc2=>?_) (fun hc2=>?_)
 ·refine Y<|O<|Ac 3 [3] [(50,(.ptr (ix ids 5) g5 0 5)),(49,(.I b.N))] ?_
  refine Aq (Aw (v:=(.I b.N)) hI J J J J Dq J J J J J)<|Z<|Aj ?_
  refine Y<|O<|Aa (.func (.func 103) [] [(.q ids 2 g2),(.q ids 3 g3)]) J Ad<|Ak [2,0,1,3] hI J J (I2 [119,101,105,103,104,116] s0_bad l b _ (ix ids 2) (ix ids 0) (ix ids 1) (ix ids 3) g2 g v1 g1 g3 vH (by exact hI.sub' J J)) J J J J J J (fun v _=>Ao (K:=2) (N:=4) Tryz.func51 hI) ?_
  rintro r5 _ _ _ ⟨v7,g11,vH6,rfl,rfl⟩
  refine Au [2,0,1,3] hI J J J ?_
  refine Ap<|Z<|Aj ?_
  refine O<|Ac 3 [2,3] [(55,(.I b.N)),(53,(.q ids 0 g))] ?_
  refine Ak [0,1] hI J J (C7 b.N 1 8 r5.1 r5.2 _ (ix ids 0) (ix ids 1) g v7 g11 vH6 (by exact hI.sub' J J)) J J J J J J (fun v _=>Ao (K:=2) (N:=4) Tryz.func51 hI) ?_
  rintro r6 _ _ _ ⟨v8,g12,vH7,rfl,rfl⟩
  refine Au [0,1] hI J J J ?_
  refine Ap<|Z<|Aj ?_
  refine Bn<|D2 [(some (.rows g 2 [[v8,(.bool (r5.1||(!((decide (b.N≥1))&&(decide (b.N≤8))))))]])),(Ai v8 g12 4 (List.map Ab r6)),(some (.rows g2 1 [[(.q ids 0 g)]])),none,(some (.rows g4 8 [[(.I b.Kind),(.str b.C),(.str b.A),(.I 0),(.I 0),(.I b.N),(.I b.Hours.From),(.I b.Hours.To)]])),(some (.rows g5 8 [[(.I b.Kind),(.str b.C),(.str []),(.I 0),(.I 0),(.I b.N),(.I 0),(.I 0)]]))] hI J (.keep (.keep (.keep (.drop (.keep (.keep .nil))))))<|Bo (hJ ((r5.1||(!((decide (b.N≥1))&&(decide (b.N≤8))))),r6,({ Kind:=b.Kind,C:=b.C,A:=[],Class:=0,Airport:=0,N:=b.N,Hours:=({ From:=0,To:=0 }:Span) }:Rule)) _ _ ⟨v8,g12,vH7,J,J⟩)
 refine Y<|O<|Ac 2 [] [(57,(.bool (b.Kind==4)))] ?_
 refine Z<|B3 J (fun hc3=>?_) (fun hc3=>?_)
 ·refine Y<|O<|Ac 3 [3] [(61,(.ptr (ix ids 5) g5 0 5)),(60,(.I b.N))] ?_
  refine Aq (Aw (v:=(.I b.N)) hI J J J J Dq J J J J J)<|Z<|Aj ?_
  refine Y<|O<|Aa (.func (.func 103) [] [(.q ids 2 g2),(.q ids 3 g3)]) J Ad<|Ak [2,0,1,3] hI J J (I2 [108,111,110,103,101,115,116] s0_bad l b _ (ix ids 2) (ix ids 0) (ix ids 1) (ix ids 3) g2 g v1 g1 g3 vH (by exact hI.sub' J J)) J J J J J J (fun v _=>Ao (K:=2) (N:=4) Tryz.func51 hI) ?_
  rintro r7 _ _ _ ⟨v9,g13,vH8,rfl,rfl⟩
  refine Au [2,0,1,3] hI J J J ?_
  refine Ap<|Z<|Aj ?_
  refine Y<|O<|Ac 3 [2,3] [(66,(.I b.N)),(64,(.q ids 0 g))] ?_
  refine Ak [0,1] hI J J (C7 b.N 0 60 r7.1 r7.2 _ (ix ids 0) (ix ids 1) g v9 g13 vH8 (by exact hI.sub' J J)) J J J J J J (fun v _=>Ao (K:=2) (N:=4) Tryz.func51 hI) ?_
  rintro r8 _ _ _ ⟨v10,g14,vH9,rfl,rfl⟩
  refine Au [0,1] hI J J J ?_
  refine Ap<|Z<|Aj ?_
  refine C2 Fa [[],[],[1],[1,2],[1,2,3],[1,2,3,4],[1,2,3,4,5],[1,2,3,4,5,6],[1,2,3,4,5,6,7],[1,2,3,4,5,6,7,8],[1,2,3,4,5,6,7,8,9],[0,0,1,2,3,4,5,6,7,8,9,10],[0,1,2,3,4,5,6,7,8,9,10,11],[0,1,2,3,4,5,6,7,8,9,10,11,12]] [(false,0),(false,1),(false,2),(false,3),(false,4),(false,5),(false,6),(false,7),(false,8),(false,9),(false,10),(false,11),(false,12),(true,13)] (by kernel_rfl)<|Ag (.q ids 0 g) J J (As (Ba hI J J J Aa1 J))<|Ag (.q ids 0 g) J J (As (Ba hI J J J Aa1 J))<|Ag (.q ids 0 g) J J (Bg J)<|Ag (.ptr (ix ids 0) g 0 1) J J (Cb (B0 (c:=0) (off:=1) (i:=1) Vd J Og J))<|Ag (.bool (r7.1||(!((decide (b.N≥0))&&(decide (b.N≤60)))))) J J (As (Ba hI J J J Og J))<|Ag (.bool (r7.1||(!((decide (b.N≥0))&&(decide (b.N≤60)))))) J J Ad ?_
  refine Lo (fun hb=>?_) (fun hb=>?_)
  ·refine Jd (tj:=73) (b:=true) J J (congrArg AV.bool hb) J J<|Jd (tj:=73) (b:=true) J J (congrArg AV.bool hb) J J<|Jd (tj:=73) (b:=true) J J (congrArg AV.bool hb) J J<|Jd (tj:=73) (b:=true) J J (congrArg AV.bool hb) J J<|Ag (.bool true) J J (Eg (t:=true) (congrArg AV.bool hb) J)<|Ag (.q ids 0 g) J J (Bg J)<|Ag (.ptr (ix ids 0) g 0 1) J J (Cb (B0 (c:=0) (off:=1) (i:=1) Vd J Og J)) ?_
   refine Fk J (fun _ _=>J) (fun K hK=>Dj (Aw (v:=(.bool true)) hI J J J J Og J J J J J) (hK _ _ (Af J (Af J (Af J (Af J (Af J (Af J (Af J (Af J (Af J (Af J (Af J (Af J (Af J Bw))))))))))))) ?_))
   clear hK K
   refine Cl<|Aj ?_
   refine Bn<|D2 [(some (.rows g 2 [[v10,(.bool true)]])),(Ai v10 g14 4 (List.map Ab r8)),(some (.rows g2 1 [[(.q ids 0 g)]])),none,(some (.rows g4 8 [[(.I b.Kind),(.str b.C),(.str b.A),(.I 0),(.I 0),(.I b.N),(.I b.Hours.From),(.I b.Hours.To)]])),(some (.rows g5 8 [[(.I b.Kind),(.str b.C),(.str []),(.I 0),(.I 0),(.I b.N),(.I 0),(.I 0)]]))] hI J (.keep (.keep (.keep (.drop (.keep (.keep .nil))))))<|Bo (hJ (true,r8,({ Kind:=b.Kind,C:=b.C,A:=[],Class:=0,Airport:=0,N:=b.N,Hours:=({ From:=0,To:=0 }:Span) }:Rule)) _ _ ⟨v10,g14,vH9,J,J⟩)
  refine G2 (tj:=73) (.ptr (ix ids 3) g3 0 5) J J (congrArg AV.bool hb) J (Cb (B0 (c:=0) (off:=5) (i:=5) Dk J Dq J))<|G2 (tj:=73) (.I b.N) J J (congrArg AV.bool hb) J (As (Ba hI J J J Dq J))<|G2 (tj:=73) (.I (Int.tmod b.N 10)) J J (congrArg AV.bool hb) J (Bc J J (Aey J (by decide)))<|G2 (tj:=73) (.bool ((Int.tmod b.N 10) != 0)) J J (congrArg AV.bool hb) J (Bc J J J)<|Ag (.bool ((Int.tmod b.N 10) != 0)) J J (Eg (t:=false) (congrArg AV.bool hb) J)<|Ag (.q ids 0 g) J J (Bg J)<|Ag (.ptr (ix ids 0) g 0 1) J J (Cb (B0 (c:=0) (off:=1) (i:=1) Vd J Og J)) ?_
  refine Fk J (fun _ _=>J) (fun K hK=>Dj (Aw (v:=(.bool ((Int.tmod b.N 10) != 0))) hI J J J J Og J J J J J) (hK _ _ (Af J (Af J (Af J (Af J (Af J (Af J (Af J (Af J (Af J (Af J (Af J (Af J (Af J Bw))))))))))))) ?_))
  clear hK K
  refine Cl<|Aj ?_
  refine Bn<|D2 [(some (.rows g 2 [[v10,(.bool ((Int.tmod b.N 10) != 0))]])),(Ai v10 g14 4 (List.map Ab r8)),(some (.rows g2 1 [[(.q ids 0 g)]])),none,(some (.rows g4 8 [[(.I b.Kind),(.str b.C),(.str b.A),(.I 0),(.I 0),(.I b.N),(.I b.Hours.From),(.I b.Hours.To)]])),(some (.rows g5 8 [[(.I b.Kind),(.str b.C),(.str []),(.I 0),(.I 0),(.I b.N),(.I 0),(.I 0)]]))] hI J (.keep (.keep (.keep (.drop (.keep (.keep .nil))))))<|Bo (hJ (((Int.tmod b.N 10) != 0),r8,({ Kind:=b.Kind,C:=b.C,A:=[],Class:=0,Airport:=0,N:=b.N,Hours:=({ From:=0,To:=0 }:Span) }:Rule)) _ _ ⟨v10,g14,vH9,J,J⟩)
 refine O<|Ac 3 [2] [(20,(.ptr (ix ids 0) g 0 1))] ?_
 refine Aq (Aw (v:=(.bool true)) hI J J J J Og J J J J J)<|Z<|Aj ?_
 refine Bn<|D2 [(some (.rows g 2 [[v1,(.bool true)]])),(Ai v1 g1 4 (List.map Ab l)),(some (.rows g2 1 [[(.q ids 0 g)]])),none,(some (.rows g4 8 [[(.I b.Kind),(.str b.C),(.str b.A),(.I 0),(.I 0),(.I b.N),(.I b.Hours.From),(.I b.Hours.To)]])),(some (.rows g5 8 [[(.I b.Kind),(.str b.C),(.str []),(.I 0),(.I 0),(.I 0),(.I 0),(.I 0)]]))] hI J (.keep (.keep (.keep (.drop (.keep (.keep .nil))))))<|Bo (hJ (true,l,({ Kind:=b.Kind,C:=b.C,A:=[],Class:=0,Airport:=0,N:=0,Hours:=({ From:=0,To:=0 }:Span) }:Rule)) _ _ ⟨v1,g1,vH,J,J⟩)
theorem So (text:Av)(l:List Rule)(most:Int)(s0_bad:Bool)(l1:List Token)(h0:Ae)(o0:Nat)(o1:Nat)(g:Nat)(v1:AV)(g1:Nat)(vH:Az v1 o1 g1 l1.length)(hI0:Ids h0 [o0,o1] 2):Jx text l most s0_bad l1≠.bad→Bh Tryz.prog 50 [(.ptr o0 g 0 0),(.str text),(.sl 8 (List.map A4 l)),(.int .i64 most),(.func (.func 51) [(.ptr o0 g 0 0)] [])] (hp h0 [o0,o1] [some (.rows g 2 [[v1,(.bool s0_bad)]]),Ai v1 g1 4 (List.map Ab l1)]) (Ce (fun a_ v h' => ∃ (v7:AV),∃ (g8:Nat),Az v7 o1 g8 a_.2.length∧v=(.tup [])∧h'=hp h0 [o0,o1] [some (.rows g 2 [[v7,(.bool a_.1)]]),Ai v7 g8 4 (List.map Ab a_.2)]) h0 (Jx text l most s0_bad l1)):=by
 refine A6 (n:=44) 1 Tryz.func50 J (by decide) J J hI0 J fun ids he hI=>?_
 clear hI0
 obtain rfl:ix ids 0=o0:=he 0 rfl
 obtain rfl:ix ids 1=o1:=he 1 rfl
 clear he
 refine Bk (Al (Jx.eq_1 _ _ _ _ _) ?_)
 refine Aj ?_
 refine Y<|O<|Ac 6 [0] [(17,(.bool s0_bad)),(12,(.q ids 0 g))] ?_
 refine Br 5 [(0,(.q ids 0 g)),(1,(.str text)),(2,(.sl 8 (List.map A4 l))),(4,(.func (.func 51) [(.q ids 0 g)] [])),(12,(.q ids 0 g)),(22,(.bool (s0_bad||(decide ((l.length:Int) > most)))))] ?_ fun hJ=>Bm s0_bad (fun hb1=>?_) (fun hb1=>?_)
 ·refine Ac 2 [] [(24,(.ptr (ix ids 0) g 0 1))] ?_
  refine Aq (Aw (v:=(.bool (s0_bad||(decide ((l.length:Int) > most))))) hI J J J J Og J J J J J)<|Z<|Aj ?_
  refine Y<|O<|Aa (.sl 8 (List.map A4 l)) J Ad<|Aa (.I (l.length:Int)) J (A3 (Be E7))<|Aa (.I 0) J Ad<|Z<|A9 ?_
  refine D0 [(0,(.q ids 0 g)),(1,(.str text)),(4,(.func (.func 51) [(.q ids 0 g)] [])),(25,(.sl 8 (List.map A4 l))),(26,(.I (l.length:Int))),(27,(.I 0))] (FI J)<|Iu (P:=Tryz.prog) l (fun _ a=>Cz fun fBad l2=>Ig text a fBad l2) (((Cz fun fBad l2=>.ok (fBad,l2))):(Bool×(List Token))→R (Bool×(List Token))) (fun j=>Cz fun fBad l2=>fun(fr:Nat→AV) (h:Ae) => ∃ (v2:AV),∃ (g2:Nat),Az v2 (ix ids 1) g2 l2.length∧fr=A2 [(0,(.q ids 0 g)),(1,(.str text)),(4,(.func (.func 51) [(.q ids 0 g)] [])),(25,(.sl 8 (List.map A4 l))),(26,(.I (l.length:Int))),(27,(.I (j:Int)))]∧h=hp h0 ids [(some (.rows g 2 [[v2,(.bool fBad)]])),(Ai v2 g2 4 (List.map Ab l2)),none]) ((s0_bad||(decide ((l.length:Int) > most))),l1) ?_ ?_ ?_
  ·exact⟨v1,g1,vH,J,J⟩
  ·rintro j a ha W hW ⟨fBad,l2⟩ fr h ⟨v2,g2,vH1,rfl,rfl⟩
   refine Al (m':=Ig text a fBad l2) J (Al (Ig.eq_1 _ _ _ _) ?_)
   refine Y<|O<|Aa (.bool (decide ((j:Int)<(l.length:Int)))) J (Bc J J J)<|Z<|Y<|Dz (t:=25) (L:=l) J fun hlim=>Cw J (Int.ofNat_lt.2 (A7 ha)) ?_
   refine Ay<|Y<|A9<|Y<|O<|Aa (.cp (A4 a) 0) J (Bt (Db E7 Dk J ha))<|Aa (.agg (A4 a)) J (As (Cf Dk J)) ?_
   refine Bb (j:=2) hI J J J J Dk J fun g3=>Aq (Aw (v:=(.agg (A4 a))) hI J J J J Dk J J J J J)<|Z<|Aj ?_
   refine Y<|Y<|O<|Ac 2 [] [(32,(.bool (!(text==[]))))] ?_
   refine Z<|Dv (Cz fun fBad1 l3=>Ir a fBad1 l3) (Cz fun fBad1 l3=>fun(fr:Nat→AV) (h:Ae) => ∃ (v4:AV),∃ (g5:Nat),Az v4 (ix ids 1) g5 l3.length∧fr=A2 [(0,(.q ids 0 g)),(1,(.str text)),(4,(.func (.func 51) [(.q ids 0 g)] [])),(11,(.q ids 2 g3)),(25,(.sl 8 (List.map A4 l))),(26,(.I (l.length:Int))),(27,(.I (j:Int)))]∧h=hp h0 ids [(some (.rows g 2 [[v4,(.bool fBad1)]])),(Ai v4 g5 4 (List.map Ab l3)),(some (.rows g3 8 [(A4 a)]))]) ?_ fun hJ1=>?_
   ·rintro⟨fBad1,l3⟩ fr h ⟨v4,g5,vH3,rfl,rfl⟩
    refine Al (Ir.eq_1 _ _ _)<|Y<|O<|Ac 2 [2] [(38,(.agg (A4 a))),(37,(.func (.func 51) [(.q ids 0 g)] []))] ?_
    refine Ak [0,1] hI J J (Us a fBad1 l3 _ (ix ids 0) (ix ids 1) g v4 g5 vH3 (by exact hI.sub' J J)) J J J J J J (fun v _=>Ao (K:=2) (N:=1) Tryz.func50 hI) ?_
    rintro r1 _ _ _ ⟨v5,g6,vH4,rfl,rfl⟩
    refine Au [0,1] hI J J J ?_
    refine Ap<|Z<|Aj ?_
    refine O<|Aa (.q ids 0 g) J Ad<|C8 (e:=rS) (L:=[[59]]) (st:=1) (rows:=[[(.str [59])]]) J Dl Cg J J J J J (.cons (RowSim.refl _) .nil) (fun x=>Fy x) J J<|Ak [0,1] hI J J (Cy [[59]] r1.1 r1.2 _ (ix ids 0) (ix ids 1) g v5 g6 vH4 (by exact hI.sub' J J)) J J J J J J (fun v _=>Ao (K:=2) (N:=1) Tryz.func50 hI) ?_
    rintro r2 _ _ _ ⟨v6,g7,vH5,rfl,rfl⟩
    refine Au [0,1] hI J J J ?_
    refine Ap<|Z<|Aj ?_
    refine Bn<|O<|Ac 2 [] [(27,(.I (IntKind.wrap .i64 ((j:Int)+1))))] ?_
    refine Z<|D2 [(some (.rows g 2 [[v6,(.bool r2.1)]])),(Ai v6 g7 4 (List.map Ab r2.2)),none] hI J (.keep (.keep (.drop .nil)))<|Bo (Qy (hW (r2.1,r2.2) _ _ ⟨v6,g7,vH5,J,J⟩)) (.cons J (.cons J (.cons J (.cons J (.cons J (.cons (Dw (A7 ha) hlim) .nil))))))
   refine Dx J (fun hc=>?_) (fun hc=>?_)
   ·refine Ay<|Bo (hJ1 (fBad,l2) _ _ ⟨v2,g2,vH1,J,J⟩)
   refine O<|Ac 2 [] [(34,(.str text)),(33,(.q ids 0 g))] ?_
   refine C8 (e:=rS) (L:=[text]) (st:=1) (rows:=[[(.str text)]]) J Dl Cg J J J J J (.cons (RowSim.refl _) .nil) (fun x=>Fy x) J J<|Ak [0,1] hI J J (Bu [text] fBad l2 _ (ix ids 0) (ix ids 1) g v2 g2 vH1 (by exact hI.sub' J J)) J J J J J J (fun v _=>Ao (K:=2) (N:=1) Tryz.func50 hI) ?_
   rintro r _ _ _ ⟨v3,g4,vH2,rfl,rfl⟩
   refine Au [0,1] hI J J J ?_
   refine Ap<|Z<|Aj ?_
   exact Bo (hJ1 (r.1,r.2) _ _ ⟨v3,g4,vH2,J,J⟩)
  rintro⟨fBad,l2⟩ fr h ⟨v2,g2,vH1,rfl,rfl⟩
  refine Al (Ns _ _ _)<|Y<|O<|Aa (.bool (decide ((l.length:Int)<(l.length:Int)))) J (Bc J J J)<|Z<|Y<|Cx J (Int.lt_irrefl _) ?_
  refine C4 J<|B2 (K:=2) (N:=1) (a:=(fBad,l2)) (vs:=[]) [some (.rows g 2 [[v2,(.bool fBad)]]),Ai v2 g2 4 (List.map Ab l2)] Tryz.func50 hI J J J (.keep (.keep (.keep .nil))) (.same _) ⟨v2,g2,vH1,J,J⟩
 ·refine Ax (t:=17) hb1 J<|Ac 5 [] [(22,(.bool true))] ?_
  exact A5 hJ (.cons J (.cons J (.cons J (.cons J (.cons J (.cons (D9 hb1) .nil))))))
 refine Ax (t:=17) hb1 J<|By (tj:=17) (.sl 8 (List.map A4 l)) J J J Ad<|By (tj:=17) (.I (l.length:Int)) J J J (A3 (Be E7))<|Ac 3 [] [(22,(.bool (decide ((l.length:Int) > most))))] ?_
 exact A5 hJ (.cons J (.cons J (.cons J (.cons J (.cons J (.cons (Eb hb1) .nil))))))
theorem Zo (l:List Av)(sep:Av):CP Tryz.prog 61 [.sl 1 (l.map rS),.str sep] (strings_Join l sep) (fun x=>AV.str x):=
 Ac7 (.mk Tryz.func61 rfl (by decide)) (fun p h=>by unfold strings_Join at h; split at h <;> cases h) fun a ha B mu h w cargs hs hl=>by
  obtain⟨c1,c2,rfl,h1,h2⟩:=Aes hl
  obtain rfl:=Zp h2
  unfold strings_Join at ha
  split at ha
  ·rename_i hn
   cases ha
   have key:l=[] ∨ ∃ bk o cap,c1=.slice (some ⟨bk,o,none⟩) l.length cap∧bk<w.heap.size∧l.length≤Ek∧l.length≤cap ∧ ∀ j x,l[j]? = some x→w.cell? ⟨bk,o+j,none⟩=some (.string ⟨x.toArray⟩):=Alh h1
   rcases key with rfl | ⟨bk,o,cap,rfl,hb,hlim,hcap,hc⟩
   ·obtain⟨a,cap,rfl⟩:=Al0 h1
    refine(Go.Proofs.Tryz.strings_Join_none a cap ⟨sep.toArray⟩ w).mono ?_
    rintro e w' ⟨rfl,rfl⟩
    exact⟨Go.RowKit.Below.refl _ _,_,J,.str _⟩
   ·have em:(l.map fun x=>(⟨x.toArray⟩:ByteArray)).map (·.data.toList)=l:=by simp [Function.comp_def]
    have:=Go.Proofs.Tryz.strings_Join bk o cap (l.map fun x=>⟨x.toArray⟩) ⟨sep.toArray⟩ w (fun j x hx=>by
     rw [List.getElem?_map] at hx
     cases hq:l[j]? with
     | none=>rw [hq] at hx; cases hx
     | some y=>rw [hq] at hx; cases hx; exact hc j y hq) hb (by rw [List.length_map]; exact hlim) (by simpa using hcap) (by rw [em]; exact hn)
    rw [em,List.length_map] at this
    refine this.mono ?_
    rintro e w' ⟨rfl,hbel⟩
    exact⟨hbel,_,J,.str _⟩
  ·cases ha
theorem Ad7 (l:List Token):CP Tryz.prog 17 [(.sl 4 (List.map Ab l))] (Y9 l) (fun(p:(Av×Int))=>AV.tup [(.str p.1),(.int .i64 p.2)]):=by
 refine Cq (n:=39) 2 Tryz.func17 J (by decide) J J fun h0 ids hI=>Bk (Al (Y9.eq_1 _) ?_)
 refine Y<|O<|Ac 2 [] [] ?_
 refine Z<|Y<|O<|Aa (.sl 4 (List.map Ab l)) J Ad<|Aa (.I (l.length:Int)) J (A3 (Be Ci))<|Gb fun hl=>Akt (y:=([]:Av)) (e:=rS) (st:=1) (j:=0) hI J J J J Dl Cg J J hl.1 hl.2.1 hl.2.2 J J J J J fun v g vH=>?_
 refine Aa v J An<|Z<|Aj ?_
 refine Y<|Y<|O<|Aa (.sl 4 (List.map Ab l)) J Ad<|Aa (.I (l.length:Int)) J (A3 (Be Ci))<|Aa (.I 0) J Ad<|Z ?_
 refine A9<|D0 [(4,v),(10,(.sl 4 (List.map Ab l))),(11,(.I (l.length:Int))),(12,(.I 0))] (FI J)<|Ed (P:=Tryz.prog) l (fun j a=>fun words=>R2 j a words) ((Ds (fun words=>(strings_Join words [32]).bind fun src=>.ok (src,0)) (fun r=>.ok r)):((List Av) ⊕ (Av×Int))→R (Av×Int)) (fun j=>fun words=>fun(fr:Nat→AV) (h:Ae) => ∃ (v1:AV),∃ (g1:Nat),Az v1 (ix ids 0) g1 words.length∧fr=A2 [(4,v1),(10,(.sl 4 (List.map Ab l))),(11,(.I (l.length:Int))),(12,(.I (j:Int)))]∧h=hp h0 ids [(Ai v1 g1 1 (List.map rS words)),none]) (List.replicate (Int.toNat (l.length:Int)) []) ?_ ?_ ?_
 ·exact⟨v,g,vH,J,J⟩
 ·rintro j a ha W hW words fr h ⟨v1,g1,vH1,rfl,rfl⟩
  refine Al (m':=R2 j a words) J (Al (R2.eq_1 _ _ _) ?_)
  refine Y<|O<|Aa (.bool (decide ((j:Int)<(l.length:Int)))) J (Bc J J J)<|Z<|Y<|Dz (t:=10) (L:=l) J fun hlim=>Cw J (Int.ofNat_lt.2 (A7 ha)) ?_
  refine Ay<|Y<|A9<|Y<|O<|Aa (.I (j:Int)) J Ad<|Aa (.cp (Ab a) 0) J (Bt (Db Ci Cp J ha)) ?_
  refine Aa (.agg (Ab a)) J (As (Cf Cp J))<|Bb (j:=1) hI J J J J Cp J fun g2=>Aa (.I (j:Int)) J An<|Aq (Aw (v:=(.agg (Ab a))) hI J J J J Cp J J J J J)<|Z<|Aj ?_
  refine A9<|Y<|O<|Ac 1 [1] [(23,(.agg (Ab a)))] ?_
  refine Bx [(.agg (Ab a))] J J J J ((X1 a) _) (fun v _=>Cc Tryz.func17 hI) fun r _=>Ac 2 [] [(22,(.bool (!r)))] ?_
  refine Z<|Dx J (fun hc=>?_) (fun hc=>?_)
  ·refine Y<|O<|Ac 4 [1] [(26,(.bool (a.Kind==2)))] ?_
   refine Z<|B3 J (fun hc1=>?_) (fun hc1=>?_)
   ·refine O<|Ac 4 [1] [(33,(.I a.N)),(31,(.I (j:Int))),(30,v1)] ?_
    refine Bx [(.I a.N)] J J J J ((U8 a.N) _) (fun v _=>Cc Tryz.func17 hI) fun r1 _=>Ea fun a1 hz hx1=>Aa (.ptr (ix ids 0) g1 (j:Int).toNat 0) J (Bt (Afh hI J vH1 J Dl Cg J hz hx1))<|Aq (Ahf (y:=r1) hI J J vH1 J hx1 Cg J J J J J J) ?_
    have vH2:=Az.set (i:=(j:Int).toNat) (y:=r1) vH1
    have hx2:=List.getElem?_set_self (a:=r1) (A7 hx1)
    refine Z<|Aj ?_
    refine Bn<|Bn<|O<|Ac 2 [] [(12,(.I (IntKind.wrap .i64 ((j:Int)+1))))] ?_
    refine Z<|D2 [(Ai v1 g1 1 (List.map rS (words.set (j:Int).toNat r1))),none] hI J (.keep (.drop .nil))<|Bo (E0 (hW (words.set (j:Int).toNat r1) _ _ ⟨v1,g1,vH2,J,J⟩)) (.cons J (.cons J (.cons J (.cons (Dw (A7 ha) hlim) .nil))))
   refine O<|Ac 4 [1] [(20,(.str a.Text)),(18,(.I (j:Int))),(17,v1)] ?_
   refine Ea fun a2 hz1 hx3=>Aa (.ptr (ix ids 0) g1 (j:Int).toNat 0) J (Bt (Afh hI J vH1 J Dl Cg J hz1 hx3))<|Aq (Ahf (y:=a.Text) hI J J vH1 J hx3 Cg J J J J J J) ?_
   have vH3:=Az.set (i:=(j:Int).toNat) (y:=a.Text) vH1
   have hx4:=List.getElem?_set_self (a:=a.Text) (A7 hx3)
   refine Z<|Aj ?_
   refine Bn<|Bn<|O<|Ac 2 [] [(12,(.I (IntKind.wrap .i64 ((j:Int)+1))))] ?_
   refine Z<|D2 [(Ai v1 g1 1 (List.map rS (words.set (j:Int).toNat a.Text))),none] hI J (.keep (.drop .nil))<|Bo (E0 (hW (words.set (j:Int).toNat a.Text) _ _ ⟨v1,g1,vH3,J,J⟩)) (.cons J (.cons J (.cons J (.cons (Dw (A7 ha) hlim) .nil))))
  refine Y<|O<|Ac 2 [] [(3,(.I 70)),(2,(.str []))] ?_
  refine Z<|Ey<|Fr<|Bq (a:=([],70)) (vs:=[(.str []),(.I 70)]) Tryz.func17 hI J (.tupL (.cons (.same _) (.cons (.same _) .nil)))
 rintro words fr h ⟨v1,g1,vH1,rfl,rfl⟩
 refine Al (E3 _ _ _)<|Y<|O<|Aa (.bool (decide ((l.length:Int)<(l.length:Int)))) J (Bc J J J)<|Z<|Y<|Cx J (Int.lt_irrefl _) ?_
 refine C4 J<|Y<|O<|Aa v1 J Ad<|Bx [v1,(.str [32])] J J J J (CP.lend (Zo words [32]) (LF.lfz (.cons (Fp vH1 (hI.at J J) J (fun x=>Fy x)) (.cons (.same _) .nil))) (fun _ _=>(.str _))) (fun v _=>Cc Tryz.func17 hI) fun src _=>Ac 2 [] [(3,(.I 0)),(2,(.str src))] ?_
 refine Z<|Bq (a:=(src,0)) (vs:=[(.str src),(.I 0)]) Tryz.func17 hI J (.tupL (.cons (.same _) (.cons (.same _) .nil)))
theorem Q0 (a:Airspace):CP Tryz.prog 14 [(.agg (A0 a))] (O3 a) (fun(p:(Av×Int))=>AV.tup [(.str p.1),(.int .i64 p.2)]):=by
 refine Cq (n:=59) 4 Tryz.func14 J (by decide) J J fun h0 ids hI=>Bk (Al (O3.eq_1 _) ?_)
 refine Y<|O<|Ck (v:=(.agg (A0 a))) (j:=0) hI J J J J J J J fun g=>Ac 2 [] [] ?_
 refine Z<|Aj ?_
 refine Y<|O<|Aa (.agg [.emp,(.bool false)]) J (Kw (Pd Vd Ana J))<|Ck (v:=(.agg [.emp,(.bool false)])) (j:=1) hI J J J J J J J fun g1=>Bb (j:=2) hI J J J J Aa1 J fun g2=>Aq (Aw (v:=(.q ids 1 g1)) hI J J J J Aa1 J J J J J)<|Z ?_
 refine Aj ?_
 refine Y<|O<|Ac 4 [2,0] [(10,(.func (.func 29) [] [(.q ids 2 g2)])),(9,(.sl 2 (List.map Ar a.Volumes))),(7,(.q ids 1 g1))] ?_
 refine Ak [1,2,3] hI J J (Sg [118,111,108,117,109,101] a.Volumes 64 false _ (ix ids 1) (ix ids 2) (ix ids 3) g1 g2 (by exact hI.sub' J J)) J J J J J J (fun v _=>Cc Tryz.func14 hI) ?_
 rintro r _ _ _ ⟨v,g3,vH,rfl,rfl⟩
 refine Au [1,2,3] hI J J J ?_
 refine Ap<|Z<|Aj ?_
 refine Y<|O<|Ac 4 [2,0] [(15,(.func (.func 33) [] [(.q ids 2 g2)])),(14,(.sl 5 (List.map A8 a.Sectors))),(12,(.q ids 1 g1))] ?_
 refine Ak [1,3,2] hI J J (Sf [115,101,99,116,111,114] a.Sectors 64 r.1 r.2 _ (ix ids 1) (ix ids 3) (ix ids 2) g1 v g3 g2 vH (by exact hI.sub' J J)) J J J J J J (fun v _=>Cc Tryz.func14 hI) ?_
 rintro r1 _ _ _ ⟨v1,g4,vH1,rfl,rfl⟩
 refine Au [1,3,2] hI J J J ?_
 refine Ap<|Z<|Aj ?_
 refine Y<|O<|Ac 4 [2,0] [(20,(.func (.func 39) [] [(.q ids 2 g2)])),(19,(.sl 3 (List.map Bl a.Configs))),(17,(.q ids 1 g1))] ?_
 refine Ak [1,3,2] hI J J (Sb [99,111,110,102,105,103] a.Configs 32 r1.1 r1.2 _ (ix ids 1) (ix ids 3) (ix ids 2) g1 v1 g4 g2 vH1 (by exact hI.sub' J J)) J J J J J J (fun v _=>Cc Tryz.func14 hI) ?_
 rintro r2 _ _ _ ⟨v2,g5,vH2,rfl,rfl⟩
 refine Au [1,3,2] hI J J J ?_
 refine Ap<|Z<|Aj ?_
 refine Y<|O<|Ac 4 [2,0] [(25,(.func (.func 41) [] [(.q ids 2 g2)])),(24,(.sl 5 (List.map Bf a.Segments))),(22,(.q ids 1 g1))] ?_
 refine Ak [1,3,2] hI J J (Ry [115,101,103,109,101,110,116] a.Segments 128 r2.1 r2.2 _ (ix ids 1) (ix ids 3) (ix ids 2) g1 v2 g5 g2 vH2 (by exact hI.sub' J J)) J J J J J J (fun v _=>Cc Tryz.func14 hI) ?_
 rintro r3 _ _ _ ⟨v3,g6,vH3,rfl,rfl⟩
 refine Au [1,3,2] hI J J J ?_
 refine Ap<|Z<|Aj ?_
 refine Y<|O<|Ac 4 [2,0] [(30,(.func (.func 43) [] [(.q ids 2 g2)])),(29,(.sl 7 (List.map Bs a.Routes))),(27,(.q ids 1 g1))] ?_
 refine Ak [1,3,2] hI J J (Sy [114,111,117,116,101] a.Routes 64 r3.1 r3.2 _ (ix ids 1) (ix ids 3) (ix ids 2) g1 v3 g6 g2 vH3 (by exact hI.sub' J J)) J J J J J J (fun v _=>Cc Tryz.func14 hI) ?_
 rintro r4 _ _ _ ⟨v4,g7,vH4,rfl,rfl⟩
 refine Au [1,3,2] hI J J J ?_
 refine Ap<|Z<|Aj ?_
 refine Y<|O<|Ac 4 [2,0] [(35,(.func (.func 45) [] [(.q ids 2 g2)])),(34,(.sl 2 (List.map Bd a.Airports))),(32,(.q ids 1 g1))] ?_
 refine Ak [1,3,2] hI J J (Ri [97,105,114,112,111,114,116] a.Airports 16 r4.1 r4.2 _ (ix ids 1) (ix ids 3) (ix ids 2) g1 v4 g7 g2 vH4 (by exact hI.sub' J J)) J J J J J J (fun v _=>Cc Tryz.func14 hI) ?_
 rintro r5 _ _ _ ⟨v5,g8,vH5,rfl,rfl⟩
 refine Au [1,3,2] hI J J J ?_
 refine Ap<|Z<|Aj ?_
 refine Y<|O<|Ac 4 [2,0] [(40,(.func (.func 49) [] [(.q ids 2 g2)])),(39,(.sl 4 (List.map B6 a.Classes))),(37,(.q ids 1 g1))] ?_
 refine Ak [1,3,2] hI J J (Ta [99,108,97,115,115] a.Classes 8 r5.1 r5.2 _ (ix ids 1) (ix ids 3) (ix ids 2) g1 v5 g8 g2 vH5 (by exact hI.sub' J J)) J J J J J J (fun v _=>Cc Tryz.func14 hI) ?_
 rintro r6 _ _ _ ⟨v6,g9,vH6,rfl,rfl⟩
 refine Au [1,3,2] hI J J J ?_
 refine Ap<|Z<|Aj ?_
 refine Y<|O<|Ac 5 [2,0,2] [(46,(.func (.func 51) [(.q ids 1 g1)] [])),(44,(.sl 8 (List.map A4 a.Rules))),(42,(.q ids 1 g1))] ?_
 refine Ak [1,3] hI J J (So [] a.Rules 64 r6.1 r6.2 _ (ix ids 1) (ix ids 3) g1 v6 g9 vH6 (by exact hI.sub' J J)) J J J J J J (fun v _=>Cc Tryz.func14 hI) ?_
 rintro r7 _ _ _ ⟨v7,g10,vH7,rfl,rfl⟩
 refine Au [1,3] hI J J J ?_
 refine Ap<|Z<|Aj ?_
 refine Y<|Y<|O<|Ac 4 [2,1] [(51,(.bool r7.1))] ?_
 refine Z<|B3 J (fun hc=>?_) (fun hc=>?_)
 ·refine Y<|O<|Ac 2 [] [(3,(.I 80)),(2,(.str []))] ?_
  refine Z<|Bq (a:=([],80)) (vs:=[(.str []),(.I 80)]) Tryz.func14 hI J (.tupL (.cons (.same _) (.cons (.same _) .nil)))
 refine Ay<|Y<|O<|Ac 4 [2,1] [(55,v7)] ?_
 refine Bx [v7] J J J J (CP.lend (Ad7 r7.2) (LF.lfz (.cons (Fp vH7 (hI.at J J) J (fun x=>N7 x)) .nil)) (fun _ _=>(.tup2 (.str _) (.int _ _)))) (fun v _=>Cc Tryz.func14 hI) fun r8 _=>Ac 4 [] [(3,(.I r8.2)),(2,(.str r8.1))] ?_
 refine Z<|Bq (a:=(r8.1,r8.2)) (vs:=[(.str r8.1),(.I r8.2)]) Tryz.func14 hI J (.tupL (.cons (.same _) (.cons (.same _) .nil)))
theorem R9 (a:List Span)(b:List Span):CP Tryz.prog 24 [(.sl 2 (List.map B4 a)),(.sl 2 (List.map B4 b))] (Oo a b) (fun(x:Bool)=>(AV.bool x)):=by
 refine Cq (n:=26) 0 Tryz.func24 J (by decide) J J fun h0 ids hI=>Bk (Al (Oo.eq_1 _ _) ?_)
 refine Y<|O<|Aa (.bool false) J An<|Z<|Y<|Y<|O ?_
 refine Aa (.sl 2 (List.map B4 a)) J Ad<|Aa (.I (a.length:Int)) J (A3 (Be La))<|Aa (.sl 2 (List.map B4 b)) J Ad<|Aa (.I (b.length:Int)) J (A3 (Be La))<|Aa (.bool ((a.length:Int) != (b.length:Int))) J (Bc J J J)<|Z<|B3 J (fun hc=>?_) (fun hc=>?_)
 ·refine Y<|O<|Aa (.bool false) J An<|Z<|Bq (a:=false) (vs:=[(.bool false)]) Tryz.func24 hI J (.same _)
 refine Ay<|Y<|Y<|O<|Aa (.I 0) J An<|Z<|A9 ?_
 refine D0 [(0,(.sl 2 (List.map B4 a))),(1,(.sl 2 (List.map B4 b))),(5,(.I 0))] (FI J)<|Ed (P:=Tryz.prog) a (fun j a1=>fun _=>M5 b j a1) ((Ds (fun _=>.ok true) (fun r=>.ok r)):(Unit ⊕ Bool)→R Bool) (fun j=>fun _=>fun(fr:Nat→AV) (h:Ae)=>fr=A2 [(0,(.sl 2 (List.map B4 a))),(1,(.sl 2 (List.map B4 b))),(5,(.I (j:Int)))]∧h=hp h0 ids []) () ?_ ?_ ?_
 ·exact⟨J,J⟩
 ·rintro j a1 ha1 W hW _ fr h ⟨rfl,rfl⟩
  refine Al (m':=M5 b j a1) J (Al (M5.eq_1 _ _ _) ?_)
  refine Y<|Y<|O<|Ac 2 [] [(12,(.sl 2 (List.map B4 a))),(11,(.I (j:Int)))] ?_
  refine Aa (.I (a.length:Int)) J (A3 (Be La))<|Aa (.bool (decide ((j:Int)<(a.length:Int)))) J (Bc J J J)<|Z<|Dz (t:=0) (L:=a) J fun hlim=>Cw J (Int.ofNat_lt.2 (A7 ha1))<|Ay<|Y ?_
  refine A9<|Y<|C2 Fa [[],[],[0,1],[0,1,2],[],[],[4,5],[4,5,6],[0,1,2,3,4,5,6,7]] [(false,0),(false,1),(false,2),(false,3),(false,4),(false,5),(false,6),(false,7),(false,8)] (by kernel_rfl)<|Ag (.sl 2 (List.map B4 a)) J J Ad<|Ag (.I (j:Int)) J J Ad<|Ag (.cp (B4 a1) 0) J J (Bt (Db La Kd J ha1))<|Ag (.agg (B4 a1)) J J (As (Cf Kd J)) ?_
  refine Ag (.sl 2 (List.map B4 b)) J J Ad<|Ag (.I (j:Int)) J J Ad<|Nr fun a2 hz hx1=>Ag (.cp (B4 a2) 0) J J (Bt (De La Kd J hz hx1))<|Ag (.agg (B4 a2)) J J (As (Cf Kd J))<|Ag (.bool (!((a1.From==a2.From)&&(a1.To==a2.To)))) J J (Bc (Ag3 J J) J Ahu)<|Cl ?_
  refine Dx J (fun hc1=>?_) (fun hc1=>?_)
  ·refine Ay<|Bn<|O<|Ac 3 [] [(5,(.I (IntKind.wrap .i64 ((j:Int)+1))))] ?_
   refine Z<|Bo (E0 (hW () _ _ ⟨J,J⟩)) (.cons J (.cons J (.cons (Dw (A7 ha1) hlim) .nil)))
  refine Y<|O<|Aa (.bool false) J An<|Z<|Ey<|Fr<|Bq (a:=false) (vs:=[(.bool false)]) Tryz.func24 hI J (.same _)
 rintro _ fr h ⟨rfl,rfl⟩
 refine Al (E3 _ _ _)<|Y<|Y<|O<|Ac 2 [] [(12,(.sl 2 (List.map B4 a))),(11,(.I (a.length:Int)))] ?_
 refine Aa (.I (a.length:Int)) J (A3 (Be La))<|Aa (.bool (decide ((a.length:Int)<(a.length:Int)))) J (Bc J J J)<|Z<|Cx J (Int.lt_irrefl _)<|C4 J<|Y<|O ?_
 refine Aa (.bool true) J An<|Z<|Bq (a:=true) (vs:=[(.bool true)]) Tryz.func24 hI J (.same _)
theorem O7 (a:List Av)(b:List Av):CP Tryz.prog 25 [(.sl 1 (List.map rS a)),(.sl 1 (List.map rS b))] (Ms a b) (fun(x:Bool)=>(AV.bool x)):=by
 refine Cq (n:=26) 0 Tryz.func25 J (by decide) J J fun h0 ids hI=>Bk (Al (Ms.eq_1 _ _) ?_)
 refine Y<|O<|Aa (.bool false) J An<|Z<|Y<|Y<|O ?_
 refine Aa (.sl 1 (List.map rS a)) J Ad<|Aa (.I (a.length:Int)) J (A3 (Be Dl))<|Aa (.sl 1 (List.map rS b)) J Ad<|Aa (.I (b.length:Int)) J (A3 (Be Dl))<|Aa (.bool ((a.length:Int) != (b.length:Int))) J (Bc J J J)<|Z<|B3 J (fun hc=>?_) (fun hc=>?_)
 ·refine Y<|O<|Aa (.bool false) J An<|Z<|Bq (a:=false) (vs:=[(.bool false)]) Tryz.func25 hI J (.same _)
 refine Ay<|Y<|Y<|O<|Aa (.I 0) J An<|Z<|A9 ?_
 refine D0 [(0,(.sl 1 (List.map rS a))),(1,(.sl 1 (List.map rS b))),(5,(.I 0))] (FI J)<|Ed (P:=Tryz.prog) a (fun j a1=>fun _=>Mw b j a1) ((Ds (fun _=>.ok true) (fun r=>.ok r)):(Unit ⊕ Bool)→R Bool) (fun j=>fun _=>fun(fr:Nat→AV) (h:Ae)=>fr=A2 [(0,(.sl 1 (List.map rS a))),(1,(.sl 1 (List.map rS b))),(5,(.I (j:Int)))]∧h=hp h0 ids []) () ?_ ?_ ?_
 ·exact⟨J,J⟩
 ·rintro j a1 ha1 W hW _ fr h ⟨rfl,rfl⟩
  refine Al (m':=Mw b j a1) J (Al (Mw.eq_1 _ _ _) ?_)
  refine Y<|Y<|O<|Ac 2 [] [(12,(.sl 1 (List.map rS a))),(11,(.I (j:Int)))] ?_
  refine Aa (.I (a.length:Int)) J (A3 (Be Dl))<|Aa (.bool (decide ((j:Int)<(a.length:Int)))) J (Bc J J J)<|Z<|Dz (t:=0) (L:=a) J fun hlim=>Cw J (Int.ofNat_lt.2 (A7 ha1))<|Ay<|Y ?_
  refine A9<|Y<|C2 Fa [[],[],[0,1],[0,1,2],[],[],[4,5],[4,5,6],[0,1,2,3,4,5,6,7]] [(false,0),(false,1),(false,2),(false,3),(false,4),(false,5),(false,6),(false,7),(false,8)] (by kernel_rfl)<|Ag (.sl 1 (List.map rS a)) J J Ad<|Ag (.I (j:Int)) J J Ad<|Ag (.cp [(.str a1)] 0) J J (Bt (Db Dl Cg J ha1))<|Ag (.str a1) J J (As (Cf Cg J)) ?_
  refine Ag (.sl 1 (List.map rS b)) J J Ad<|Ag (.I (j:Int)) J J Ad<|Nr fun a2 hz hx1=>Ag (.cp [(.str a2)] 0) J J (Bt (De Dl Cg J hz hx1))<|Ag (.str a2) J J (As (Cf Cg J))<|Ag (.bool (!(a1==a2))) J J (Bc J J J)<|Cl ?_
  refine Dx J (fun hc1=>?_) (fun hc1=>?_)
  ·refine Ay<|Bn<|O<|Ac 3 [] [(5,(.I (IntKind.wrap .i64 ((j:Int)+1))))] ?_
   refine Z<|Bo (E0 (hW () _ _ ⟨J,J⟩)) (.cons J (.cons J (.cons (Dw (A7 ha1) hlim) .nil)))
  refine Y<|O<|Aa (.bool false) J An<|Z<|Ey<|Fr<|Bq (a:=false) (vs:=[(.bool false)]) Tryz.func25 hI J (.same _)
 rintro _ fr h ⟨rfl,rfl⟩
 refine Al (E3 _ _ _)<|Y<|Y<|O<|Ac 2 [] [(12,(.sl 1 (List.map rS a))),(11,(.I (a.length:Int)))] ?_
 refine Aa (.I (a.length:Int)) J (A3 (Be Dl))<|Aa (.bool (decide ((a.length:Int)<(a.length:Int)))) J (Bc J J J)<|Z<|Cx J (Int.lt_irrefl _)<|C4 J<|Y<|O ?_
 refine Aa (.bool true) J An<|Z<|Bq (a:=true) (vs:=[(.bool true)]) Tryz.func25 hI J (.same _)
theorem Po (a:List Int)(b:List Int):CP Tryz.prog 26 [(.sl 1 (List.map (rI .i64) a)),(.sl 1 (List.map (rI .i64) b))] (Jh a b) (fun(x:Bool)=>(AV.bool x)):=by
 refine Cq (n:=26) 0 Tryz.func26 J (by decide) J J fun h0 ids hI=>Bk (Al (Jh.eq_1 _ _) ?_)
 refine Y<|O<|Aa (.bool false) J An<|Z<|Y<|Y<|O ?_
 refine Aa (.sl 1 (List.map (rI .i64) a)) J Ad<|Aa (.I (a.length:Int)) J (A3 (Be O4))<|Aa (.sl 1 (List.map (rI .i64) b)) J Ad<|Aa (.I (b.length:Int)) J (A3 (Be O4))<|Aa (.bool ((a.length:Int) != (b.length:Int))) J (Bc J J J)<|Z<|B3 J (fun hc=>?_) (fun hc=>?_)
 ·refine Y<|O<|Aa (.bool false) J An<|Z<|Bq (a:=false) (vs:=[(.bool false)]) Tryz.func26 hI J (.same _)
 refine Ay<|Y<|Y<|O<|Aa (.I 0) J An<|Z<|A9 ?_
 refine D0 [(0,(.sl 1 (List.map (rI .i64) a))),(1,(.sl 1 (List.map (rI .i64) b))),(5,(.I 0))] (FI J)<|Ed (P:=Tryz.prog) a (fun j a1=>fun _=>Nn b j a1) ((Ds (fun _=>.ok true) (fun r=>.ok r)):(Unit ⊕ Bool)→R Bool) (fun j=>fun _=>fun(fr:Nat→AV) (h:Ae)=>fr=A2 [(0,(.sl 1 (List.map (rI .i64) a))),(1,(.sl 1 (List.map (rI .i64) b))),(5,(.I (j:Int)))]∧h=hp h0 ids []) () ?_ ?_ ?_
 ·exact⟨J,J⟩
 ·rintro j a1 ha1 W hW _ fr h ⟨rfl,rfl⟩
  refine Al (m':=Nn b j a1) J (Al (Nn.eq_1 _ _ _) ?_)
  refine Y<|Y<|O<|Ac 2 [] [(12,(.sl 1 (List.map (rI .i64) a))),(11,(.I (j:Int)))] ?_
  refine Aa (.I (a.length:Int)) J (A3 (Be O4))<|Aa (.bool (decide ((j:Int)<(a.length:Int)))) J (Bc J J J)<|Z<|Dz (t:=0) (L:=a) J fun hlim=>Cw J (Int.ofNat_lt.2 (A7 ha1))<|Ay<|Y ?_
  refine A9<|Y<|C2 Fa [[],[],[0,1],[0,1,2],[],[],[4,5],[4,5,6],[0,1,2,3,4,5,6,7]] [(false,0),(false,1),(false,2),(false,3),(false,4),(false,5),(false,6),(false,7),(false,8)] (by kernel_rfl)<|Ag (.sl 1 (List.map (rI .i64) a)) J J Ad<|Ag (.I (j:Int)) J J Ad<|Ag (.cp [(.I a1)] 0) J J (Bt (Db O4 Dq J ha1))<|Ag (.I a1) J J (As (Cf Dq J)) ?_
  refine Ag (.sl 1 (List.map (rI .i64) b)) J J Ad<|Ag (.I (j:Int)) J J Ad<|Nr fun a2 hz hx1=>Ag (.cp [(.I a2)] 0) J J (Bt (De O4 Dq J hz hx1))<|Ag (.I a2) J J (As (Cf Dq J))<|Ag (.bool (a1 != a2)) J J (Bc J J J)<|Cl ?_
  refine B3 J (fun hc1=>?_) (fun hc1=>?_)
  ·refine Y<|O<|Aa (.bool false) J An<|Z<|Ey<|Fr<|Bq (a:=false) (vs:=[(.bool false)]) Tryz.func26 hI J (.same _)
  refine Ay<|Bn<|O<|Ac 3 [] [(5,(.I (IntKind.wrap .i64 ((j:Int)+1))))] ?_
  refine Z<|Bo (E0 (hW () _ _ ⟨J,J⟩)) (.cons J (.cons J (.cons (Dw (A7 ha1) hlim) .nil)))
 rintro _ fr h ⟨rfl,rfl⟩
 refine Al (E3 _ _ _)<|Y<|Y<|O<|Ac 2 [] [(12,(.sl 1 (List.map (rI .i64) a))),(11,(.I (a.length:Int)))] ?_
 refine Aa (.I (a.length:Int)) J (A3 (Be O4))<|Aa (.bool (decide ((a.length:Int)<(a.length:Int)))) J (Bc J J J)<|Z<|Cx J (Int.lt_irrefl _)<|C4 J<|Y<|O ?_
 refine Aa (.bool true) J An<|Z<|Bq (a:=true) (vs:=[(.bool true)]) Tryz.func26 hI J (.same _)
theorem Xb (a:Airspace)(b:Airspace):CP Tryz.prog 12 [(.agg (A0 a)),(.agg (A0 b))] (Tu a b) (fun(x:Bool)=>(AV.bool x)):=by
 refine Cq (n:=422) 12 Tryz.func12 J (by decide) J J fun h0 ids hI=>Bk (Al (Tu.eq_1 _ _) ?_)
 refine Y<|O<|Ck (v:=(.agg (A0 a))) (j:=0) hI J J J J J J J fun g=>Ck (v:=(.agg (A0 b))) (j:=1) hI J J J J J J J fun g1=>Aa (.bool false) J An<|Z<|Aj ?_
 refine Y<|Y<|O<|Ac 2 [0] [(25,(.sl 2 (List.map Ar a.Volumes)))] ?_
 refine Aa (.I (a.Volumes.length:Int)) J (A3 (Be Ib))<|Ac 2 [1] [(28,(.sl 2 (List.map Ar b.Volumes)))] ?_
 refine Aa (.I (b.Volumes.length:Int)) J (A3 (Be Ib))<|Ac 2 [] [(31,(.bool ((a.Volumes.length:Int) != (b.Volumes.length:Int))))] ?_
 refine Br 8 [(2,(.q ids 0 g)),(3,(.q ids 1 g1)),(39,(.bool (((a.Volumes.length:Int) != (b.Volumes.length:Int))||((a.Sectors.length:Int) != (b.Sectors.length:Int)))))] ?_ fun hJ=>Bm ((a.Volumes.length:Int) != (b.Volumes.length:Int)) (fun hb1=>?_) (fun hb1=>?_)
 ·refine Aa (.bool (((a.Volumes.length:Int) != (b.Volumes.length:Int))||((a.Sectors.length:Int) != (b.Sectors.length:Int)))) J Ad<|Br 8 [(2,(.q ids 0 g)),(3,(.q ids 1 g1)),(48,(.bool ((((a.Volumes.length:Int) != (b.Volumes.length:Int))||((a.Sectors.length:Int) != (b.Sectors.length:Int)))||((a.Configs.length:Int) != (b.Configs.length:Int)))))] ?_ fun hJ1=>Bm (((a.Volumes.length:Int) != (b.Volumes.length:Int))||((a.Sectors.length:Int) != (b.Sectors.length:Int))) (fun hb3=>?_) (fun hb3=>?_)
  ·refine Aa (.bool ((((a.Volumes.length:Int) != (b.Volumes.length:Int))||((a.Sectors.length:Int) != (b.Sectors.length:Int)))||((a.Configs.length:Int) != (b.Configs.length:Int)))) J Ad<|Br 8 [(2,(.q ids 0 g)),(3,(.q ids 1 g1)),(57,(.bool (((((a.Volumes.length:Int) != (b.Volumes.length:Int))||((a.Sectors.length:Int) != (b.Sectors.length:Int)))||((a.Configs.length:Int) != (b.Configs.length:Int)))||((a.Segments.length:Int) != (b.Segments.length:Int)))))] ?_ fun hJ2=>Bm ((((a.Volumes.length:Int) != (b.Volumes.length:Int))||((a.Sectors.length:Int) != (b.Sectors.length:Int)))||((a.Configs.length:Int) != (b.Configs.length:Int))) (fun hb5=>?_) (fun hb5=>?_)
   ·refine Aa (.bool (((((a.Volumes.length:Int) != (b.Volumes.length:Int))||((a.Sectors.length:Int) != (b.Sectors.length:Int)))||((a.Configs.length:Int) != (b.Configs.length:Int)))||((a.Segments.length:Int) != (b.Segments.length:Int)))) J Ad<|Br 8 [(2,(.q ids 0 g)),(3,(.q ids 1 g1)),(66,(.bool ((((((a.Volumes.length:Int) != (b.Volumes.length:Int))||((a.Sectors.length:Int) != (b.Sectors.length:Int)))||((a.Configs.length:Int) != (b.Configs.length:Int)))||((a.Segments.length:Int) != (b.Segments.length:Int)))||((a.Routes.length:Int) != (b.Routes.length:Int)))))] ?_ fun hJ3=>Bm (((((a.Volumes.length:Int) != (b.Volumes.length:Int))||((a.Sectors.length:Int) != (b.Sectors.length:Int)))||((a.Configs.length:Int) != (b.Configs.length:Int)))||((a.Segments.length:Int) != (b.Segments.length:Int))) (fun hb7=>?_) (fun hb7=>?_)
    ·refine Aa (.bool ((((((a.Volumes.length:Int) != (b.Volumes.length:Int))||((a.Sectors.length:Int) != (b.Sectors.length:Int)))||((a.Configs.length:Int) != (b.Configs.length:Int)))||((a.Segments.length:Int) != (b.Segments.length:Int)))||((a.Routes.length:Int) != (b.Routes.length:Int)))) J Ad<|Br 8 [(2,(.q ids 0 g)),(3,(.q ids 1 g1)),(75,(.bool (((((((a.Volumes.length:Int) != (b.Volumes.length:Int))||((a.Sectors.length:Int) != (b.Sectors.length:Int)))||((a.Configs.length:Int) != (b.Configs.length:Int)))||((a.Segments.length:Int) != (b.Segments.length:Int)))||((a.Routes.length:Int) != (b.Routes.length:Int)))||((a.Airports.length:Int) != (b.Airports.length:Int)))))] ?_ fun hJ4=>Bm ((((((a.Volumes.length:Int) != (b.Volumes.length:Int))||((a.Sectors.length:Int) != (b.Sectors.length:Int)))||((a.Configs.length:Int) != (b.Configs.length:Int)))||((a.Segments.length:Int) != (b.Segments.length:Int)))||((a.Routes.length:Int) != (b.Routes.length:Int))) (fun hb9=>?_) (fun hb9=>?_)
     ·refine Aa (.bool (((((((a.Volumes.length:Int) != (b.Volumes.length:Int))||((a.Sectors.length:Int) != (b.Sectors.length:Int)))||((a.Configs.length:Int) != (b.Configs.length:Int)))||((a.Segments.length:Int) != (b.Segments.length:Int)))||((a.Routes.length:Int) != (b.Routes.length:Int)))||((a.Airports.length:Int) != (b.Airports.length:Int)))) J Ad<|Br 8 [(2,(.q ids 0 g)),(3,(.q ids 1 g1)),(84,(.bool ((((((((a.Volumes.length:Int) != (b.Volumes.length:Int))||((a.Sectors.length:Int) != (b.Sectors.length:Int)))||((a.Configs.length:Int) != (b.Configs.length:Int)))||((a.Segments.length:Int) != (b.Segments.length:Int)))||((a.Routes.length:Int) != (b.Routes.length:Int)))||((a.Airports.length:Int) != (b.Airports.length:Int)))||((a.Classes.length:Int) != (b.Classes.length:Int)))))] ?_ fun hJ5=>Bm (((((((a.Volumes.length:Int) != (b.Volumes.length:Int))||((a.Sectors.length:Int) != (b.Sectors.length:Int)))||((a.Configs.length:Int) != (b.Configs.length:Int)))||((a.Segments.length:Int) != (b.Segments.length:Int)))||((a.Routes.length:Int) != (b.Routes.length:Int)))||((a.Airports.length:Int) != (b.Airports.length:Int))) (fun hb11=>?_) (fun hb11=>?_)
      ·refine Aa (.bool ((((((((a.Volumes.length:Int) != (b.Volumes.length:Int))||((a.Sectors.length:Int) != (b.Sectors.length:Int)))||((a.Configs.length:Int) != (b.Configs.length:Int)))||((a.Segments.length:Int) != (b.Segments.length:Int)))||((a.Routes.length:Int) != (b.Routes.length:Int)))||((a.Airports.length:Int) != (b.Airports.length:Int)))||((a.Classes.length:Int) != (b.Classes.length:Int)))) J Ad<|Br 8 [(2,(.q ids 0 g)),(3,(.q ids 1 g1)),(93,(.bool (((((((((a.Volumes.length:Int) != (b.Volumes.length:Int))||((a.Sectors.length:Int) != (b.Sectors.length:Int)))||((a.Configs.length:Int) != (b.Configs.length:Int)))||((a.Segments.length:Int) != (b.Segments.length:Int)))||((a.Routes.length:Int) != (b.Routes.length:Int)))||((a.Airports.length:Int) != (b.Airports.length:Int)))||((a.Classes.length:Int) != (b.Classes.length:Int)))||((a.Rules.length:Int) != (b.Rules.length:Int)))))] ?_ fun hJ6=>Bm ((((((((a.Volumes.length:Int) != (b.Volumes.length:Int))||((a.Sectors.length:Int) != (b.Sectors.length:Int)))||((a.Configs.length:Int) != (b.Configs.length:Int)))||((a.Segments.length:Int) != (b.Segments.length:Int)))||((a.Routes.length:Int) != (b.Routes.length:Int)))||((a.Airports.length:Int) != (b.Airports.length:Int)))||((a.Classes.length:Int) != (b.Classes.length:Int))) (fun hb13=>?_) (fun hb13=>?_)
       ·refine Z<|B3 J (fun hc=>?_) (fun hc=>?_)
        ·refine Y<|O<|Aa (.bool false) J An<|Z<|Bq (a:=false) (vs:=[(.bool false)]) Tryz.func12 hI J (.same _)
        refine Ay<|Y<|Y<|O<|Aa (.I 0) J An<|Z<|A9 ?_
        refine D0 [(2,(.q ids 0 g)),(3,(.q ids 1 g1)),(5,(.I 0))] (FI J)<|Ed (P:=Tryz.prog) a.Volumes (fun j a1=>fun _=>Py b j a1) ((Ds (fun _=>(each (fun j1 a3=>fun _=>Oe b j1 a3) 0 a.Sectors ()).bind (Ds (fun _=>(each (fun j2 a5=>fun _=>Mp b j2 a5) 0 a.Configs ()).bind (Ds (fun _=>(each (fun j3 a7=>fun _=>Ls b j3 a7) 0 a.Segments ()).bind (Ds (fun _=>(each (fun j4 a9=>fun _=>Kb b j4 a9) 0 a.Routes ()).bind (Ds (fun _=>(each (fun j5 a11=>fun _=>I4 b j5 a11) 0 a.Airports ()).bind (Ds (fun _=>(each (fun j7 a15=>fun _=>Hf b j7 a15) 0 a.Classes ()).bind (Ds (fun _=>(each (fun j8 a17=>fun _=>Gk b j8 a17) 0 a.Rules ()).bind (Ds (fun _=>.ok true) (fun r=>.ok r))) (fun r=>.ok r))) (fun r=>.ok r))) (fun r=>.ok r))) (fun r=>.ok r))) (fun r=>.ok r))) (fun r=>.ok r))) (fun r=>.ok r)):(Unit ⊕ Bool)→R Bool) (fun j=>fun _=>fun(fr:Nat→AV) (h:Ae)=>fr=A2 [(2,(.q ids 0 g)),(3,(.q ids 1 g1)),(5,(.I (j:Int)))]∧h=hp h0 ids [(some (.rows g 8 [(A0 a)])),(some (.rows g1 8 [(A0 b)])),none,none,none,none,none,none,none,none,none,none]) () ?_ ?_ ?_
        ·exact⟨J,J⟩
        ·rintro j a1 ha1 W hW _ fr h ⟨rfl,rfl⟩
         refine Al (m':=Py b j a1) J (Al (Py.eq_1 _ _ _) ?_)
         refine Y<|Y<|O<|Ac 3 [0] [(96,(.sl 2 (List.map Ar a.Volumes))),(94,(.I (j:Int)))] ?_
         refine Aa (.I (a.Volumes.length:Int)) J (A3 (Be Ib))<|Aa (.bool (decide ((j:Int)<(a.Volumes.length:Int)))) J (Bc J J J)<|Z<|Dz (t:=96) (L:=a.Volumes) J fun hlim1=>Cw J (Int.ofNat_lt.2 (A7 ha1))<|Ay<|Y ?_
         refine A9<|Y<|Dv (fun x1=>Pz x1) (fun x1=>fun(fr:Nat→AV) (h:Ae)=>fr=A2 [(2,(.q ids 0 g)),(3,(.q ids 1 g1)),(5,(.I (j:Int))),(129,(.bool x1))]∧h=hp h0 ids [(some (.rows g 8 [(A0 a)])),(some (.rows g1 8 [(A0 b)])),none,none,none,none,none,none,none,none,none,none]) ?_ fun hJ7=>?_
         ·rintro x1 fr h ⟨rfl,rfl⟩
          refine Al (Pz.eq_1 _)<|B3 J (fun hc1=>?_) (fun hc1=>?_)
          ·refine Y<|O<|Aa (.bool false) J An<|Z<|Ey<|Fr<|Bq (a:=false) (vs:=[(.bool false)]) Tryz.func12 hI J (.same _)
          refine Ay<|Bn<|O<|Ac 3 [] [(5,(.I (IntKind.wrap .i64 ((j:Int)+1))))] ?_
          refine Z<|Bo (E0 (hW () _ _ ⟨J,J⟩)) (.cons J (.cons J (.cons (Dw (A7 ha1) hlim1) .nil)))
         refine C2 Fa [[],[0],[],[0,1,2],[0,1,2,3],[0,1,2,3,4],[],[6],[],[6,7,8],[6,7,8,9],[6,7,8,9,10],[0,1,2,3,4,5,6,7,8,9,10,11],[0,1,2,3,4,5,6,7,8,9,10,11,12],[0,1,2,3,4,5,6,7,8,9,10,11,12,13],[0,1,2,3,4,5,6,7,8,9,10,11,12,13,14],[0,1,2,3,4,5,6,7,8,9,10,11,12,13],[0,1,2,3,4,5,6,7,8,9,10,11,12,13,14,15,16],[0,1,2,3,4,5,6,7,8,9,10,11,12,13,14,15,16,17],[0,1,2,3,4,5,6,7,8,9,10,11,12,13,14,15,16,17,18],[0,1,2,3,4,5,6,7,8,9,10,11,12,13],[0,1,2,3,4,5,6,7,8,9,10,11,12,13,20],[0,1,2,3,4,5,6,7,8,9,10,11,12,13],[0,1,2,3,4,5,6,7,8,9,10,11,12,13,20,21,22],[0,1,2,3,4,5,6,7,8,9,10,11,12,13,20,21,22,23],[0,1,2,3,4,5,6,7,8,9,10,11,12,13,20,21,22,23,24],[0,1,2,3,4,5,6,7,8,9,10,11,12,13,14,15,16,17,18,19,20,21,22,23,24,25],[0,1,2,3,4,5,6,7,8,9,10,11,12,13,14,15,16,17,18,19,20,21,22,23,24,25,26],[0,1,2,3,4,5,6,7,8,9,10,11,12,13,14,15,16,17,18,19,20,21,22,23,24,25,26,27]] [(false,0),(false,1),(false,2),(false,3),(false,4),(false,5),(false,6),(false,7),(false,8),(false,9),(false,10),(false,11),(false,12),(false,13),(false,14),(false,15),(false,16),(false,17),(false,18),(false,19),(false,20),(false,21),(false,22),(false,23),(false,24),(false,25),(true,26),(false,27),(false,28)] (by kernel_rfl)<|Ag (.q ids 0 g) J J (Cb (B0 (c:=0) (off:=0) (i:=0) Eh J Ib J))<|Ag (.sl 2 (List.map Ar a.Volumes)) J J (As (Ba hI J J J Ib J))<|Ag (.I (j:Int)) J J Ad<|Ag (.cp (Ar a1) 0) J J (Bt (Db Ib I8 J ha1))<|Ag (.cp (Ar a1) 0) J J (Cb (Wl (c:=0) (off:=0) (i:=0) I8 J Cg J))<|Ag (.str a1.Name) J J (As (Cf Cg J)) ?_
         refine Ag (.q ids 1 g1) J J (Cb (B0 (c:=0) (off:=0) (i:=0) Eh J Ib J))<|Ag (.sl 2 (List.map Ar b.Volumes)) J J (As (Ba hI J J J Ib J))<|Ag (.I (j:Int)) J J Ad<|Nr fun a2 hz hx1=>Ag (.cp (Ar a2) 0) J J (Bt (De Ib I8 J hz hx1))<|Ag (.cp (Ar a2) 0) J J (Cb (Wl (c:=0) (off:=0) (i:=0) I8 J Cg J))<|Ag (.str a2.Name) J J (As (Cf Cg J)) ?_
         refine Ag (.bool (!(a1.Name==a2.Name))) J J (Bc J J J)<|Ag (.bool (!(a1.Name==a2.Name))) J J Ad<|Lo (fun hb14=>?_) (fun hb14=>?_)
         ·refine Jd (tj:=114) (b:=true) J J (congrArg AV.bool hb14) J J<|Jd (tj:=114) (b:=true) J J (congrArg AV.bool hb14) J J<|Jd (tj:=114) (b:=true) J J (congrArg AV.bool hb14) J J<|Jd (tj:=114) (b:=true) J J (congrArg AV.bool hb14) J J<|Jd (tj:=114) (b:=true) J J (congrArg AV.bool hb14) J J<|Jd (tj:=114) (b:=true) J J (congrArg AV.bool hb14) J J<|Jd (tj:=114) (b:=true) J J (congrArg AV.bool hb14) J J ?_
          refine Jd (tj:=114) (b:=true) J J (congrArg AV.bool hb14) J J<|Jd (tj:=114) (b:=true) J J (congrArg AV.bool hb14) J J<|Jd (tj:=114) (b:=true) J J (congrArg AV.bool hb14) J J<|Jd (tj:=114) (b:=true) J J (congrArg AV.bool hb14) J J<|Jd (tj:=114) (b:=true) J J (congrArg AV.bool hb14) J J<|Ald (tj:=114) (b:=true) J J (congrArg AV.bool hb14) J J<|Jd (tj:=114) (b:=true) J J (congrArg AV.bool hb14) J J ?_
          refine Ag (.bool true) J J (Eg (t:=true) (congrArg AV.bool hb14) J)<|Cl<|Bo (hJ7 true _ _ ⟨J,J⟩)
         refine G2 (tj:=114) (.q ids 0 g) J J (congrArg AV.bool hb14) J (Cb (B0 (c:=0) (off:=0) (i:=0) Eh J Ib J))<|G2 (tj:=114) (.sl 2 (List.map Ar a.Volumes)) J J (congrArg AV.bool hb14) J (As (Ba hI J J J Ib J))<|G2 (tj:=114) (.I (j:Int)) J J (congrArg AV.bool hb14) J Ad<|G2 (tj:=114) (.cp (Ar a1) 0) J J (congrArg AV.bool hb14) J (Bt (Db Ib I8 J ha1))<|G2 (tj:=114) (.cp (Ar a1) 1) J J (congrArg AV.bool hb14) J (Cb (Wl (c:=0) (off:=1) (i:=1) I8 J La J))<|G2 (tj:=114) (.sl 2 (List.map B4 a1.Closed)) J J (congrArg AV.bool hb14) J (As (Cf La J))<|G2 (tj:=114) (.q ids 1 g1) J J (congrArg AV.bool hb14) J (Cb (B0 (c:=0) (off:=0) (i:=0) Eh J Ib J)) ?_
         refine G2 (tj:=114) (.sl 2 (List.map Ar b.Volumes)) J J (congrArg AV.bool hb14) J (As (Ba hI J J J Ib J))<|G2 (tj:=114) (.I (j:Int)) J J (congrArg AV.bool hb14) J Ad<|G2 (tj:=114) (.cp (Ar a2) 0) J J (congrArg AV.bool hb14) J (Bt (De Ib I8 J hz hx1))<|G2 (tj:=114) (.cp (Ar a2) 1) J J (congrArg AV.bool hb14) J (Cb (Wl (c:=0) (off:=1) (i:=1) I8 J La J))<|G2 (tj:=114) (.sl 2 (List.map B4 a2.Closed)) J J (congrArg AV.bool hb14) J (As (Cf La J))<|Yc [(.sl 2 (List.map B4 a1.Closed)),(.sl 2 (List.map B4 a2.Closed))] J (Ch (tj:=114) J (congrArg AV.bool hb14)) J J J ((R9 a1.Closed a2.Closed) _) (fun v _ _ _=>Cc Tryz.func12 hI) (Af J (Af J (Af J (Af J (Af J (Af J (Af J (Af J (Af J (Af J (Af J (Af J (Af J (Af J (Af J (Af J (Af J (Af J (Af J (Af J (Af J (Af J (Af J (Af J (Af J (Af J Bw)))))))))))))))))))))))))) fun r _=>G2 (tj:=114) (.bool (!r)) J J (congrArg AV.bool hb14) J (Pl J) ?_
         refine Ag (.bool (!r)) J J (Eg (t:=false) (congrArg AV.bool hb14) J)<|Cl<|Bo (hJ7 (!r) _ _ ⟨J,J⟩)
        rintro _ fr h ⟨rfl,rfl⟩
        refine Al (E3 _ _ _)<|Y<|Y<|O<|Ac 3 [0] [(96,(.sl 2 (List.map Ar a.Volumes))),(94,(.I (a.Volumes.length:Int)))] ?_
        refine Aa (.I (a.Volumes.length:Int)) J (A3 (Be Ib))<|Aa (.bool (decide ((a.Volumes.length:Int)<(a.Volumes.length:Int)))) J (Bc J J J)<|Z<|Cx J (Int.lt_irrefl _)<|C4 J<|Y<|Y ?_
        refine O<|Aa (.I 0) J An<|Z<|A9<|D0 [(2,(.q ids 0 g)),(3,(.q ids 1 g1)),(6,(.I 0))] (FI J)<|Ed (P:=Tryz.prog) a.Sectors (fun j1 a3=>fun _=>Oe b j1 a3) ((Ds (fun _=>(each (fun j2 a5=>fun _=>Mp b j2 a5) 0 a.Configs ()).bind (Ds (fun _=>(each (fun j3 a7=>fun _=>Ls b j3 a7) 0 a.Segments ()).bind (Ds (fun _=>(each (fun j4 a9=>fun _=>Kb b j4 a9) 0 a.Routes ()).bind (Ds (fun _=>(each (fun j5 a11=>fun _=>I4 b j5 a11) 0 a.Airports ()).bind (Ds (fun _=>(each (fun j7 a15=>fun _=>Hf b j7 a15) 0 a.Classes ()).bind (Ds (fun _=>(each (fun j8 a17=>fun _=>Gk b j8 a17) 0 a.Rules ()).bind (Ds (fun _=>.ok true) (fun r=>.ok r))) (fun r=>.ok r))) (fun r=>.ok r))) (fun r=>.ok r))) (fun r=>.ok r))) (fun r=>.ok r))) (fun r=>.ok r)):(Unit ⊕ Bool)→R Bool) (fun j1=>fun _=>fun(fr:Nat→AV) (h:Ae)=>fr=A2 [(2,(.q ids 0 g)),(3,(.q ids 1 g1)),(6,(.I (j1:Int)))]∧h=hp h0 ids [(some (.rows g 8 [(A0 a)])),(some (.rows g1 8 [(A0 b)])),none,none,none,none,none,none,none,none,none,none]) () ?_ ?_ ?_
        ·exact⟨J,J⟩
        ·rintro j1 a3 ha3 W hW1 _ fr h ⟨rfl,rfl⟩
         refine Al (m':=Oe b j1 a3) J (Al (Oe.eq_1 _ _ _) ?_)
         refine Y<|Y<|O<|Ac 3 [0] [(132,(.sl 5 (List.map A8 a.Sectors))),(130,(.I (j1:Int)))] ?_
         refine Aa (.I (a.Sectors.length:Int)) J (A3 (Be Lb))<|Aa (.bool (decide ((j1:Int)<(a.Sectors.length:Int)))) J (Bc J J J)<|Z<|Dz (t:=132) (L:=a.Sectors) J fun hlim3=>Cw J (Int.ofNat_lt.2 (A7 ha3))<|Ay<|Y ?_
         refine A9<|Y<|O<|Ac 3 [0] [(139,(.I (j1:Int))),(138,(.sl 5 (List.map A8 a.Sectors)))] ?_
         refine Aa (.cp (A8 a3) 0) J (Bt (Db Lb Gr J ha3))<|Aa (.agg (A8 a3)) J (As (Cf Gr J))<|Bb (j:=2) hI J J J J Gr J fun g2=>Aq (Aw (v:=(.agg (A8 a3))) hI J J J J Gr J J J J J)<|Z<|Aj ?_
         refine Y<|O<|Ac 3 [1] [(144,(.I (j1:Int))),(143,(.sl 5 (List.map A8 b.Sectors)))] ?_
         refine Ea fun a4 hz1 hx2=>Aa (.cp (A8 a4) 0) J (Bt (De Lb Gr J hz1 hx2))<|Aa (.agg (A8 a4)) J (As (Cf Gr J))<|Bb (j:=3) hI J J J J Gr J fun g3=>Aq (Aw (v:=(.agg (A8 a4))) hI J J J J Gr J J J J J)<|Z<|Aj ?_
         refine Y<|O<|Ac 6 [2,3] [(152,(.bool (!(a3.Name==a4.Name))))] ?_
         refine C5 7 ((fun(b1:Bool)=>(if b1 then R.ok true else(Jh a3.Volumes a4.Volumes).bind fun r2=>R.ok (!r2)).bind (fun(b2:Bool)=>if((b2||(a3.Radar != a4.Radar))||(a3.Procedural != a4.Procedural)) then(.ok (.inr (false))) else(.ok (.inl ())))):Bool→R (Unit ⊕ Bool)) (fun(b1:Bool) (fr:Nat→AV) (h:Ae)=>fr=A2 [(2,(.q ids 0 g)),(3,(.q ids 1 g1)),(6,(.I (j1:Int))),(7,(.q ids 2 g2)),(8,(.q ids 3 g3)),(159,(.bool b1))]∧h=hp h0 ids [(some (.rows g 8 [(A0 a)])),(some (.rows g1 8 [(A0 b)])),(some (.rows g2 5 [(A8 a3)])),(some (.rows g3 5 [(A8 a4)])),none,none,none,none,none,none,none,none]) ?_ fun hJ8=>Dr (fun hb16=>?_) (fun hb16=>?_)
         ·rintro b1 fr h ⟨rfl,rfl⟩
          refine Aa (.bool b1) J Ad<|C5 7 ((fun(b2:Bool)=>if((b2||(a3.Radar != a4.Radar))||(a3.Procedural != a4.Procedural)) then(.ok (.inr (false))) else(.ok (.inl ()))):Bool→R (Unit ⊕ Bool)) (fun(b2:Bool) (fr:Nat→AV) (h:Ae)=>fr=A2 [(2,(.q ids 0 g)),(3,(.q ids 1 g1)),(6,(.I (j1:Int))),(7,(.q ids 2 g2)),(8,(.q ids 3 g3)),(167,(.bool b2))]∧h=hp h0 ids [(some (.rows g 8 [(A0 a)])),(some (.rows g1 8 [(A0 b)])),(some (.rows g2 5 [(A8 a3)])),(some (.rows g3 5 [(A8 a4)])),none,none,none,none,none,none,none,none]) ?_ fun hJ9=>Dr (fun hb18=>?_) (fun hb18=>?_)
          ·rintro b2 fr h ⟨rfl,rfl⟩
           refine Aa (.bool b2) J Ad<|Br 6 [(2,(.q ids 0 g)),(3,(.q ids 1 g1)),(6,(.I (j1:Int))),(7,(.q ids 2 g2)),(8,(.q ids 3 g3)),(174,(.bool (b2||(a3.Radar != a4.Radar))))] ?_ fun hJ10=>Bm b2 (fun hb20=>?_) (fun hb20=>?_)
           ·refine Aa (.bool (b2||(a3.Radar != a4.Radar))) J Ad<|Br 6 [(2,(.q ids 0 g)),(3,(.q ids 1 g1)),(6,(.I (j1:Int))),(181,(.bool ((b2||(a3.Radar != a4.Radar))||(a3.Procedural != a4.Procedural))))] ?_ fun hJ11=>Bm (b2||(a3.Radar != a4.Radar)) (fun hb22=>?_) (fun hb22=>?_)
            ·refine Z<|B3 J (fun hc2=>?_) (fun hc2=>?_)
             ·refine Y<|O<|Aa (.bool false) J An<|Z<|Ey<|Fr<|Bq (a:=false) (vs:=[(.bool false)]) Tryz.func12 hI J (.same _)
             refine Ay<|Bn<|O<|Ac 3 [] [(6,(.I (IntKind.wrap .i64 ((j1:Int)+1))))] ?_
             refine Z<|D2 [(some (.rows g 8 [(A0 a)])),(some (.rows g1 8 [(A0 b)])),none,none,none,none,none,none,none,none,none,none] hI J (.keep (.keep (.drop (.drop (.keep (.keep (.keep (.keep (.keep (.keep (.keep (.keep .nil))))))))))))<|Bo (E0 (hW1 () _ _ ⟨J,J⟩)) (.cons J (.cons J (.cons (Dw (A7 ha3) hlim3) .nil)))
            ·refine Ax (t:=175) hb22 J<|Ac 6 [] [(181,(.bool true)),(180,.und),(179,.und),(178,.und),(177,.und),(176,.und)] ?_
             exact A5 hJ11 (.cons J (.cons J (.cons J (.cons (D9 hb22) .nil))))
            refine Ax (t:=175) hb22 J<|Ac 6 [2,3] [(181,(.bool (a3.Procedural != a4.Procedural))),(180,(.bool (a3.Procedural != a4.Procedural))),(179,(.I a4.Procedural)),(178,(.ptr (ix ids 3) g3 0 4)),(177,(.I a3.Procedural)),(176,(.ptr (ix ids 2) g2 0 4))] ?_
            exact A5 hJ11 (.cons J (.cons J (.cons J (.cons (Eb hb22) .nil))))
           ·refine Ax (t:=168) hb20 J<|Ac 6 [] [(174,(.bool true)),(173,.und),(172,.und),(171,.und),(170,.und),(169,.und)] ?_
            exact A5 hJ10 (.cons J (.cons J (.cons J (.cons J (.cons J (.cons (D9 hb20) .nil))))))
           refine Ax (t:=168) hb20 J<|Ac 6 [2,3] [(174,(.bool (a3.Radar != a4.Radar))),(173,(.bool (a3.Radar != a4.Radar))),(172,(.I a4.Radar)),(171,(.ptr (ix ids 3) g3 0 3)),(170,(.I a3.Radar)),(169,(.ptr (ix ids 2) g2 0 3))] ?_
           exact A5 hJ10 (.cons J (.cons J (.cons J (.cons J (.cons J (.cons (Eb hb20) .nil))))))
          ·refine Ax (t:=160) hb18 J<|Ac 7 [] [(167,(.bool true)),(166,.und),(165,.und),(164,.und),(163,.und),(162,.und),(161,.und)] ?_
           refine Bj<|B8 [(2,(.q ids 0 g)),(3,(.q ids 1 g1)),(6,(.I (j1:Int))),(7,(.q ids 2 g2)),(8,(.q ids 3 g3)),(167,(.bool true))] (FI J)<|hJ9 true _ _ ⟨J,J⟩
          refine Ax (t:=160) hb18 J<|Ac 4 [2,3] [(164,(.sl 1 (List.map (rI .i64) a4.Volumes))),(163,(.ptr (ix ids 3) g3 0 2)),(162,(.sl 1 (List.map (rI .i64) a3.Volumes))),(161,(.ptr (ix ids 2) g2 0 2))] ?_
          refine Bx [(.sl 1 (List.map (rI .i64) a3.Volumes)),(.sl 1 (List.map (rI .i64) a4.Volumes))] J (Ch (tj:=160) J J) J J ((Po a3.Volumes a4.Volumes) _) (fun v _=>Cc Tryz.func12 hI) fun r2 _=>Ac 2 [] [(167,(.bool (!r2))),(166,(.bool (!r2)))] ?_
          refine Bj<|B8 [(2,(.q ids 0 g)),(3,(.q ids 1 g1)),(6,(.I (j1:Int))),(7,(.q ids 2 g2)),(8,(.q ids 3 g3)),(167,(.bool (!r2)))] (FI J)<|hJ9 (!r2) _ _ ⟨J,J⟩
         ·refine Ax (t:=152) hb16 J<|Ac 7 [] [(159,(.bool true)),(158,.und),(157,.und),(156,.und),(155,.und),(154,.und),(153,.und)] ?_
          refine Bj<|B8 [(2,(.q ids 0 g)),(3,(.q ids 1 g1)),(6,(.I (j1:Int))),(7,(.q ids 2 g2)),(8,(.q ids 3 g3)),(159,(.bool true))] (FI J)<|hJ8 true _ _ ⟨J,J⟩
         refine Ax (t:=152) hb16 J<|Ac 4 [2,3] [(156,(.sl 1 (List.map rS a4.Names))),(155,(.ptr (ix ids 3) g3 0 1)),(154,(.sl 1 (List.map rS a3.Names))),(153,(.ptr (ix ids 2) g2 0 1))] ?_
         refine Bx [(.sl 1 (List.map rS a3.Names)),(.sl 1 (List.map rS a4.Names))] J (Ch (tj:=152) J J) J J ((O7 a3.Names a4.Names) _) (fun v _=>Cc Tryz.func12 hI) fun r1 _=>Ac 2 [] [(159,(.bool (!r1))),(158,(.bool (!r1)))] ?_
         refine Bj<|B8 [(2,(.q ids 0 g)),(3,(.q ids 1 g1)),(6,(.I (j1:Int))),(7,(.q ids 2 g2)),(8,(.q ids 3 g3)),(159,(.bool (!r1)))] (FI J)<|hJ8 (!r1) _ _ ⟨J,J⟩
        rintro _ fr h ⟨rfl,rfl⟩
        refine Al (E3 _ _ _)<|Y<|Y<|O<|Ac 3 [0] [(132,(.sl 5 (List.map A8 a.Sectors))),(130,(.I (a.Sectors.length:Int)))] ?_
        refine Aa (.I (a.Sectors.length:Int)) J (A3 (Be Lb))<|Aa (.bool (decide ((a.Sectors.length:Int)<(a.Sectors.length:Int)))) J (Bc J J J)<|Z<|Cx J (Int.lt_irrefl _)<|C4 J<|Y<|Y ?_
        refine O<|Aa (.I 0) J An<|Z<|A9<|D0 [(2,(.q ids 0 g)),(3,(.q ids 1 g1)),(9,(.I 0))] (FI J)<|Ed (P:=Tryz.prog) a.Configs (fun j2 a5=>fun _=>Mp b j2 a5) ((Ds (fun _=>(each (fun j3 a7=>fun _=>Ls b j3 a7) 0 a.Segments ()).bind (Ds (fun _=>(each (fun j4 a9=>fun _=>Kb b j4 a9) 0 a.Routes ()).bind (Ds (fun _=>(each (fun j5 a11=>fun _=>I4 b j5 a11) 0 a.Airports ()).bind (Ds (fun _=>(each (fun j7 a15=>fun _=>Hf b j7 a15) 0 a.Classes ()).bind (Ds (fun _=>(each (fun j8 a17=>fun _=>Gk b j8 a17) 0 a.Rules ()).bind (Ds (fun _=>.ok true) (fun r=>.ok r))) (fun r=>.ok r))) (fun r=>.ok r))) (fun r=>.ok r))) (fun r=>.ok r))) (fun r=>.ok r)):(Unit ⊕ Bool)→R Bool) (fun j2=>fun _=>fun(fr:Nat→AV) (h:Ae)=>fr=A2 [(2,(.q ids 0 g)),(3,(.q ids 1 g1)),(9,(.I (j2:Int)))]∧h=hp h0 ids [(some (.rows g 8 [(A0 a)])),(some (.rows g1 8 [(A0 b)])),none,none,none,none,none,none,none,none,none,none]) () ?_ ?_ ?_
        ·exact⟨J,J⟩
        ·rintro j2 a5 ha5 W hW2 _ fr h ⟨rfl,rfl⟩
         refine Al (m':=Mp b j2 a5) J (Al (Mp.eq_1 _ _ _) ?_)
         refine Y<|Y<|O<|Ac 3 [0] [(184,(.sl 3 (List.map Bl a.Configs))),(182,(.I (j2:Int)))] ?_
         refine Aa (.I (a.Configs.length:Int)) J (A3 (Be Mm))<|Aa (.bool (decide ((j2:Int)<(a.Configs.length:Int)))) J (Bc J J J)<|Z<|Dz (t:=184) (L:=a.Configs) J fun hlim5=>Cw J (Int.ofNat_lt.2 (A7 ha5))<|Ay<|Y ?_
         refine A9<|Y<|O<|Ac 3 [0] [(191,(.I (j2:Int))),(190,(.sl 3 (List.map Bl a.Configs)))] ?_
         refine Aa (.cp (Bl a5) 0) J (Bt (Db Mm J6 J ha5))<|Aa (.agg (Bl a5)) J (As (Cf J6 J))<|Bb (j:=4) hI J J J J J6 J fun g4=>Aq (Aw (v:=(.agg (Bl a5))) hI J J J J J6 J J J J J)<|Z<|Aj ?_
         refine Y<|O<|Ac 3 [1] [(196,(.I (j2:Int))),(195,(.sl 3 (List.map Bl b.Configs)))] ?_
         refine Ea fun a6 hz2 hx3=>Aa (.cp (Bl a6) 0) J (Bt (De Mm J6 J hz2 hx3))<|Aa (.agg (Bl a6)) J (As (Cf J6 J))<|Bb (j:=5) hI J J J J J6 J fun g5=>Aq (Aw (v:=(.agg (Bl a6))) hI J J J J J6 J J J J J)<|Z<|Aj ?_
         refine Y<|O<|Ac 6 [4,5] [(204,(.bool (!(a5.Name==a6.Name))))] ?_
         refine C5 7 ((fun(b3:Bool)=>(if b3 then R.ok true else(Jh a5.Sectors a6.Sectors).bind fun r4=>R.ok (!r4)).bind (fun(b4:Bool)=>if b4 then(.ok (.inr (false))) else(.ok (.inl ())))):Bool→R (Unit ⊕ Bool)) (fun(b3:Bool) (fr:Nat→AV) (h:Ae)=>fr=A2 [(2,(.q ids 0 g)),(3,(.q ids 1 g1)),(9,(.I (j2:Int))),(10,(.q ids 4 g4)),(11,(.q ids 5 g5)),(211,(.bool b3))]∧h=hp h0 ids [(some (.rows g 8 [(A0 a)])),(some (.rows g1 8 [(A0 b)])),none,none,(some (.rows g4 3 [(Bl a5)])),(some (.rows g5 3 [(Bl a6)])),none,none,none,none,none,none]) ?_ fun hJ12=>Dr (fun hb24=>?_) (fun hb24=>?_)
         ·rintro b3 fr h ⟨rfl,rfl⟩
          refine Aa (.bool b3) J Ad<|C5 7 ((fun(b4:Bool)=>if b4 then(.ok (.inr (false))) else(.ok (.inl ()))):Bool→R (Unit ⊕ Bool)) (fun(b4:Bool) (fr:Nat→AV) (h:Ae)=>fr=A2 [(2,(.q ids 0 g)),(3,(.q ids 1 g1)),(9,(.I (j2:Int))),(219,(.bool b4))]∧h=hp h0 ids [(some (.rows g 8 [(A0 a)])),(some (.rows g1 8 [(A0 b)])),none,none,(some (.rows g4 3 [(Bl a5)])),(some (.rows g5 3 [(Bl a6)])),none,none,none,none,none,none]) ?_ fun hJ13=>Dr (fun hb26=>?_) (fun hb26=>?_)
          ·rintro b4 fr h ⟨rfl,rfl⟩
           refine Z<|B3 J (fun hc3=>?_) (fun hc3=>?_)
           ·refine Y<|O<|Aa (.bool false) J An<|Z<|Ey<|Fr<|Bq (a:=false) (vs:=[(.bool false)]) Tryz.func12 hI J (.same _)
           refine Ay<|Bn<|O<|Ac 3 [] [(9,(.I (IntKind.wrap .i64 ((j2:Int)+1))))] ?_
           refine Z<|D2 [(some (.rows g 8 [(A0 a)])),(some (.rows g1 8 [(A0 b)])),none,none,none,none,none,none,none,none,none,none] hI J (.keep (.keep (.keep (.keep (.drop (.drop (.keep (.keep (.keep (.keep (.keep (.keep .nil))))))))))))<|Bo (E0 (hW2 () _ _ ⟨J,J⟩)) (.cons J (.cons J (.cons (Dw (A7 ha5) hlim5) .nil)))
          ·refine Ax (t:=212) hb26 J<|Ac 7 [] [(219,(.bool true)),(218,.und),(217,.und),(216,.und),(215,.und),(214,.und),(213,.und)] ?_
           refine Bj<|B8 [(2,(.q ids 0 g)),(3,(.q ids 1 g1)),(9,(.I (j2:Int))),(219,(.bool true))] (FI J)<|hJ13 true _ _ ⟨J,J⟩
          refine Ax (t:=212) hb26 J<|Ac 4 [4,5] [(216,(.sl 1 (List.map (rI .i64) a6.Sectors))),(215,(.ptr (ix ids 5) g5 0 2)),(214,(.sl 1 (List.map (rI .i64) a5.Sectors))),(213,(.ptr (ix ids 4) g4 0 2))] ?_
          refine Bx [(.sl 1 (List.map (rI .i64) a5.Sectors)),(.sl 1 (List.map (rI .i64) a6.Sectors))] J (Ch (tj:=212) J J) J J ((Po a5.Sectors a6.Sectors) _) (fun v _=>Cc Tryz.func12 hI) fun r4 _=>Ac 2 [] [(219,(.bool (!r4))),(218,(.bool (!r4)))] ?_
          refine Bj<|B8 [(2,(.q ids 0 g)),(3,(.q ids 1 g1)),(9,(.I (j2:Int))),(219,(.bool (!r4)))] (FI J)<|hJ13 (!r4) _ _ ⟨J,J⟩
         ·refine Ax (t:=204) hb24 J<|Ac 7 [] [(211,(.bool true)),(210,.und),(209,.und),(208,.und),(207,.und),(206,.und),(205,.und)] ?_
          refine Bj<|B8 [(2,(.q ids 0 g)),(3,(.q ids 1 g1)),(9,(.I (j2:Int))),(10,(.q ids 4 g4)),(11,(.q ids 5 g5)),(211,(.bool true))] (FI J)<|hJ12 true _ _ ⟨J,J⟩
         refine Ax (t:=204) hb24 J<|Ac 4 [4,5] [(208,(.sl 1 (List.map rS a6.Names))),(207,(.ptr (ix ids 5) g5 0 1)),(206,(.sl 1 (List.map rS a5.Names))),(205,(.ptr (ix ids 4) g4 0 1))] ?_
         refine Bx [(.sl 1 (List.map rS a5.Names)),(.sl 1 (List.map rS a6.Names))] J (Ch (tj:=204) J J) J J ((O7 a5.Names a6.Names) _) (fun v _=>Cc Tryz.func12 hI) fun r3 _=>Ac 2 [] [(211,(.bool (!r3))),(210,(.bool (!r3)))] ?_
         refine Bj<|B8 [(2,(.q ids 0 g)),(3,(.q ids 1 g1)),(9,(.I (j2:Int))),(10,(.q ids 4 g4)),(11,(.q ids 5 g5)),(211,(.bool (!r3)))] (FI J)<|hJ12 (!r3) _ _ ⟨J,J⟩
        rintro _ fr h ⟨rfl,rfl⟩
        refine Al (E3 _ _ _)<|Y<|Y<|O<|Ac 3 [0] [(184,(.sl 3 (List.map Bl a.Configs))),(182,(.I (a.Configs.length:Int)))] ?_
        refine Aa (.I (a.Configs.length:Int)) J (A3 (Be Mm))<|Aa (.bool (decide ((a.Configs.length:Int)<(a.Configs.length:Int)))) J (Bc J J J)<|Z<|Cx J (Int.lt_irrefl _)<|C4 J<|Y<|Y ?_
        refine O<|Aa (.I 0) J An<|Z<|A9<|D0 [(2,(.q ids 0 g)),(3,(.q ids 1 g1)),(12,(.I 0))] (FI J)<|Ed (P:=Tryz.prog) a.Segments (fun j3 a7=>fun _=>Ls b j3 a7) ((Ds (fun _=>(each (fun j4 a9=>fun _=>Kb b j4 a9) 0 a.Routes ()).bind (Ds (fun _=>(each (fun j5 a11=>fun _=>I4 b j5 a11) 0 a.Airports ()).bind (Ds (fun _=>(each (fun j7 a15=>fun _=>Hf b j7 a15) 0 a.Classes ()).bind (Ds (fun _=>(each (fun j8 a17=>fun _=>Gk b j8 a17) 0 a.Rules ()).bind (Ds (fun _=>.ok true) (fun r=>.ok r))) (fun r=>.ok r))) (fun r=>.ok r))) (fun r=>.ok r))) (fun r=>.ok r)):(Unit ⊕ Bool)→R Bool) (fun j3=>fun _=>fun(fr:Nat→AV) (h:Ae)=>fr=A2 [(2,(.q ids 0 g)),(3,(.q ids 1 g1)),(12,(.I (j3:Int)))]∧h=hp h0 ids [(some (.rows g 8 [(A0 a)])),(some (.rows g1 8 [(A0 b)])),none,none,none,none,none,none,none,none,none,none]) () ?_ ?_ ?_
        ·exact⟨J,J⟩
        ·rintro j3 a7 ha7 W hW3 _ fr h ⟨rfl,rfl⟩
         refine Al (m':=Ls b j3 a7) J (Al (Ls.eq_1 _ _ _) ?_)
         refine Y<|Y<|O<|Ac 3 [0] [(222,(.sl 5 (List.map Bf a.Segments))),(220,(.I (j3:Int)))] ?_
         refine Aa (.I (a.Segments.length:Int)) J (A3 (Be Mn))<|Aa (.bool (decide ((j3:Int)<(a.Segments.length:Int)))) J (Bc J J J)<|Z<|Dz (t:=222) (L:=a.Segments) J fun hlim7=>Cw J (Int.ofNat_lt.2 (A7 ha7))<|Ay<|Y ?_
         refine A9<|Y<|O<|Ac 3 [0] [(229,(.I (j3:Int))),(228,(.sl 5 (List.map Bf a.Segments)))] ?_
         refine Aa (.cp (Bf a7) 0) J (Bt (Db Mn Id J ha7))<|Aa (.agg (Bf a7)) J (As (Cf Id J))<|Bb (j:=6) hI J J J J Id J fun g6=>Aq (Aw (v:=(.agg (Bf a7))) hI J J J J Id J J J J J)<|Z<|Aj ?_
         refine Y<|O<|Ac 3 [1] [(234,(.I (j3:Int))),(233,(.sl 5 (List.map Bf b.Segments)))] ?_
         refine Ea fun a8 hz3 hx4=>Aa (.cp (Bf a8) 0) J (Bt (De Mn Id J hz3 hx4))<|Aa (.agg (Bf a8)) J (As (Cf Id J))<|Bb (j:=7) hI J J J J Id J fun g7=>Aq (Aw (v:=(.agg (Bf a8))) hI J J J J Id J J J J J)<|Z<|Aj ?_
         refine Y<|O<|Ac 6 [6,7] [(242,(.bool (!(a7.Name==a8.Name))))] ?_
         refine Br 6 [(2,(.q ids 0 g)),(3,(.q ids 1 g1)),(12,(.I (j3:Int))),(13,(.q ids 6 g6)),(14,(.q ids 7 g7)),(248,(.bool ((!(a7.Name==a8.Name))||(!(a7.In==a8.In)))))] ?_ fun hJ14=>Bm (!(a7.Name==a8.Name)) (fun hb28=>?_) (fun hb28=>?_)
         ·refine Aa (.bool ((!(a7.Name==a8.Name))||(!(a7.In==a8.In)))) J Ad<|Br 6 [(2,(.q ids 0 g)),(3,(.q ids 1 g1)),(12,(.I (j3:Int))),(13,(.q ids 6 g6)),(14,(.q ids 7 g7)),(255,(.bool (((!(a7.Name==a8.Name))||(!(a7.In==a8.In)))||(a7.Volume != a8.Volume))))] ?_ fun hJ15=>Bm ((!(a7.Name==a8.Name))||(!(a7.In==a8.In))) (fun hb30=>?_) (fun hb30=>?_)
          ·refine Aa (.bool (((!(a7.Name==a8.Name))||(!(a7.In==a8.In)))||(a7.Volume != a8.Volume))) J Ad<|Br 6 [(2,(.q ids 0 g)),(3,(.q ids 1 g1)),(12,(.I (j3:Int))),(13,(.q ids 6 g6)),(14,(.q ids 7 g7)),(262,(.bool ((((!(a7.Name==a8.Name))||(!(a7.In==a8.In)))||(a7.Volume != a8.Volume))||(a7.Length != a8.Length))))] ?_ fun hJ16=>Bm (((!(a7.Name==a8.Name))||(!(a7.In==a8.In)))||(a7.Volume != a8.Volume)) (fun hb32=>?_) (fun hb32=>?_)
           ·refine Aa (.bool ((((!(a7.Name==a8.Name))||(!(a7.In==a8.In)))||(a7.Volume != a8.Volume))||(a7.Length != a8.Length))) J Ad<|C5 7 ((fun(b5:Bool)=>if b5 then(.ok (.inr (false))) else(.ok (.inl ()))):Bool→R (Unit ⊕ Bool)) (fun(b5:Bool) (fr:Nat→AV) (h:Ae)=>fr=A2 [(2,(.q ids 0 g)),(3,(.q ids 1 g1)),(12,(.I (j3:Int))),(270,(.bool b5))]∧h=hp h0 ids [(some (.rows g 8 [(A0 a)])),(some (.rows g1 8 [(A0 b)])),none,none,none,none,(some (.rows g6 5 [(Bf a7)])),(some (.rows g7 5 [(Bf a8)])),none,none,none,none]) ?_ fun hJ17=>Dr (fun hb34=>?_) (fun hb34=>?_)
            ·rintro b5 fr h ⟨rfl,rfl⟩
             refine Z<|B3 J (fun hc4=>?_) (fun hc4=>?_)
             ·refine Y<|O<|Aa (.bool false) J An<|Z<|Ey<|Fr<|Bq (a:=false) (vs:=[(.bool false)]) Tryz.func12 hI J (.same _)
             refine Ay<|Bn<|O<|Ac 3 [] [(12,(.I (IntKind.wrap .i64 ((j3:Int)+1))))] ?_
             refine Z<|D2 [(some (.rows g 8 [(A0 a)])),(some (.rows g1 8 [(A0 b)])),none,none,none,none,none,none,none,none,none,none] hI J (.keep (.keep (.keep (.keep (.keep (.keep (.drop (.drop (.keep (.keep (.keep (.keep .nil))))))))))))<|Bo (E0 (hW3 () _ _ ⟨J,J⟩)) (.cons J (.cons J (.cons (Dw (A7 ha7) hlim7) .nil)))
            ·refine Ax (t:=263) hb34 J<|Ac 7 [] [(270,(.bool true)),(269,.und),(268,.und),(267,.und),(266,.und),(265,.und),(264,.und)] ?_
             refine Bj<|B8 [(2,(.q ids 0 g)),(3,(.q ids 1 g1)),(12,(.I (j3:Int))),(270,(.bool true))] (FI J)<|hJ17 true _ _ ⟨J,J⟩
            refine Ax (t:=263) hb34 J<|Ac 4 [6,7] [(267,(.sl 2 (List.map B4 a8.Open))),(266,(.ptr (ix ids 7) g7 0 4)),(265,(.sl 2 (List.map B4 a7.Open))),(264,(.ptr (ix ids 6) g6 0 4))] ?_
            refine Bx [(.sl 2 (List.map B4 a7.Open)),(.sl 2 (List.map B4 a8.Open))] J (Ch (tj:=263) J J) J J ((R9 a7.Open a8.Open) _) (fun v _=>Cc Tryz.func12 hI) fun r5 _=>Ac 2 [] [(270,(.bool (!r5))),(269,(.bool (!r5)))] ?_
            refine Bj<|B8 [(2,(.q ids 0 g)),(3,(.q ids 1 g1)),(12,(.I (j3:Int))),(270,(.bool (!r5)))] (FI J)<|hJ17 (!r5) _ _ ⟨J,J⟩
           ·refine Ax (t:=256) hb32 J<|Ac 6 [] [(262,(.bool true)),(261,.und),(260,.und),(259,.und),(258,.und),(257,.und)] ?_
            exact A5 hJ16 (.cons J (.cons J (.cons J (.cons J (.cons J (.cons (D9 hb32) .nil))))))
           refine Ax (t:=256) hb32 J<|Ac 6 [6,7] [(262,(.bool (a7.Length != a8.Length))),(261,(.bool (a7.Length != a8.Length))),(260,(.I a8.Length)),(259,(.ptr (ix ids 7) g7 0 3)),(258,(.I a7.Length)),(257,(.ptr (ix ids 6) g6 0 3))] ?_
           exact A5 hJ16 (.cons J (.cons J (.cons J (.cons J (.cons J (.cons (Eb hb32) .nil))))))
          ·refine Ax (t:=249) hb30 J<|Ac 6 [] [(255,(.bool true)),(254,.und),(253,.und),(252,.und),(251,.und),(250,.und)] ?_
           exact A5 hJ15 (.cons J (.cons J (.cons J (.cons J (.cons J (.cons (D9 hb30) .nil))))))
          refine Ax (t:=249) hb30 J<|Ac 6 [6,7] [(255,(.bool (a7.Volume != a8.Volume))),(254,(.bool (a7.Volume != a8.Volume))),(253,(.I a8.Volume)),(252,(.ptr (ix ids 7) g7 0 2)),(251,(.I a7.Volume)),(250,(.ptr (ix ids 6) g6 0 2))] ?_
          exact A5 hJ15 (.cons J (.cons J (.cons J (.cons J (.cons J (.cons (Eb hb30) .nil))))))
         ·refine Ax (t:=242) hb28 J<|Ac 6 [] [(248,(.bool true)),(247,.und),(246,.und),(245,.und),(244,.und),(243,.und)] ?_
          exact A5 hJ14 (.cons J (.cons J (.cons J (.cons J (.cons J (.cons (D9 hb28) .nil))))))
         refine Ax (t:=242) hb28 J<|Ac 6 [6,7] [(248,(.bool (!(a7.In==a8.In)))),(247,(.bool (!(a7.In==a8.In)))),(246,(.str a8.In)),(245,(.ptr (ix ids 7) g7 0 1)),(244,(.str a7.In)),(243,(.ptr (ix ids 6) g6 0 1))] ?_
         exact A5 hJ14 (.cons J (.cons J (.cons J (.cons J (.cons J (.cons (Eb hb28) .nil))))))
        rintro _ fr h ⟨rfl,rfl⟩
        refine Al (E3 _ _ _)<|Y<|Y<|O<|Ac 3 [0] [(222,(.sl 5 (List.map Bf a.Segments))),(220,(.I (a.Segments.length:Int)))] ?_
        refine Aa (.I (a.Segments.length:Int)) J (A3 (Be Mn))<|Aa (.bool (decide ((a.Segments.length:Int)<(a.Segments.length:Int)))) J (Bc J J J)<|Z<|Cx J (Int.lt_irrefl _)<|C4 J<|Y<|Y ?_
        refine O<|Aa (.I 0) J An<|Z<|A9<|D0 [(2,(.q ids 0 g)),(3,(.q ids 1 g1)),(15,(.I 0))] (FI J)<|Ed (P:=Tryz.prog) a.Routes (fun j4 a9=>fun _=>Kb b j4 a9) ((Ds (fun _=>(each (fun j5 a11=>fun _=>I4 b j5 a11) 0 a.Airports ()).bind (Ds (fun _=>(each (fun j7 a15=>fun _=>Hf b j7 a15) 0 a.Classes ()).bind (Ds (fun _=>(each (fun j8 a17=>fun _=>Gk b j8 a17) 0 a.Rules ()).bind (Ds (fun _=>.ok true) (fun r=>.ok r))) (fun r=>.ok r))) (fun r=>.ok r))) (fun r=>.ok r)):(Unit ⊕ Bool)→R Bool) (fun j4=>fun _=>fun(fr:Nat→AV) (h:Ae)=>fr=A2 [(2,(.q ids 0 g)),(3,(.q ids 1 g1)),(15,(.I (j4:Int)))]∧h=hp h0 ids [(some (.rows g 8 [(A0 a)])),(some (.rows g1 8 [(A0 b)])),none,none,none,none,none,none,none,none,none,none]) () ?_ ?_ ?_
        ·exact⟨J,J⟩
        ·rintro j4 a9 ha9 W hW4 _ fr h ⟨rfl,rfl⟩
         refine Al (m':=Kb b j4 a9) J (Al (Kb.eq_1 _ _ _) ?_)
         refine Y<|Y<|O<|Ac 3 [0] [(273,(.sl 7 (List.map Bs a.Routes))),(271,(.I (j4:Int)))] ?_
         refine Aa (.I (a.Routes.length:Int)) J (A3 (Be Ml))<|Aa (.bool (decide ((j4:Int)<(a.Routes.length:Int)))) J (Bc J J J)<|Z<|Dz (t:=273) (L:=a.Routes) J fun hlim9=>Cw J (Int.ofNat_lt.2 (A7 ha9))<|Ay<|Y ?_
         refine A9<|Y<|O<|Ac 3 [0] [(280,(.I (j4:Int))),(279,(.sl 7 (List.map Bs a.Routes)))] ?_
         refine Aa (.cp (Bs a9) 0) J (Bt (Db Ml H9 J ha9))<|Aa (.agg (Bs a9)) J (As (Cf H9 J))<|Bb (j:=8) hI J J J J H9 J fun g8=>Aq (Aw (v:=(.agg (Bs a9))) hI J J J J H9 J J J J J)<|Z<|Aj ?_
         refine Y<|O<|Ac 3 [1] [(285,(.I (j4:Int))),(284,(.sl 7 (List.map Bs b.Routes)))] ?_
         refine Ea fun a10 hz4 hx5=>Aa (.cp (Bs a10) 0) J (Bt (De Ml H9 J hz4 hx5))<|Aa (.agg (Bs a10)) J (As (Cf H9 J))<|Bb (j:=9) hI J J J J H9 J fun g9=>Aq (Aw (v:=(.agg (Bs a10))) hI J J J J H9 J J J J J)<|Z<|Aj ?_
         refine Y<|O<|Ac 6 [8,9] [(293,(.bool (!(a9.Name==a10.Name))))] ?_
         refine Br 6 [(2,(.q ids 0 g)),(3,(.q ids 1 g1)),(15,(.I (j4:Int))),(16,(.q ids 8 g8)),(17,(.q ids 9 g9)),(299,(.bool ((!(a9.Name==a10.Name))||(!(a9.A==a10.A)))))] ?_ fun hJ18=>Bm (!(a9.Name==a10.Name)) (fun hb36=>?_) (fun hb36=>?_)
         ·refine Aa (.bool ((!(a9.Name==a10.Name))||(!(a9.A==a10.A)))) J Ad<|Br 6 [(2,(.q ids 0 g)),(3,(.q ids 1 g1)),(15,(.I (j4:Int))),(16,(.q ids 8 g8)),(17,(.q ids 9 g9)),(306,(.bool (((!(a9.Name==a10.Name))||(!(a9.A==a10.A)))||(!(a9.B==a10.B)))))] ?_ fun hJ19=>Bm ((!(a9.Name==a10.Name))||(!(a9.A==a10.A))) (fun hb38=>?_) (fun hb38=>?_)
          ·refine Aa (.bool (((!(a9.Name==a10.Name))||(!(a9.A==a10.A)))||(!(a9.B==a10.B)))) J Ad<|Br 6 [(2,(.q ids 0 g)),(3,(.q ids 1 g1)),(15,(.I (j4:Int))),(16,(.q ids 8 g8)),(17,(.q ids 9 g9)),(313,(.bool ((((!(a9.Name==a10.Name))||(!(a9.A==a10.A)))||(!(a9.B==a10.B)))||(a9.From != a10.From))))] ?_ fun hJ20=>Bm (((!(a9.Name==a10.Name))||(!(a9.A==a10.A)))||(!(a9.B==a10.B))) (fun hb40=>?_) (fun hb40=>?_)
           ·refine Aa (.bool ((((!(a9.Name==a10.Name))||(!(a9.A==a10.A)))||(!(a9.B==a10.B)))||(a9.From != a10.From))) J Ad<|Br 6 [(2,(.q ids 0 g)),(3,(.q ids 1 g1)),(15,(.I (j4:Int))),(16,(.q ids 8 g8)),(17,(.q ids 9 g9)),(320,(.bool (((((!(a9.Name==a10.Name))||(!(a9.A==a10.A)))||(!(a9.B==a10.B)))||(a9.From != a10.From))||(a9.To != a10.To))))] ?_ fun hJ21=>Bm ((((!(a9.Name==a10.Name))||(!(a9.A==a10.A)))||(!(a9.B==a10.B)))||(a9.From != a10.From)) (fun hb42=>?_) (fun hb42=>?_)
            ·refine Aa (.bool (((((!(a9.Name==a10.Name))||(!(a9.A==a10.A)))||(!(a9.B==a10.B)))||(a9.From != a10.From))||(a9.To != a10.To))) J Ad<|C5 7 ((fun(b6:Bool)=>(if b6 then R.ok true else(Jh a9.Segments a10.Segments).bind fun r7=>R.ok (!r7)).bind (fun(b7:Bool)=>if b7 then(.ok (.inr (false))) else(.ok (.inl ())))):Bool→R (Unit ⊕ Bool)) (fun(b6:Bool) (fr:Nat→AV) (h:Ae)=>fr=A2 [(2,(.q ids 0 g)),(3,(.q ids 1 g1)),(15,(.I (j4:Int))),(16,(.q ids 8 g8)),(17,(.q ids 9 g9)),(328,(.bool b6))]∧h=hp h0 ids [(some (.rows g 8 [(A0 a)])),(some (.rows g1 8 [(A0 b)])),none,none,none,none,none,none,(some (.rows g8 7 [(Bs a9)])),(some (.rows g9 7 [(Bs a10)])),none,none]) ?_ fun hJ22=>Dr (fun hb44=>?_) (fun hb44=>?_)
             ·rintro b6 fr h ⟨rfl,rfl⟩
              refine Aa (.bool b6) J Ad<|C5 7 ((fun(b7:Bool)=>if b7 then(.ok (.inr (false))) else(.ok (.inl ()))):Bool→R (Unit ⊕ Bool)) (fun(b7:Bool) (fr:Nat→AV) (h:Ae)=>fr=A2 [(2,(.q ids 0 g)),(3,(.q ids 1 g1)),(15,(.I (j4:Int))),(336,(.bool b7))]∧h=hp h0 ids [(some (.rows g 8 [(A0 a)])),(some (.rows g1 8 [(A0 b)])),none,none,none,none,none,none,(some (.rows g8 7 [(Bs a9)])),(some (.rows g9 7 [(Bs a10)])),none,none]) ?_ fun hJ23=>Dr (fun hb46=>?_) (fun hb46=>?_)
              ·rintro b7 fr h ⟨rfl,rfl⟩
               refine Z<|B3 J (fun hc5=>?_) (fun hc5=>?_)
               ·refine Y<|O<|Aa (.bool false) J An<|Z<|Ey<|Fr<|Bq (a:=false) (vs:=[(.bool false)]) Tryz.func12 hI J (.same _)
               refine Ay<|Bn<|O<|Ac 3 [] [(15,(.I (IntKind.wrap .i64 ((j4:Int)+1))))] ?_
               refine Z<|D2 [(some (.rows g 8 [(A0 a)])),(some (.rows g1 8 [(A0 b)])),none,none,none,none,none,none,none,none,none,none] hI J (.keep (.keep (.keep (.keep (.keep (.keep (.keep (.keep (.drop (.drop (.keep (.keep .nil))))))))))))<|Bo (E0 (hW4 () _ _ ⟨J,J⟩)) (.cons J (.cons J (.cons (Dw (A7 ha9) hlim9) .nil)))
              ·refine Ax (t:=329) hb46 J<|Ac 7 [] [(336,(.bool true)),(335,.und),(334,.und),(333,.und),(332,.und),(331,.und),(330,.und)] ?_
               refine Bj<|B8 [(2,(.q ids 0 g)),(3,(.q ids 1 g1)),(15,(.I (j4:Int))),(336,(.bool true))] (FI J)<|hJ23 true _ _ ⟨J,J⟩
              refine Ax (t:=329) hb46 J<|Ac 4 [8,9] [(333,(.sl 1 (List.map (rI .i64) a10.Segments))),(332,(.ptr (ix ids 9) g9 0 6)),(331,(.sl 1 (List.map (rI .i64) a9.Segments))),(330,(.ptr (ix ids 8) g8 0 6))] ?_
              refine Bx [(.sl 1 (List.map (rI .i64) a9.Segments)),(.sl 1 (List.map (rI .i64) a10.Segments))] J (Ch (tj:=329) J J) J J ((Po a9.Segments a10.Segments) _) (fun v _=>Cc Tryz.func12 hI) fun r7 _=>Ac 2 [] [(336,(.bool (!r7))),(335,(.bool (!r7)))] ?_
              refine Bj<|B8 [(2,(.q ids 0 g)),(3,(.q ids 1 g1)),(15,(.I (j4:Int))),(336,(.bool (!r7)))] (FI J)<|hJ23 (!r7) _ _ ⟨J,J⟩
             ·refine Ax (t:=321) hb44 J<|Ac 7 [] [(328,(.bool true)),(327,.und),(326,.und),(325,.und),(324,.und),(323,.und),(322,.und)] ?_
              refine Bj<|B8 [(2,(.q ids 0 g)),(3,(.q ids 1 g1)),(15,(.I (j4:Int))),(16,(.q ids 8 g8)),(17,(.q ids 9 g9)),(328,(.bool true))] (FI J)<|hJ22 true _ _ ⟨J,J⟩
             refine Ax (t:=321) hb44 J<|Ac 4 [8,9] [(325,(.sl 1 (List.map rS a10.Names))),(324,(.ptr (ix ids 9) g9 0 5)),(323,(.sl 1 (List.map rS a9.Names))),(322,(.ptr (ix ids 8) g8 0 5))] ?_
             refine Bx [(.sl 1 (List.map rS a9.Names)),(.sl 1 (List.map rS a10.Names))] J (Ch (tj:=321) J J) J J ((O7 a9.Names a10.Names) _) (fun v _=>Cc Tryz.func12 hI) fun r6 _=>Ac 2 [] [(328,(.bool (!r6))),(327,(.bool (!r6)))] ?_
             refine Bj<|B8 [(2,(.q ids 0 g)),(3,(.q ids 1 g1)),(15,(.I (j4:Int))),(16,(.q ids 8 g8)),(17,(.q ids 9 g9)),(328,(.bool (!r6)))] (FI J)<|hJ22 (!r6) _ _ ⟨J,J⟩
            ·refine Ax (t:=314) hb42 J<|Ac 6 [] [(320,(.bool true)),(319,.und),(318,.und),(317,.und),(316,.und),(315,.und)] ?_
             exact A5 hJ21 (.cons J (.cons J (.cons J (.cons J (.cons J (.cons (D9 hb42) .nil))))))
            refine Ax (t:=314) hb42 J<|Ac 6 [8,9] [(320,(.bool (a9.To != a10.To))),(319,(.bool (a9.To != a10.To))),(318,(.I a10.To)),(317,(.ptr (ix ids 9) g9 0 4)),(316,(.I a9.To)),(315,(.ptr (ix ids 8) g8 0 4))] ?_
            exact A5 hJ21 (.cons J (.cons J (.cons J (.cons J (.cons J (.cons (Eb hb42) .nil))))))
           ·refine Ax (t:=307) hb40 J<|Ac 6 [] [(313,(.bool true)),(312,.und),(311,.und),(310,.und),(309,.und),(308,.und)] ?_
            exact A5 hJ20 (.cons J (.cons J (.cons J (.cons J (.cons J (.cons (D9 hb40) .nil))))))
           refine Ax (t:=307) hb40 J<|Ac 6 [8,9] [(313,(.bool (a9.From != a10.From))),(312,(.bool (a9.From != a10.From))),(311,(.I a10.From)),(310,(.ptr (ix ids 9) g9 0 3)),(309,(.I a9.From)),(308,(.ptr (ix ids 8) g8 0 3))] ?_
           exact A5 hJ20 (.cons J (.cons J (.cons J (.cons J (.cons J (.cons (Eb hb40) .nil))))))
          ·refine Ax (t:=300) hb38 J<|Ac 6 [] [(306,(.bool true)),(305,.und),(304,.und),(303,.und),(302,.und),(301,.und)] ?_
           exact A5 hJ19 (.cons J (.cons J (.cons J (.cons J (.cons J (.cons (D9 hb38) .nil))))))
          refine Ax (t:=300) hb38 J<|Ac 6 [8,9] [(306,(.bool (!(a9.B==a10.B)))),(305,(.bool (!(a9.B==a10.B)))),(304,(.str a10.B)),(303,(.ptr (ix ids 9) g9 0 2)),(302,(.str a9.B)),(301,(.ptr (ix ids 8) g8 0 2))] ?_
          exact A5 hJ19 (.cons J (.cons J (.cons J (.cons J (.cons J (.cons (Eb hb38) .nil))))))
         ·refine Ax (t:=293) hb36 J<|Ac 6 [] [(299,(.bool true)),(298,.und),(297,.und),(296,.und),(295,.und),(294,.und)] ?_
          exact A5 hJ18 (.cons J (.cons J (.cons J (.cons J (.cons J (.cons (D9 hb36) .nil))))))
         refine Ax (t:=293) hb36 J<|Ac 6 [8,9] [(299,(.bool (!(a9.A==a10.A)))),(298,(.bool (!(a9.A==a10.A)))),(297,(.str a10.A)),(296,(.ptr (ix ids 9) g9 0 1)),(295,(.str a9.A)),(294,(.ptr (ix ids 8) g8 0 1))] ?_
         exact A5 hJ18 (.cons J (.cons J (.cons J (.cons J (.cons J (.cons (Eb hb36) .nil))))))
        rintro _ fr h ⟨rfl,rfl⟩
        refine Al (E3 _ _ _)<|Y<|Y<|O<|Ac 3 [0] [(273,(.sl 7 (List.map Bs a.Routes))),(271,(.I (a.Routes.length:Int)))] ?_
        refine Aa (.I (a.Routes.length:Int)) J (A3 (Be Ml))<|Aa (.bool (decide ((a.Routes.length:Int)<(a.Routes.length:Int)))) J (Bc J J J)<|Z<|Cx J (Int.lt_irrefl _)<|C4 J<|Y<|Y ?_
        refine O<|Aa (.I 0) J An<|Z<|A9<|D0 [(2,(.q ids 0 g)),(3,(.q ids 1 g1)),(18,(.I 0))] (FI J)<|Ed (P:=Tryz.prog) a.Airports (fun j5 a11=>fun _=>I4 b j5 a11) ((Ds (fun _=>(each (fun j7 a15=>fun _=>Hf b j7 a15) 0 a.Classes ()).bind (Ds (fun _=>(each (fun j8 a17=>fun _=>Gk b j8 a17) 0 a.Rules ()).bind (Ds (fun _=>.ok true) (fun r=>.ok r))) (fun r=>.ok r))) (fun r=>.ok r)):(Unit ⊕ Bool)→R Bool) (fun j5=>fun _=>fun(fr:Nat→AV) (h:Ae)=>fr=A2 [(2,(.q ids 0 g)),(3,(.q ids 1 g1)),(18,(.I (j5:Int)))]∧h=hp h0 ids [(some (.rows g 8 [(A0 a)])),(some (.rows g1 8 [(A0 b)])),none,none,none,none,none,none,none,none,none,none]) () ?_ ?_ ?_
        ·exact⟨J,J⟩
        ·rintro j5 a11 ha11 W hW5 _ fr h ⟨rfl,rfl⟩
         refine Al (m':=I4 b j5 a11) J (Al (I4.eq_1 _ _ _) ?_)
         refine Y<|Y<|O<|Ac 3 [0] [(339,(.sl 2 (List.map Bd a.Airports))),(337,(.I (j5:Int)))] ?_
         refine Aa (.I (a.Airports.length:Int)) J (A3 (Be Me))<|Aa (.bool (decide ((j5:Int)<(a.Airports.length:Int)))) J (Bc J J J)<|Z<|Dz (t:=339) (L:=a.Airports) J fun hlim11=>Cw J (Int.ofNat_lt.2 (A7 ha11))<|Ay<|Y ?_
         refine A9<|Y<|O<|Ac 3 [0] [(346,(.I (j5:Int))),(345,(.sl 2 (List.map Bd a.Airports)))] ?_
         refine Aa (.cp (Bd a11) 0) J (Bt (Db Me Ic J ha11))<|Aa (.agg (Bd a11)) J (As (Cf Ic J))<|Bb (j:=10) hI J J J J Ic J fun g10=>Aq (Aw (v:=(.agg (Bd a11))) hI J J J J Ic J J J J J)<|Z<|Aj ?_
         refine Y<|O<|Ac 3 [1] [(351,(.I (j5:Int))),(350,(.sl 2 (List.map Bd b.Airports)))] ?_
         refine Ea fun a12 hz5 hx6=>Aa (.cp (Bd a12) 0) J (Bt (De Me Ic J hz5 hx6))<|Aa (.agg (Bd a12)) J (As (Cf Ic J))<|Bb (j:=11) hI J J J J Ic J fun g11=>Aq (Aw (v:=(.agg (Bd a12))) hI J J J J Ic J J J J J)<|Z<|Aj ?_
         refine Y<|Y<|O<|Ac 6 [10,11] [(359,(.bool (!(a11.Name==a12.Name))))] ?_
         refine Br 8 [(2,(.q ids 0 g)),(3,(.q ids 1 g1)),(18,(.I (j5:Int))),(19,(.q ids 10 g10)),(20,(.q ids 11 g11)),(367,(.bool ((!(a11.Name==a12.Name))||((a11.Modes.length:Int) != (a12.Modes.length:Int)))))] ?_ fun hJ24=>Bm (!(a11.Name==a12.Name)) (fun hb48=>?_) (fun hb48=>?_)
         ·refine Z<|B3 J (fun hc6=>?_) (fun hc6=>?_)
          ·refine Y<|O<|Aa (.bool false) J An<|Z<|Ey<|Fr<|Bq (a:=false) (vs:=[(.bool false)]) Tryz.func12 hI J (.same _)
          refine Ay<|Y<|O<|Aa (.I 0) J An<|Z<|A9<|D0 [(2,(.q ids 0 g)),(3,(.q ids 1 g1)),(18,(.I (j5:Int))),(19,(.q ids 10 g10)),(20,(.q ids 11 g11)),(21,(.I 0))] (FI J) ?_
          refine Ed (P:=Tryz.prog) a11.Modes (fun j6 a13=>fun _=>Px a12 j6 a13) ((Ds (fun _=>.ok (.inl ())) (fun r=>.ok (.inr (r)))):(Unit ⊕ Bool)→R (Unit ⊕ Bool)) (fun j6=>fun _=>fun(fr:Nat→AV) (h:Ae)=>fr=A2 [(2,(.q ids 0 g)),(3,(.q ids 1 g1)),(18,(.I (j5:Int))),(19,(.q ids 10 g10)),(20,(.q ids 11 g11)),(21,(.I (j6:Int)))]∧h=hp h0 ids [(some (.rows g 8 [(A0 a)])),(some (.rows g1 8 [(A0 b)])),none,none,none,none,none,none,none,none,(some (.rows g10 2 [(Bd a11)])),(some (.rows g11 2 [(Bd a12)]))]) () ?_ ?_ ?_
          ·exact⟨J,J⟩
          ·rintro j6 a13 ha13 W hW6 _ fr h ⟨rfl,rfl⟩
           refine Al (m':=Px a12 j6 a13) J (Al (Px.eq_1 _ _ _) ?_)
           refine Y<|Y<|O<|Ac 3 [10] [(370,(.sl 2 (List.map Da a11.Modes))),(368,(.I (j6:Int)))] ?_
           refine Aa (.I (a11.Modes.length:Int)) J (A3 (Be Mi))<|Aa (.bool (decide ((j6:Int)<(a11.Modes.length:Int)))) J (Bc J J J)<|Z<|Dz (t:=370) (L:=a11.Modes) J fun hlim13=>Cw J (Int.ofNat_lt.2 (A7 ha13))<|Ay<|Y ?_
           refine A9<|Y<|C2 Fa [[],[0],[],[0,1,2],[0,1,2,3],[],[5],[],[5,6,7],[5,6,7,8],[0,1,2,3,4,5,6,7,8,9]] [(false,0),(false,1),(false,2),(false,3),(false,4),(false,5),(false,6),(false,7),(false,8),(false,9),(false,10)] (by kernel_rfl)<|Ag (.ptr (ix ids 10) g10 0 1) J J (Cb (B0 (c:=0) (off:=1) (i:=1) Ic J Mi J))<|Ag (.sl 2 (List.map Da a11.Modes)) J J (As (Ba hI J J J Mi J))<|Ag (.I (j6:Int)) J J Ad<|Ag (.cp (Da a13) 0) J J (Bt (Db Mi Nx J ha13)) ?_
           refine Ag (.agg (Da a13)) J J (As (Cf Nx J))<|Ag (.ptr (ix ids 11) g11 0 1) J J (Cb (B0 (c:=0) (off:=1) (i:=1) Ic J Mi J))<|Ag (.sl 2 (List.map Da a12.Modes)) J J (As (Ba hI J J J Mi J))<|Ag (.I (j6:Int)) J J Ad<|Nr fun a14 hz6 hx7=>Ag (.cp (Da a14) 0) J J (Bt (De Mi Nx J hz6 hx7))<|Ag (.agg (Da a14)) J J (As (Cf Nx J)) ?_
           refine Ag (.bool (!((a13.Name==a14.Name)&&(a13.Places==a14.Places)))) J J (Bc (Ahe J J) J Agt)<|Cl<|Dx J (fun hc7=>?_) (fun hc7=>?_)
           ·refine Ay<|Bn<|O<|Ac 3 [] [(21,(.I (IntKind.wrap .i64 ((j6:Int)+1))))] ?_
            refine Z<|Bo (E0 (hW6 () _ _ ⟨J,J⟩)) (.cons J (.cons J (.cons J (.cons J (.cons J (.cons (Dw (A7 ha13) hlim13) .nil))))))
           refine Y<|O<|Aa (.bool false) J An<|Z<|Ey<|Fr<|Ey ?_
           refine Fr<|Bq (a:=false) (vs:=[(.bool false)]) Tryz.func12 hI J (.same _)
          rintro _ fr h ⟨rfl,rfl⟩
          refine Al (E3 _ _ _)<|Y<|Y<|O<|Ac 3 [10] [(370,(.sl 2 (List.map Da a11.Modes))),(368,(.I (a11.Modes.length:Int)))] ?_
          refine Aa (.I (a11.Modes.length:Int)) J (A3 (Be Mi))<|Aa (.bool (decide ((a11.Modes.length:Int)<(a11.Modes.length:Int)))) J (Bc J J J)<|Z<|Cx J (Int.lt_irrefl _)<|C4 J<|Bn<|O ?_
          refine Ac 3 [] [(18,(.I (IntKind.wrap .i64 ((j5:Int)+1))))] ?_
          refine Z<|D2 [(some (.rows g 8 [(A0 a)])),(some (.rows g1 8 [(A0 b)])),none,none,none,none,none,none,none,none,none,none] hI J (.keep (.keep (.keep (.keep (.keep (.keep (.keep (.keep (.keep (.keep (.drop (.drop .nil))))))))))))<|Bo (E0 (hW5 () _ _ ⟨J,J⟩)) (.cons J (.cons J (.cons (Dw (A7 ha11) hlim11) .nil)))
         ·refine Ax (t:=359) hb48 J<|Ac 8 [] [(367,(.bool true)),(366,.und),(365,.und),(364,.und),(363,.und),(362,.und),(361,.und),(360,.und)] ?_
          exact A5 hJ24 (.cons J (.cons J (.cons J (.cons J (.cons J (.cons (D9 hb48) .nil))))))
         refine Ax (t:=359) hb48 J<|Ac 2 [10] [(361,(.sl 2 (List.map Da a11.Modes))),(360,(.ptr (ix ids 10) g10 0 1))] ?_
         refine By (tj:=359) (.I (a11.Modes.length:Int)) J J J (A3 (Be Mi))<|Ac 2 [11] [(364,(.sl 2 (List.map Da a12.Modes))),(363,(.ptr (ix ids 11) g11 0 1))] ?_
         refine By (tj:=359) (.I (a12.Modes.length:Int)) J J J (A3 (Be Mi))<|Ac 2 [] [(367,(.bool ((a11.Modes.length:Int) != (a12.Modes.length:Int)))),(366,(.bool ((a11.Modes.length:Int) != (a12.Modes.length:Int))))] ?_
         exact A5 hJ24 (.cons J (.cons J (.cons J (.cons J (.cons J (.cons (Eb hb48) .nil))))))
        rintro _ fr h ⟨rfl,rfl⟩
        refine Al (E3 _ _ _)<|Y<|Y<|O<|Ac 3 [0] [(339,(.sl 2 (List.map Bd a.Airports))),(337,(.I (a.Airports.length:Int)))] ?_
        refine Aa (.I (a.Airports.length:Int)) J (A3 (Be Me))<|Aa (.bool (decide ((a.Airports.length:Int)<(a.Airports.length:Int)))) J (Bc J J J)<|Z<|Cx J (Int.lt_irrefl _)<|C4 J<|Y<|Y ?_
        refine O<|Aa (.I 0) J An<|Z<|A9<|D0 [(2,(.q ids 0 g)),(3,(.q ids 1 g1)),(22,(.I 0))] (FI J)<|Ed (P:=Tryz.prog) a.Classes (fun j7 a15=>fun _=>Hf b j7 a15) ((Ds (fun _=>(each (fun j8 a17=>fun _=>Gk b j8 a17) 0 a.Rules ()).bind (Ds (fun _=>.ok true) (fun r=>.ok r))) (fun r=>.ok r)):(Unit ⊕ Bool)→R Bool) (fun j7=>fun _=>fun(fr:Nat→AV) (h:Ae)=>fr=A2 [(2,(.q ids 0 g)),(3,(.q ids 1 g1)),(22,(.I (j7:Int)))]∧h=hp h0 ids [(some (.rows g 8 [(A0 a)])),(some (.rows g1 8 [(A0 b)])),none,none,none,none,none,none,none,none,none,none]) () ?_ ?_ ?_
        ·exact⟨J,J⟩
        ·rintro j7 a15 ha15 W hW7 _ fr h ⟨rfl,rfl⟩
         refine Al (m':=Hf b j7 a15) J (Al (Hf.eq_1 _ _ _) ?_)
         refine Y<|Y<|O<|Ac 3 [0] [(388,(.sl 4 (List.map B6 a.Classes))),(386,(.I (j7:Int)))] ?_
         refine Aa (.I (a.Classes.length:Int)) J (A3 (Be Ld))<|Aa (.bool (decide ((j7:Int)<(a.Classes.length:Int)))) J (Bc J J J)<|Z<|Dz (t:=388) (L:=a.Classes) J fun hlim15=>Cw J (Int.ofNat_lt.2 (A7 ha15))<|Ay<|Y ?_
         refine A9<|Y<|C2 Fa [[],[0],[],[0,1,2],[0,1,2,3],[],[5],[],[5,6,7],[5,6,7,8],[0,1,2,3,4,5,6,7,8,9]] [(false,0),(false,1),(false,2),(false,3),(false,4),(false,5),(false,6),(false,7),(false,8),(false,9),(false,10)] (by kernel_rfl)<|Ag (.ptr (ix ids 0) g 0 6) J J (Cb (B0 (c:=0) (off:=6) (i:=6) Eh J Ld J))<|Ag (.sl 4 (List.map B6 a.Classes)) J J (As (Ba hI J J J Ld J))<|Ag (.I (j7:Int)) J J Ad<|Ag (.cp (B6 a15) 0) J J (Bt (Db Ld K9 J ha15)) ?_
         refine Ag (.agg (B6 a15)) J J (As (Cf K9 J))<|Ag (.ptr (ix ids 1) g1 0 6) J J (Cb (B0 (c:=0) (off:=6) (i:=6) Eh J Ld J))<|Ag (.sl 4 (List.map B6 b.Classes)) J J (As (Ba hI J J J Ld J))<|Ag (.I (j7:Int)) J J Ad<|Nr fun a16 hz7 hx8=>Ag (.cp (B6 a16) 0) J J (Bt (De Ld K9 J hz7 hx8))<|Ag (.agg (B6 a16)) J J (As (Cf K9 J)) ?_
         refine Ag (.bool (!((a15.Name==a16.Name)&&((a15.Slow==a16.Slow)&&((a15.Fast==a16.Fast)&&(a15.Places==a16.Places)))))) J J (Bc (Agm J J) J Agn)<|Cl<|Dx J (fun hc8=>?_) (fun hc8=>?_)
         ·refine Ay<|Bn<|O<|Ac 3 [] [(22,(.I (IntKind.wrap .i64 ((j7:Int)+1))))] ?_
          refine Z<|Bo (E0 (hW7 () _ _ ⟨J,J⟩)) (.cons J (.cons J (.cons (Dw (A7 ha15) hlim15) .nil)))
         refine Y<|O<|Aa (.bool false) J An<|Z<|Ey<|Fr<|Bq (a:=false) (vs:=[(.bool false)]) Tryz.func12 hI J (.same _)
        rintro _ fr h ⟨rfl,rfl⟩
        refine Al (E3 _ _ _)<|Y<|Y<|O<|Ac 3 [0] [(388,(.sl 4 (List.map B6 a.Classes))),(386,(.I (a.Classes.length:Int)))] ?_
        refine Aa (.I (a.Classes.length:Int)) J (A3 (Be Ld))<|Aa (.bool (decide ((a.Classes.length:Int)<(a.Classes.length:Int)))) J (Bc J J J)<|Z<|Cx J (Int.lt_irrefl _)<|C4 J<|Y<|Y ?_
        refine O<|Aa (.I 0) J An<|Z<|A9<|D0 [(2,(.q ids 0 g)),(3,(.q ids 1 g1)),(23,(.I 0))] (FI J)<|Ed (P:=Tryz.prog) a.Rules (fun j8 a17=>fun _=>Gk b j8 a17) ((Ds (fun _=>.ok true) (fun r=>.ok r)):(Unit ⊕ Bool)→R Bool) (fun j8=>fun _=>fun(fr:Nat→AV) (h:Ae)=>fr=A2 [(2,(.q ids 0 g)),(3,(.q ids 1 g1)),(23,(.I (j8:Int)))]∧h=hp h0 ids [(some (.rows g 8 [(A0 a)])),(some (.rows g1 8 [(A0 b)])),none,none,none,none,none,none,none,none,none,none]) () ?_ ?_ ?_
        ·exact⟨J,J⟩
        ·rintro j8 a17 ha17 W hW8 _ fr h ⟨rfl,rfl⟩
         refine Al (m':=Gk b j8 a17) J (Al (Gk.eq_1 _ _ _) ?_)
         refine Y<|Y<|O<|Ac 3 [0] [(406,(.sl 8 (List.map A4 a.Rules))),(404,(.I (j8:Int)))] ?_
         refine Aa (.I (a.Rules.length:Int)) J (A3 (Be E7))<|Aa (.bool (decide ((j8:Int)<(a.Rules.length:Int)))) J (Bc J J J)<|Z<|Dz (t:=406) (L:=a.Rules) J fun hlim17=>Cw J (Int.ofNat_lt.2 (A7 ha17))<|Ay<|Y ?_
         refine A9<|Y<|C2 Fa [[],[0],[],[0,1,2],[0,1,2,3],[],[5],[],[5,6,7],[5,6,7,8],[0,1,2,3,4,5,6,7,8,9]] [(false,0),(false,1),(false,2),(false,3),(false,4),(false,5),(false,6),(false,7),(false,8),(false,9),(false,10)] (by kernel_rfl)<|Ag (.ptr (ix ids 0) g 0 7) J J (Cb (B0 (c:=0) (off:=7) (i:=7) Eh J E7 J))<|Ag (.sl 8 (List.map A4 a.Rules)) J J (As (Ba hI J J J E7 J))<|Ag (.I (j8:Int)) J J Ad<|Ag (.cp (A4 a17) 0) J J (Bt (Db E7 Dk J ha17)) ?_
         refine Ag (.agg (A4 a17)) J J (As (Cf Dk J))<|Ag (.ptr (ix ids 1) g1 0 7) J J (Cb (B0 (c:=0) (off:=7) (i:=7) Eh J E7 J))<|Ag (.sl 8 (List.map A4 b.Rules)) J J (As (Ba hI J J J E7 J))<|Ag (.I (j8:Int)) J J Ad<|Nr fun a18 hz8 hx9=>Ag (.cp (A4 a18) 0) J J (Bt (De E7 Dk J hz8 hx9))<|Ag (.agg (A4 a18)) J J (As (Cf Dk J)) ?_
         refine Ag (.bool (!((a17.Kind==a18.Kind)&&((a17.C==a18.C)&&((a17.A==a18.A)&&((a17.Class==a18.Class)&&((a17.Airport==a18.Airport)&&((a17.N==a18.N)&&((a17.Hours.From==a18.Hours.From)&&(a17.Hours.To==a18.Hours.To)))))))))) J J (Bc (Acw J J) J Acb)<|Cl<|Dx J (fun hc9=>?_) (fun hc9=>?_)
         ·refine Ay<|Bn<|O<|Ac 3 [] [(23,(.I (IntKind.wrap .i64 ((j8:Int)+1))))] ?_
          refine Z<|Bo (E0 (hW8 () _ _ ⟨J,J⟩)) (.cons J (.cons J (.cons (Dw (A7 ha17) hlim17) .nil)))
         refine Y<|O<|Aa (.bool false) J An<|Z<|Ey<|Fr<|Bq (a:=false) (vs:=[(.bool false)]) Tryz.func12 hI J (.same _)
        rintro _ fr h ⟨rfl,rfl⟩
        refine Al (E3 _ _ _)<|Y<|Y<|O<|Ac 3 [0] [(406,(.sl 8 (List.map A4 a.Rules))),(404,(.I (a.Rules.length:Int)))] ?_
        refine Aa (.I (a.Rules.length:Int)) J (A3 (Be E7))<|Aa (.bool (decide ((a.Rules.length:Int)<(a.Rules.length:Int)))) J (Bc J J J)<|Z<|Cx J (Int.lt_irrefl _)<|C4 J<|Y<|O ?_
        refine Aa (.bool true) J An<|Z<|Bq (a:=true) (vs:=[(.bool true)]) Tryz.func12 hI J (.same _)
       ·refine Ax (t:=85) hb13 J<|Ac 8 [] [(93,(.bool true))] ?_
        exact A5 hJ6 (.cons J (.cons J (.cons (D9 hb13) .nil)))
       refine Ax (t:=85) hb13 J<|Ac 2 [0] [(87,(.sl 8 (List.map A4 a.Rules)))] ?_
       refine By (tj:=85) (.I (a.Rules.length:Int)) J J J (A3 (Be E7))<|Ac 2 [1] [(90,(.sl 8 (List.map A4 b.Rules)))] ?_
       refine By (tj:=85) (.I (b.Rules.length:Int)) J J J (A3 (Be E7))<|Ac 2 [] [(93,(.bool ((a.Rules.length:Int) != (b.Rules.length:Int))))] ?_
       exact A5 hJ6 (.cons J (.cons J (.cons (Eb hb13) .nil)))
      ·refine Ax (t:=76) hb11 J<|Ac 8 [] [(84,(.bool true))] ?_
       exact A5 hJ5 (.cons J (.cons J (.cons (D9 hb11) .nil)))
      refine Ax (t:=76) hb11 J<|Ac 2 [0] [(78,(.sl 4 (List.map B6 a.Classes)))] ?_
      refine By (tj:=76) (.I (a.Classes.length:Int)) J J J (A3 (Be Ld))<|Ac 2 [1] [(81,(.sl 4 (List.map B6 b.Classes)))] ?_
      refine By (tj:=76) (.I (b.Classes.length:Int)) J J J (A3 (Be Ld))<|Ac 2 [] [(84,(.bool ((a.Classes.length:Int) != (b.Classes.length:Int))))] ?_
      exact A5 hJ5 (.cons J (.cons J (.cons (Eb hb11) .nil)))
     ·refine Ax (t:=67) hb9 J<|Ac 8 [] [(75,(.bool true))] ?_
      exact A5 hJ4 (.cons J (.cons J (.cons (D9 hb9) .nil)))
     refine Ax (t:=67) hb9 J<|Ac 2 [0] [(69,(.sl 2 (List.map Bd a.Airports)))] ?_
     refine By (tj:=67) (.I (a.Airports.length:Int)) J J J (A3 (Be Me))<|Ac 2 [1] [(72,(.sl 2 (List.map Bd b.Airports)))] ?_
     refine By (tj:=67) (.I (b.Airports.length:Int)) J J J (A3 (Be Me))<|Ac 2 [] [(75,(.bool ((a.Airports.length:Int) != (b.Airports.length:Int))))] ?_
     exact A5 hJ4 (.cons J (.cons J (.cons (Eb hb9) .nil)))
    ·refine Ax (t:=58) hb7 J<|Ac 8 [] [(66,(.bool true))] ?_
     exact A5 hJ3 (.cons J (.cons J (.cons (D9 hb7) .nil)))
    refine Ax (t:=58) hb7 J<|Ac 2 [0] [(60,(.sl 7 (List.map Bs a.Routes)))] ?_
    refine By (tj:=58) (.I (a.Routes.length:Int)) J J J (A3 (Be Ml))<|Ac 2 [1] [(63,(.sl 7 (List.map Bs b.Routes)))] ?_
    refine By (tj:=58) (.I (b.Routes.length:Int)) J J J (A3 (Be Ml))<|Ac 2 [] [(66,(.bool ((a.Routes.length:Int) != (b.Routes.length:Int))))] ?_
    exact A5 hJ3 (.cons J (.cons J (.cons (Eb hb7) .nil)))
   ·refine Ax (t:=49) hb5 J<|Ac 8 [] [(57,(.bool true))] ?_
    exact A5 hJ2 (.cons J (.cons J (.cons (D9 hb5) .nil)))
   refine Ax (t:=49) hb5 J<|Ac 2 [0] [(51,(.sl 5 (List.map Bf a.Segments)))] ?_
   refine By (tj:=49) (.I (a.Segments.length:Int)) J J J (A3 (Be Mn))<|Ac 2 [1] [(54,(.sl 5 (List.map Bf b.Segments)))] ?_
   refine By (tj:=49) (.I (b.Segments.length:Int)) J J J (A3 (Be Mn))<|Ac 2 [] [(57,(.bool ((a.Segments.length:Int) != (b.Segments.length:Int))))] ?_
   exact A5 hJ2 (.cons J (.cons J (.cons (Eb hb5) .nil)))
  ·refine Ax (t:=40) hb3 J<|Ac 8 [] [(48,(.bool true))] ?_
   exact A5 hJ1 (.cons J (.cons J (.cons (D9 hb3) .nil)))
  refine Ax (t:=40) hb3 J<|Ac 2 [0] [(42,(.sl 3 (List.map Bl a.Configs)))] ?_
  refine By (tj:=40) (.I (a.Configs.length:Int)) J J J (A3 (Be Mm))<|Ac 2 [1] [(45,(.sl 3 (List.map Bl b.Configs)))] ?_
  refine By (tj:=40) (.I (b.Configs.length:Int)) J J J (A3 (Be Mm))<|Ac 2 [] [(48,(.bool ((a.Configs.length:Int) != (b.Configs.length:Int))))] ?_
  exact A5 hJ1 (.cons J (.cons J (.cons (Eb hb3) .nil)))
 ·refine Ax (t:=31) hb1 J<|Ac 8 [] [(39,(.bool true))] ?_
  exact A5 hJ (.cons J (.cons J (.cons (D9 hb1) .nil)))
 refine Ax (t:=31) hb1 J<|Ac 2 [0] [(33,(.sl 5 (List.map A8 a.Sectors)))] ?_
 refine By (tj:=31) (.I (a.Sectors.length:Int)) J J J (A3 (Be Lb))<|Ac 2 [1] [(36,(.sl 5 (List.map A8 b.Sectors)))] ?_
 refine By (tj:=31) (.I (b.Sectors.length:Int)) J J J (A3 (Be Lb))<|Ac 2 [] [(39,(.bool ((a.Sectors.length:Int) != (b.Sectors.length:Int))))] ?_
 exact A5 hJ (.cons J (.cons J (.cons (Eb hb1) .nil)))
theorem Qt (s1:List Span)(s2:List Span):CP Tryz.prog 64 [(.sl 2 (List.map B4 s1)),(.sl 2 (List.map B4 s2))] (Nc s1 s2) (fun(x:Bool)=>(AV.bool x)):=by
 refine Cq (n:=26) 0 Tryz.func64 J (by decide) J J fun h0 ids hI=>Bk (Al (Nc.eq_1 _ _) ?_)
 refine Y<|O<|Aa (.bool false) J An<|Z<|Y<|Y<|O ?_
 refine Aa (.sl 2 (List.map B4 s1)) J Ad<|Aa (.I (s1.length:Int)) J (A3 (Be La))<|Aa (.sl 2 (List.map B4 s2)) J Ad<|Aa (.I (s2.length:Int)) J (A3 (Be La))<|Aa (.bool ((s1.length:Int) != (s2.length:Int))) J (Bc J J J)<|Z<|B3 J (fun hc=>?_) (fun hc=>?_)
 ·refine Y<|O<|Aa (.bool false) J An<|Z<|Bq (a:=false) (vs:=[(.bool false)]) Tryz.func64 hI J (.same _)
 refine Ay<|Y<|Y<|O<|Aa (.sl 2 (List.map B4 s1)) J Ad<|Aa (.I (s1.length:Int)) J (A3 (Be La))<|Aa (.I 0) J Ad ?_
 refine Z<|A9<|D0 [(0,(.sl 2 (List.map B4 s1))),(1,(.sl 2 (List.map B4 s2))),(12,(.I (s1.length:Int))),(13,(.I 0))] (FI J)<|Ed (P:=Tryz.prog) s1 (fun j a=>fun _=>L4 s2 j a) ((Ds (fun _=>.ok true) (fun r=>.ok r)):(Unit ⊕ Bool)→R Bool) (fun j=>fun _=>fun(fr:Nat→AV) (h:Ae)=>fr=A2 [(0,(.sl 2 (List.map B4 s1))),(1,(.sl 2 (List.map B4 s2))),(12,(.I (s1.length:Int))),(13,(.I (j:Int)))]∧h=hp h0 ids []) () ?_ ?_ ?_
 ·exact⟨J,J⟩
 ·rintro j a ha W hW _ fr h ⟨rfl,rfl⟩
  refine Al (m':=L4 s2 j a) J (Al (L4.eq_1 _ _ _) ?_)
  refine Y<|O<|Aa (.bool (decide ((j:Int)<(s1.length:Int)))) J (Bc J J J)<|Z<|Y<|Dz (t:=0) (L:=s1) J fun hlim=>Cw J (Int.ofNat_lt.2 (A7 ha)) ?_
  refine Ay<|Y<|A9<|Y<|O<|Ac 2 [] [(5,(.I (j:Int)))] ?_
  refine Z<|Y<|C2 Fa [[],[],[0,1],[0,1,2],[],[],[4,5],[4,5,6],[0,1,2,3,4,5,6,7]] [(false,0),(false,1),(false,2),(false,3),(false,4),(false,5),(false,6),(false,7),(false,8)] (by kernel_rfl)<|Ag (.sl 2 (List.map B4 s1)) J J Ad<|Ag (.I (j:Int)) J J Ad<|Ag (.cp (B4 a) 0) J J (Bt (Db La Kd J ha))<|Ag (.agg (B4 a)) J J (As (Cf Kd J)) ?_
  refine Ag (.sl 2 (List.map B4 s2)) J J Ad<|Ag (.I (j:Int)) J J Ad<|Nr fun a1 hz hx1=>Ag (.cp (B4 a1) 0) J J (Bt (De La Kd J hz hx1))<|Ag (.agg (B4 a1)) J J (As (Cf Kd J))<|Ag (.bool (!((a.From==a1.From)&&(a.To==a1.To)))) J J (Bc (Ag3 J J) J Ahu)<|Cl ?_
  refine Dx J (fun hc1=>?_) (fun hc1=>?_)
  ·refine Ay<|Bn<|O<|Ac 2 [] [(13,(.I (IntKind.wrap .i64 ((j:Int)+1))))] ?_
   refine Z<|Bo (E0 (hW () _ _ ⟨J,J⟩)) (.cons J (.cons J (.cons J (.cons (Dw (A7 ha) hlim) .nil))))
  refine Y<|O<|Aa (.bool false) J An<|Z<|Ey<|Fr<|Bq (a:=false) (vs:=[(.bool false)]) Tryz.func64 hI J (.same _)
 rintro _ fr h ⟨rfl,rfl⟩
 refine Al (E3 _ _ _)<|Y<|O<|Aa (.bool (decide ((s1.length:Int)<(s1.length:Int)))) J (Bc J J J)<|Z<|Y<|Cx J (Int.lt_irrefl _) ?_
 refine C4 J<|Y<|O<|Aa (.bool true) J An<|Z<|Bq (a:=true) (vs:=[(.bool true)]) Tryz.func64 hI J (.same _)
end Go.Am
namespace Go.Am
open Go Go.Proofs
set_option maxRecDepth 100000
set_option maxHeartbeats 4000000
set_option linter.unusedSimpArgs false
set_option linter.unusedVariables false
theorem Ys (a:Volume)(y:Volume):CP Tryz.prog 63 [(.agg (Ar a)),(.agg (Ar y))] (Rl a y) (fun(x:Bool)=>(AV.bool x)):=by
 refine Cq (n:=17) 2 Tryz.func63 J (by decide) J J fun h0 ids hI=>Bk (Al (Rl.eq_1 _ _) ?_)
 refine Y<|O<|Ck (v:=(.agg (Ar a))) (j:=0) hI J J J J J J J fun g=>Ck (v:=(.agg (Ar y))) (j:=1) hI J J J J J J J fun g1=>Aa (.bool false) J An<|Z<|Aj ?_
 refine Y<|O<|Ac 6 [0,1] [(10,(.bool (a.Name==y.Name)))] ?_
 refine C5 6 ((fun(b:Bool)=>.ok b):Bool→R Bool) (fun(b:Bool) (fr:Nat→AV) (h:Ae)=>fr=A2 [(16,(.bool b))]∧h=hp h0 ids [(some (.rows g 2 [(Ar a)])),(some (.rows g1 2 [(Ar y)]))]) ?_ fun hJ=>Dr (fun hb1=>?_) (fun hb1=>?_)
 ·rintro b fr h ⟨rfl,rfl⟩
  refine Aa (.bool b) J An<|Z<|Bq (a:=b) (vs:=[(.bool b)]) Tryz.func63 hI J (.same _)
 ·refine Ax (t:=10) hb1 J<|Ac 4 [0,1] [(14,(.sl 2 (List.map B4 y.Closed))),(12,(.sl 2 (List.map B4 a.Closed)))] ?_
  refine Bx [(.sl 2 (List.map B4 a.Closed)),(.sl 2 (List.map B4 y.Closed))] J (Ch (tj:=10) J J) J J ((Qt a.Closed y.Closed) _) (fun v _=>Cc Tryz.func63 hI) fun r _=>Aa (.bool r) J (Eg (t:=true) J J)<|Bj<|B8 [(16,(.bool r))] (FI J)<|hJ r _ _ ⟨J,J⟩
 refine Ax (t:=10) hb1 J<|Ac 6 [] [(16,(.bool false))] ?_
 refine Bj<|B8 [(16,(.bool false))] (FI J)<|hJ false _ _ ⟨J,J⟩
theorem K5 (s1:List Volume)(s2:List Volume):CP Tryz.prog 62 [(.sl 2 (List.map Ar s1)),(.sl 2 (List.map Ar s2)),(.func (.func 63) [] [])] (Et s1 s2) (fun(x:Bool)=>(AV.bool x)):=by
 refine Cq (n:=32) 2 Tryz.func62 J (by decide) J J fun h0 ids hI=>Bk (Al (Et.eq_1 _ _) ?_)
 refine Y<|O<|Aa (.bool false) J An<|Z<|Y<|Y<|O ?_
 refine Aa (.sl 2 (List.map Ar s1)) J Ad<|Aa (.I (s1.length:Int)) J (A3 (Be Ib))<|Aa (.sl 2 (List.map Ar s2)) J Ad<|Aa (.I (s2.length:Int)) J (A3 (Be Ib))<|Aa (.bool ((s1.length:Int) != (s2.length:Int))) J (Bc J J J)<|Z<|B3 J (fun hc=>?_) (fun hc=>?_)
 ·refine Y<|O<|Aa (.bool false) J An<|Z<|Bq (a:=false) (vs:=[(.bool false)]) Tryz.func62 hI J (.same _)
 refine Ay<|Y<|Y<|O<|Aa (.sl 2 (List.map Ar s1)) J Ad<|Aa (.I (s1.length:Int)) J (A3 (Be Ib))<|Aa (.I 0) J Ad ?_
 refine Z<|A9<|D0 [(1,(.sl 2 (List.map Ar s2))),(2,(.func (.func 63) [] [])),(15,(.sl 2 (List.map Ar s1))),(16,(.I (s1.length:Int))),(17,(.I 0))] (FI J)<|Ed (P:=Tryz.prog) s1 (fun j a=>fun _=>Dm s2 j a) ((Ds (fun _=>.ok true) (fun r=>.ok r)):(Unit ⊕ Bool)→R Bool) (fun j=>fun _=>fun(fr:Nat→AV) (h:Ae)=>fr=A2 [(1,(.sl 2 (List.map Ar s2))),(2,(.func (.func 63) [] [])),(15,(.sl 2 (List.map Ar s1))),(16,(.I (s1.length:Int))),(17,(.I (j:Int)))]∧h=hp h0 ids [none,none]) () ?_ ?_ ?_
 ·exact⟨J,J⟩
 ·rintro j a ha W hW _ fr h ⟨rfl,rfl⟩
  refine Al (m':=Dm s2 j a) J (Al (Dm.eq_1 _ _ _) ?_)
  refine Y<|O<|Aa (.bool (decide ((j:Int)<(s1.length:Int)))) J (Bc J J J)<|Z<|Y<|Dz (t:=15) (L:=s1) J fun hlim=>Cw J (Int.ofNat_lt.2 (A7 ha)) ?_
  refine Ay<|Y<|A9<|Y<|O<|Aa (.I (j:Int)) J Ad<|Aa (.cp (Ar a) 0) J (Bt (Db Ib I8 J ha)) ?_
  refine Aa (.agg (Ar a)) J (As (Cf I8 J))<|Bb (j:=0) hI J J J J I8 J fun g=>Aa (.I (j:Int)) J An<|Aq (Aw (v:=(.agg (Ar a))) hI J J J J I8 J J J J J)<|Z<|Aj ?_
  refine Y<|O<|Ac 2 [] [(23,(.I (j:Int))),(22,(.sl 2 (List.map Ar s2)))] ?_
  refine Ea fun a1 hz hx1=>Aa (.cp (Ar a1) 0) J (Bt (De Ib I8 J hz hx1))<|Aa (.agg (Ar a1)) J (As (Cf I8 J))<|Bb (j:=1) hI J J J J I8 J fun g1=>Aq (Aw (v:=(.agg (Ar a1))) hI J J J J I8 J J J J J)<|Z<|Aj ?_
  refine Y<|O<|Ac 3 [0,1] [(28,(.agg (Ar a1))),(27,(.agg (Ar a))),(26,(.func (.func 63) [] []))] ?_
  refine Bx [(.agg (Ar a)),(.agg (Ar a1))] J J J J ((Ys a a1) _) (fun v _=>Cc Tryz.func62 hI) fun r _=>Aa (.bool (!r)) J (Pl J)<|Z<|Dx J (fun hc1=>?_) (fun hc1=>?_)
  ·refine Ay<|Bn<|O<|Ac 2 [] [(17,(.I (IntKind.wrap .i64 ((j:Int)+1))))] ?_
   refine Z<|D2 [none,none] hI J (.drop (.drop .nil))<|Bo (E0 (hW () _ _ ⟨J,J⟩)) (.cons J (.cons J (.cons J (.cons J (.cons (Dw (A7 ha) hlim) .nil)))))
  refine Y<|O<|Aa (.bool false) J An<|Z<|Ey<|Fr<|Bq (a:=false) (vs:=[(.bool false)]) Tryz.func62 hI J (.same _)
 rintro _ fr h ⟨rfl,rfl⟩
 refine Al (E3 _ _ _)<|Y<|O<|Aa (.bool (decide ((s1.length:Int)<(s1.length:Int)))) J (Bc J J J)<|Z<|Y<|Cx J (Int.lt_irrefl _) ?_
 refine C4 J<|Y<|O<|Aa (.bool true) J An<|Z<|Bq (a:=true) (vs:=[(.bool true)]) Tryz.func62 hI J (.same _)
theorem M9 (s1:List Av)(s2:List Av):CP Tryz.prog 67 [(.sl 1 (List.map rS s1)),(.sl 1 (List.map rS s2))] (Kq s1 s2) (fun(x:Bool)=>(AV.bool x)):=by
 refine Cq (n:=26) 0 Tryz.func67 J (by decide) J J fun h0 ids hI=>Bk (Al (Kq.eq_1 _ _) ?_)
 refine Y<|O<|Aa (.bool false) J An<|Z<|Y<|Y<|O ?_
 refine Aa (.sl 1 (List.map rS s1)) J Ad<|Aa (.I (s1.length:Int)) J (A3 (Be Dl))<|Aa (.sl 1 (List.map rS s2)) J Ad<|Aa (.I (s2.length:Int)) J (A3 (Be Dl))<|Aa (.bool ((s1.length:Int) != (s2.length:Int))) J (Bc J J J)<|Z<|B3 J (fun hc=>?_) (fun hc=>?_)
 ·refine Y<|O<|Aa (.bool false) J An<|Z<|Bq (a:=false) (vs:=[(.bool false)]) Tryz.func67 hI J (.same _)
 refine Ay<|Y<|Y<|O<|Aa (.sl 1 (List.map rS s1)) J Ad<|Aa (.I (s1.length:Int)) J (A3 (Be Dl))<|Aa (.I 0) J Ad ?_
 refine Z<|A9<|D0 [(0,(.sl 1 (List.map rS s1))),(1,(.sl 1 (List.map rS s2))),(12,(.I (s1.length:Int))),(13,(.I 0))] (FI J)<|Ed (P:=Tryz.prog) s1 (fun j a=>fun _=>K0 s2 j a) ((Ds (fun _=>.ok true) (fun r=>.ok r)):(Unit ⊕ Bool)→R Bool) (fun j=>fun _=>fun(fr:Nat→AV) (h:Ae)=>fr=A2 [(0,(.sl 1 (List.map rS s1))),(1,(.sl 1 (List.map rS s2))),(12,(.I (s1.length:Int))),(13,(.I (j:Int)))]∧h=hp h0 ids []) () ?_ ?_ ?_
 ·exact⟨J,J⟩
 ·rintro j a ha W hW _ fr h ⟨rfl,rfl⟩
  refine Al (m':=K0 s2 j a) J (Al (K0.eq_1 _ _ _) ?_)
  refine Y<|O<|Aa (.bool (decide ((j:Int)<(s1.length:Int)))) J (Bc J J J)<|Z<|Y<|Dz (t:=0) (L:=s1) J fun hlim=>Cw J (Int.ofNat_lt.2 (A7 ha)) ?_
  refine Ay<|Y<|A9<|Y<|O<|Ac 2 [] [(5,(.I (j:Int)))] ?_
  refine Z<|Y<|C2 Fa [[],[],[0,1],[0,1,2],[],[],[4,5],[4,5,6],[0,1,2,3,4,5,6,7]] [(false,0),(false,1),(false,2),(false,3),(false,4),(false,5),(false,6),(false,7),(false,8)] (by kernel_rfl)<|Ag (.sl 1 (List.map rS s1)) J J Ad<|Ag (.I (j:Int)) J J Ad<|Ag (.cp [(.str a)] 0) J J (Bt (Db Dl Cg J ha))<|Ag (.str a) J J (As (Cf Cg J)) ?_
  refine Ag (.sl 1 (List.map rS s2)) J J Ad<|Ag (.I (j:Int)) J J Ad<|Nr fun a1 hz hx1=>Ag (.cp [(.str a1)] 0) J J (Bt (De Dl Cg J hz hx1))<|Ag (.str a1) J J (As (Cf Cg J))<|Ag (.bool (!(a==a1))) J J (Bc J J J)<|Cl ?_
  refine Dx J (fun hc1=>?_) (fun hc1=>?_)
  ·refine Ay<|Bn<|O<|Ac 2 [] [(13,(.I (IntKind.wrap .i64 ((j:Int)+1))))] ?_
   refine Z<|Bo (E0 (hW () _ _ ⟨J,J⟩)) (.cons J (.cons J (.cons J (.cons (Dw (A7 ha) hlim) .nil))))
  refine Y<|O<|Aa (.bool false) J An<|Z<|Ey<|Fr<|Bq (a:=false) (vs:=[(.bool false)]) Tryz.func67 hI J (.same _)
 rintro _ fr h ⟨rfl,rfl⟩
 refine Al (E3 _ _ _)<|Y<|O<|Aa (.bool (decide ((s1.length:Int)<(s1.length:Int)))) J (Bc J J J)<|Z<|Y<|Cx J (Int.lt_irrefl _) ?_
 refine C4 J<|Y<|O<|Aa (.bool true) J An<|Z<|Bq (a:=true) (vs:=[(.bool true)]) Tryz.func67 hI J (.same _)
theorem On (s1:List Int)(s2:List Int):CP Tryz.prog 68 [(.sl 1 (List.map (rI .i64) s1)),(.sl 1 (List.map (rI .i64) s2))] (Hb s1 s2) (fun(x:Bool)=>(AV.bool x)):=by
 refine Cq (n:=26) 0 Tryz.func68 J (by decide) J J fun h0 ids hI=>Bk (Al (Hb.eq_1 _ _) ?_)
 refine Y<|O<|Aa (.bool false) J An<|Z<|Y<|Y<|O ?_
 refine Aa (.sl 1 (List.map (rI .i64) s1)) J Ad<|Aa (.I (s1.length:Int)) J (A3 (Be O4))<|Aa (.sl 1 (List.map (rI .i64) s2)) J Ad<|Aa (.I (s2.length:Int)) J (A3 (Be O4))<|Aa (.bool ((s1.length:Int) != (s2.length:Int))) J (Bc J J J)<|Z<|B3 J (fun hc=>?_) (fun hc=>?_)
 ·refine Y<|O<|Aa (.bool false) J An<|Z<|Bq (a:=false) (vs:=[(.bool false)]) Tryz.func68 hI J (.same _)
 refine Ay<|Y<|Y<|O<|Aa (.sl 1 (List.map (rI .i64) s1)) J Ad<|Aa (.I (s1.length:Int)) J (A3 (Be O4))<|Aa (.I 0) J Ad ?_
 refine Z<|A9<|D0 [(0,(.sl 1 (List.map (rI .i64) s1))),(1,(.sl 1 (List.map (rI .i64) s2))),(12,(.I (s1.length:Int))),(13,(.I 0))] (FI J)<|Ed (P:=Tryz.prog) s1 (fun j a=>fun _=>Mj s2 j a) ((Ds (fun _=>.ok true) (fun r=>.ok r)):(Unit ⊕ Bool)→R Bool) (fun j=>fun _=>fun(fr:Nat→AV) (h:Ae)=>fr=A2 [(0,(.sl 1 (List.map (rI .i64) s1))),(1,(.sl 1 (List.map (rI .i64) s2))),(12,(.I (s1.length:Int))),(13,(.I (j:Int)))]∧h=hp h0 ids []) () ?_ ?_ ?_
 ·exact⟨J,J⟩
 ·rintro j a ha W hW _ fr h ⟨rfl,rfl⟩
  refine Al (m':=Mj s2 j a) J (Al (Mj.eq_1 _ _ _) ?_)
  refine Y<|O<|Aa (.bool (decide ((j:Int)<(s1.length:Int)))) J (Bc J J J)<|Z<|Y<|Dz (t:=0) (L:=s1) J fun hlim=>Cw J (Int.ofNat_lt.2 (A7 ha)) ?_
  refine Ay<|Y<|A9<|Y<|O<|Ac 2 [] [(5,(.I (j:Int)))] ?_
  refine Z<|Y<|C2 Fa [[],[],[0,1],[0,1,2],[],[],[4,5],[4,5,6],[0,1,2,3,4,5,6,7]] [(false,0),(false,1),(false,2),(false,3),(false,4),(false,5),(false,6),(false,7),(false,8)] (by kernel_rfl)<|Ag (.sl 1 (List.map (rI .i64) s1)) J J Ad<|Ag (.I (j:Int)) J J Ad<|Ag (.cp [(.I a)] 0) J J (Bt (Db O4 Dq J ha))<|Ag (.I a) J J (As (Cf Dq J)) ?_
  refine Ag (.sl 1 (List.map (rI .i64) s2)) J J Ad<|Ag (.I (j:Int)) J J Ad<|Nr fun a1 hz hx1=>Ag (.cp [(.I a1)] 0) J J (Bt (De O4 Dq J hz hx1))<|Ag (.I a1) J J (As (Cf Dq J))<|Ag (.bool (a != a1)) J J (Bc J J J)<|Cl ?_
  refine B3 J (fun hc1=>?_) (fun hc1=>?_)
  ·refine Y<|O<|Aa (.bool false) J An<|Z<|Ey<|Fr<|Bq (a:=false) (vs:=[(.bool false)]) Tryz.func68 hI J (.same _)
  refine Ay<|Bn<|O<|Ac 2 [] [(13,(.I (IntKind.wrap .i64 ((j:Int)+1))))] ?_
  refine Z<|Bo (E0 (hW () _ _ ⟨J,J⟩)) (.cons J (.cons J (.cons J (.cons (Dw (A7 ha) hlim) .nil))))
 rintro _ fr h ⟨rfl,rfl⟩
 refine Al (E3 _ _ _)<|Y<|O<|Aa (.bool (decide ((s1.length:Int)<(s1.length:Int)))) J (Bc J J J)<|Z<|Y<|Cx J (Int.lt_irrefl _) ?_
 refine C4 J<|Y<|O<|Aa (.bool true) J An<|Z<|Bq (a:=true) (vs:=[(.bool true)]) Tryz.func68 hI J (.same _)
theorem Yn (a:Sector)(y:Sector):CP Tryz.prog 66 [(.agg (A8 a)),(.agg (A8 y))] (Rx a y) (fun(x:Bool)=>(AV.bool x)):=by
 refine Cq (n:=38) 2 Tryz.func66 J (by decide) J J fun h0 ids hI=>Bk (Al (Rx.eq_1 _ _) ?_)
 refine Y<|O<|Ck (v:=(.agg (A8 a))) (j:=0) hI J J J J J J J fun g=>Ck (v:=(.agg (A8 y))) (j:=1) hI J J J J J J J fun g1=>Aa (.bool false) J An<|Z<|Aj ?_
 refine Y<|O<|Ac 6 [0,1] [(10,(.bool (a.Name==y.Name)))] ?_
 refine C5 6 ((fun(b:Bool)=>(if b then(Hb a.Volumes y.Volumes).bind fun r1=>R.ok r1 else R.ok false).bind (fun(b1:Bool)=>.ok ((b1&&(a.Radar==y.Radar))&&(a.Procedural==y.Procedural)))):Bool→R Bool) (fun(b:Bool) (fr:Nat→AV) (h:Ae)=>fr=A2 [(2,(.q ids 0 g)),(3,(.q ids 1 g1)),(16,(.bool b))]∧h=hp h0 ids [(some (.rows g 5 [(A8 a)])),(some (.rows g1 5 [(A8 y)]))]) ?_ fun hJ=>Dr (fun hb1=>?_) (fun hb1=>?_)
 ·rintro b fr h ⟨rfl,rfl⟩
  refine Aa (.bool b) J Ad<|C5 6 ((fun(b1:Bool)=>.ok ((b1&&(a.Radar==y.Radar))&&(a.Procedural==y.Procedural))):Bool→R Bool) (fun(b1:Bool) (fr:Nat→AV) (h:Ae)=>fr=A2 [(2,(.q ids 0 g)),(3,(.q ids 1 g1)),(23,(.bool b1))]∧h=hp h0 ids [(some (.rows g 5 [(A8 a)])),(some (.rows g1 5 [(A8 y)]))]) ?_ fun hJ1=>Dr (fun hb3=>?_) (fun hb3=>?_)
  ·rintro b1 fr h ⟨rfl,rfl⟩
   refine Aa (.bool b1) J Ad<|Br 6 [(2,(.q ids 0 g)),(3,(.q ids 1 g1)),(30,(.bool (b1&&(a.Radar==y.Radar))))] ?_ fun hJ2=>Bm b1 (fun hb5=>?_) (fun hb5=>?_)
   ·refine Aa (.bool (b1&&(a.Radar==y.Radar))) J Ad<|Br 6 [(37,(.bool ((b1&&(a.Radar==y.Radar))&&(a.Procedural==y.Procedural))))] ?_ fun hJ3=>Bm (b1&&(a.Radar==y.Radar)) (fun hb7=>?_) (fun hb7=>?_)
    ·refine Aa (.bool ((b1&&(a.Radar==y.Radar))&&(a.Procedural==y.Procedural))) J An<|Z<|Bq (a:=((b1&&(a.Radar==y.Radar))&&(a.Procedural==y.Procedural))) (vs:=[(.bool ((b1&&(a.Radar==y.Radar))&&(a.Procedural==y.Procedural)))]) Tryz.func66 hI J (.same _)
    ·refine Ax (t:=31) hb7 J<|Ac 6 [0,1] [(37,(.bool (a.Procedural==y.Procedural)))] ?_
     exact A5 hJ3 (.cons (Hk hb7) .nil)
    refine Ax (t:=31) hb7 J<|Ac 6 [] [(37,(.bool false))] ?_
    exact A5 hJ3 (.cons (Hp hb7) .nil)
   ·refine Ax (t:=24) hb5 J<|Ac 6 [0,1] [(30,(.bool (a.Radar==y.Radar)))] ?_
    exact A5 hJ2 (.cons J (.cons J (.cons (Hk hb5) .nil)))
   refine Ax (t:=24) hb5 J<|Ac 6 [] [(30,(.bool false))] ?_
   exact A5 hJ2 (.cons J (.cons J (.cons (Hp hb5) .nil)))
  ·refine Ax (t:=17) hb3 J<|Ac 4 [0,1] [(21,(.sl 1 (List.map (rI .i64) y.Volumes))),(19,(.sl 1 (List.map (rI .i64) a.Volumes)))] ?_
   refine Bx [(.sl 1 (List.map (rI .i64) a.Volumes)),(.sl 1 (List.map (rI .i64) y.Volumes))] J (Ch (tj:=17) J J) J J ((On a.Volumes y.Volumes) _) (fun v _=>Cc Tryz.func66 hI) fun r1 _=>Aa (.bool r1) J (Eg (t:=true) J J)<|Bj<|B8 [(2,(.q ids 0 g)),(3,(.q ids 1 g1)),(23,(.bool r1))] (FI J)<|hJ1 r1 _ _ ⟨J,J⟩
  refine Ax (t:=17) hb3 J<|Ac 6 [] [(23,(.bool false))] ?_
  refine Bj<|B8 [(2,(.q ids 0 g)),(3,(.q ids 1 g1)),(23,(.bool false))] (FI J)<|hJ1 false _ _ ⟨J,J⟩
 ·refine Ax (t:=10) hb1 J<|Ac 4 [0,1] [(14,(.sl 1 (List.map rS y.Names))),(12,(.sl 1 (List.map rS a.Names)))] ?_
  refine Bx [(.sl 1 (List.map rS a.Names)),(.sl 1 (List.map rS y.Names))] J (Ch (tj:=10) J J) J J ((M9 a.Names y.Names) _) (fun v _=>Cc Tryz.func66 hI) fun r _=>Aa (.bool r) J (Eg (t:=true) J J)<|Bj<|B8 [(2,(.q ids 0 g)),(3,(.q ids 1 g1)),(16,(.bool r))] (FI J)<|hJ r _ _ ⟨J,J⟩
 refine Ax (t:=10) hb1 J<|Ac 6 [] [(16,(.bool false))] ?_
 refine Bj<|B8 [(2,(.q ids 0 g)),(3,(.q ids 1 g1)),(16,(.bool false))] (FI J)<|hJ false _ _ ⟨J,J⟩
theorem K4 (s1:List Sector)(s2:List Sector):CP Tryz.prog 65 [(.sl 5 (List.map A8 s1)),(.sl 5 (List.map A8 s2)),(.func (.func 66) [] [])] (Em s1 s2) (fun(x:Bool)=>(AV.bool x)):=by
 refine Cq (n:=32) 2 Tryz.func65 J (by decide) J J fun h0 ids hI=>Bk (Al (Em.eq_1 _ _) ?_)
 refine Y<|O<|Aa (.bool false) J An<|Z<|Y<|Y<|O ?_
 refine Aa (.sl 5 (List.map A8 s1)) J Ad<|Aa (.I (s1.length:Int)) J (A3 (Be Lb))<|Aa (.sl 5 (List.map A8 s2)) J Ad<|Aa (.I (s2.length:Int)) J (A3 (Be Lb))<|Aa (.bool ((s1.length:Int) != (s2.length:Int))) J (Bc J J J)<|Z<|B3 J (fun hc=>?_) (fun hc=>?_)
 ·refine Y<|O<|Aa (.bool false) J An<|Z<|Bq (a:=false) (vs:=[(.bool false)]) Tryz.func65 hI J (.same _)
 refine Ay<|Y<|Y<|O<|Aa (.sl 5 (List.map A8 s1)) J Ad<|Aa (.I (s1.length:Int)) J (A3 (Be Lb))<|Aa (.I 0) J Ad ?_
 refine Z<|A9<|D0 [(1,(.sl 5 (List.map A8 s2))),(2,(.func (.func 66) [] [])),(15,(.sl 5 (List.map A8 s1))),(16,(.I (s1.length:Int))),(17,(.I 0))] (FI J)<|Ed (P:=Tryz.prog) s1 (fun j a=>fun _=>Dn s2 j a) ((Ds (fun _=>.ok true) (fun r=>.ok r)):(Unit ⊕ Bool)→R Bool) (fun j=>fun _=>fun(fr:Nat→AV) (h:Ae)=>fr=A2 [(1,(.sl 5 (List.map A8 s2))),(2,(.func (.func 66) [] [])),(15,(.sl 5 (List.map A8 s1))),(16,(.I (s1.length:Int))),(17,(.I (j:Int)))]∧h=hp h0 ids [none,none]) () ?_ ?_ ?_
 ·exact⟨J,J⟩
 ·rintro j a ha W hW _ fr h ⟨rfl,rfl⟩
  refine Al (m':=Dn s2 j a) J (Al (Dn.eq_1 _ _ _) ?_)
  refine Y<|O<|Aa (.bool (decide ((j:Int)<(s1.length:Int)))) J (Bc J J J)<|Z<|Y<|Dz (t:=15) (L:=s1) J fun hlim=>Cw J (Int.ofNat_lt.2 (A7 ha)) ?_
  refine Ay<|Y<|A9<|Y<|O<|Aa (.I (j:Int)) J Ad<|Aa (.cp (A8 a) 0) J (Bt (Db Lb Gr J ha)) ?_
  refine Aa (.agg (A8 a)) J (As (Cf Gr J))<|Bb (j:=0) hI J J J J Gr J fun g=>Aa (.I (j:Int)) J An<|Aq (Aw (v:=(.agg (A8 a))) hI J J J J Gr J J J J J)<|Z<|Aj ?_
  refine Y<|O<|Ac 2 [] [(23,(.I (j:Int))),(22,(.sl 5 (List.map A8 s2)))] ?_
  refine Ea fun a1 hz hx1=>Aa (.cp (A8 a1) 0) J (Bt (De Lb Gr J hz hx1))<|Aa (.agg (A8 a1)) J (As (Cf Gr J))<|Bb (j:=1) hI J J J J Gr J fun g1=>Aq (Aw (v:=(.agg (A8 a1))) hI J J J J Gr J J J J J)<|Z<|Aj ?_
  refine Y<|O<|Ac 3 [0,1] [(28,(.agg (A8 a1))),(27,(.agg (A8 a))),(26,(.func (.func 66) [] []))] ?_
  refine Bx [(.agg (A8 a)),(.agg (A8 a1))] J J J J ((Yn a a1) _) (fun v _=>Cc Tryz.func65 hI) fun r _=>Aa (.bool (!r)) J (Pl J)<|Z<|Dx J (fun hc1=>?_) (fun hc1=>?_)
  ·refine Ay<|Bn<|O<|Ac 2 [] [(17,(.I (IntKind.wrap .i64 ((j:Int)+1))))] ?_
   refine Z<|D2 [none,none] hI J (.drop (.drop .nil))<|Bo (E0 (hW () _ _ ⟨J,J⟩)) (.cons J (.cons J (.cons J (.cons J (.cons (Dw (A7 ha) hlim) .nil)))))
  refine Y<|O<|Aa (.bool false) J An<|Z<|Ey<|Fr<|Bq (a:=false) (vs:=[(.bool false)]) Tryz.func65 hI J (.same _)
 rintro _ fr h ⟨rfl,rfl⟩
 refine Al (E3 _ _ _)<|Y<|O<|Aa (.bool (decide ((s1.length:Int)<(s1.length:Int)))) J (Bc J J J)<|Z<|Y<|Cx J (Int.lt_irrefl _) ?_
 refine C4 J<|Y<|O<|Aa (.bool true) J An<|Z<|Bq (a:=true) (vs:=[(.bool true)]) Tryz.func65 hI J (.same _)
theorem Yr (a:Config)(y:Config):CP Tryz.prog 70 [(.agg (Bl a)),(.agg (Bl y))] (Ru a y) (fun(x:Bool)=>(AV.bool x)):=by
 refine Cq (n:=24) 2 Tryz.func70 J (by decide) J J fun h0 ids hI=>Bk (Al (Ru.eq_1 _ _) ?_)
 refine Y<|O<|Ck (v:=(.agg (Bl a))) (j:=0) hI J J J J J J J fun g=>Ck (v:=(.agg (Bl y))) (j:=1) hI J J J J J J J fun g1=>Aa (.bool false) J An<|Z<|Aj ?_
 refine Y<|O<|Ac 6 [0,1] [(10,(.bool (a.Name==y.Name)))] ?_
 refine C5 6 ((fun(b:Bool)=>(if b then(Hb a.Sectors y.Sectors).bind fun r1=>R.ok r1 else R.ok false).bind (fun(b1:Bool)=>.ok b1)):Bool→R Bool) (fun(b:Bool) (fr:Nat→AV) (h:Ae)=>fr=A2 [(2,(.q ids 0 g)),(3,(.q ids 1 g1)),(16,(.bool b))]∧h=hp h0 ids [(some (.rows g 3 [(Bl a)])),(some (.rows g1 3 [(Bl y)]))]) ?_ fun hJ=>Dr (fun hb1=>?_) (fun hb1=>?_)
 ·rintro b fr h ⟨rfl,rfl⟩
  refine Aa (.bool b) J Ad<|C5 6 ((fun(b1:Bool)=>.ok b1):Bool→R Bool) (fun(b1:Bool) (fr:Nat→AV) (h:Ae)=>fr=A2 [(23,(.bool b1))]∧h=hp h0 ids [(some (.rows g 3 [(Bl a)])),(some (.rows g1 3 [(Bl y)]))]) ?_ fun hJ1=>Dr (fun hb3=>?_) (fun hb3=>?_)
  ·rintro b1 fr h ⟨rfl,rfl⟩
   refine Aa (.bool b1) J An<|Z<|Bq (a:=b1) (vs:=[(.bool b1)]) Tryz.func70 hI J (.same _)
  ·refine Ax (t:=17) hb3 J<|Ac 4 [0,1] [(21,(.sl 1 (List.map (rI .i64) y.Sectors))),(19,(.sl 1 (List.map (rI .i64) a.Sectors)))] ?_
   refine Bx [(.sl 1 (List.map (rI .i64) a.Sectors)),(.sl 1 (List.map (rI .i64) y.Sectors))] J (Ch (tj:=17) J J) J J ((On a.Sectors y.Sectors) _) (fun v _=>Cc Tryz.func70 hI) fun r1 _=>Aa (.bool r1) J (Eg (t:=true) J J)<|Bj<|B8 [(23,(.bool r1))] (FI J)<|hJ1 r1 _ _ ⟨J,J⟩
  refine Ax (t:=17) hb3 J<|Ac 6 [] [(23,(.bool false))] ?_
  refine Bj<|B8 [(23,(.bool false))] (FI J)<|hJ1 false _ _ ⟨J,J⟩
 ·refine Ax (t:=10) hb1 J<|Ac 4 [0,1] [(14,(.sl 1 (List.map rS y.Names))),(12,(.sl 1 (List.map rS a.Names)))] ?_
  refine Bx [(.sl 1 (List.map rS a.Names)),(.sl 1 (List.map rS y.Names))] J (Ch (tj:=10) J J) J J ((M9 a.Names y.Names) _) (fun v _=>Cc Tryz.func70 hI) fun r _=>Aa (.bool r) J (Eg (t:=true) J J)<|Bj<|B8 [(2,(.q ids 0 g)),(3,(.q ids 1 g1)),(16,(.bool r))] (FI J)<|hJ r _ _ ⟨J,J⟩
 refine Ax (t:=10) hb1 J<|Ac 6 [] [(16,(.bool false))] ?_
 refine Bj<|B8 [(2,(.q ids 0 g)),(3,(.q ids 1 g1)),(16,(.bool false))] (FI J)<|hJ false _ _ ⟨J,J⟩
theorem K3 (s1:List Config)(s2:List Config):CP Tryz.prog 69 [(.sl 3 (List.map Bl s1)),(.sl 3 (List.map Bl s2)),(.func (.func 70) [] [])] (Du s1 s2) (fun(x:Bool)=>(AV.bool x)):=by
 refine Cq (n:=32) 2 Tryz.func69 J (by decide) J J fun h0 ids hI=>Bk (Al (Du.eq_1 _ _) ?_)
 refine Y<|O<|Aa (.bool false) J An<|Z<|Y<|Y<|O ?_
 refine Aa (.sl 3 (List.map Bl s1)) J Ad<|Aa (.I (s1.length:Int)) J (A3 (Be Mm))<|Aa (.sl 3 (List.map Bl s2)) J Ad<|Aa (.I (s2.length:Int)) J (A3 (Be Mm))<|Aa (.bool ((s1.length:Int) != (s2.length:Int))) J (Bc J J J)<|Z<|B3 J (fun hc=>?_) (fun hc=>?_)
 ·refine Y<|O<|Aa (.bool false) J An<|Z<|Bq (a:=false) (vs:=[(.bool false)]) Tryz.func69 hI J (.same _)
 refine Ay<|Y<|Y<|O<|Aa (.sl 3 (List.map Bl s1)) J Ad<|Aa (.I (s1.length:Int)) J (A3 (Be Mm))<|Aa (.I 0) J Ad ?_
 refine Z<|A9<|D0 [(1,(.sl 3 (List.map Bl s2))),(2,(.func (.func 70) [] [])),(15,(.sl 3 (List.map Bl s1))),(16,(.I (s1.length:Int))),(17,(.I 0))] (FI J)<|Ed (P:=Tryz.prog) s1 (fun j a=>fun _=>Do s2 j a) ((Ds (fun _=>.ok true) (fun r=>.ok r)):(Unit ⊕ Bool)→R Bool) (fun j=>fun _=>fun(fr:Nat→AV) (h:Ae)=>fr=A2 [(1,(.sl 3 (List.map Bl s2))),(2,(.func (.func 70) [] [])),(15,(.sl 3 (List.map Bl s1))),(16,(.I (s1.length:Int))),(17,(.I (j:Int)))]∧h=hp h0 ids [none,none]) () ?_ ?_ ?_
 ·exact⟨J,J⟩
 ·rintro j a ha W hW _ fr h ⟨rfl,rfl⟩
  refine Al (m':=Do s2 j a) J (Al (Do.eq_1 _ _ _) ?_)
  refine Y<|O<|Aa (.bool (decide ((j:Int)<(s1.length:Int)))) J (Bc J J J)<|Z<|Y<|Dz (t:=15) (L:=s1) J fun hlim=>Cw J (Int.ofNat_lt.2 (A7 ha)) ?_
  refine Ay<|Y<|A9<|Y<|O<|Aa (.I (j:Int)) J Ad<|Aa (.cp (Bl a) 0) J (Bt (Db Mm J6 J ha)) ?_
  refine Aa (.agg (Bl a)) J (As (Cf J6 J))<|Bb (j:=0) hI J J J J J6 J fun g=>Aa (.I (j:Int)) J An<|Aq (Aw (v:=(.agg (Bl a))) hI J J J J J6 J J J J J)<|Z<|Aj ?_
  refine Y<|O<|Ac 2 [] [(23,(.I (j:Int))),(22,(.sl 3 (List.map Bl s2)))] ?_
  refine Ea fun a1 hz hx1=>Aa (.cp (Bl a1) 0) J (Bt (De Mm J6 J hz hx1))<|Aa (.agg (Bl a1)) J (As (Cf J6 J))<|Bb (j:=1) hI J J J J J6 J fun g1=>Aq (Aw (v:=(.agg (Bl a1))) hI J J J J J6 J J J J J)<|Z<|Aj ?_
  refine Y<|O<|Ac 3 [0,1] [(28,(.agg (Bl a1))),(27,(.agg (Bl a))),(26,(.func (.func 70) [] []))] ?_
  refine Bx [(.agg (Bl a)),(.agg (Bl a1))] J J J J ((Yr a a1) _) (fun v _=>Cc Tryz.func69 hI) fun r _=>Aa (.bool (!r)) J (Pl J)<|Z<|Dx J (fun hc1=>?_) (fun hc1=>?_)
  ·refine Ay<|Bn<|O<|Ac 2 [] [(17,(.I (IntKind.wrap .i64 ((j:Int)+1))))] ?_
   refine Z<|D2 [none,none] hI J (.drop (.drop .nil))<|Bo (E0 (hW () _ _ ⟨J,J⟩)) (.cons J (.cons J (.cons J (.cons J (.cons (Dw (A7 ha) hlim) .nil)))))
  refine Y<|O<|Aa (.bool false) J An<|Z<|Ey<|Fr<|Bq (a:=false) (vs:=[(.bool false)]) Tryz.func69 hI J (.same _)
 rintro _ fr h ⟨rfl,rfl⟩
 refine Al (E3 _ _ _)<|Y<|O<|Aa (.bool (decide ((s1.length:Int)<(s1.length:Int)))) J (Bc J J J)<|Z<|Y<|Cx J (Int.lt_irrefl _) ?_
 refine C4 J<|Y<|O<|Aa (.bool true) J An<|Z<|Bq (a:=true) (vs:=[(.bool true)]) Tryz.func69 hI J (.same _)
theorem Yo (a:Segment)(y:Segment):CP Tryz.prog 72 [(.agg (Bf a)),(.agg (Bf y))] (Rw a y) (fun(x:Bool)=>(AV.bool x)):=by
 refine Cq (n:=38) 2 Tryz.func72 J (by decide) J J fun h0 ids hI=>Bk (Al (Rw.eq_1 _ _) ?_)
 refine Y<|O<|Ck (v:=(.agg (Bf a))) (j:=0) hI J J J J J J J fun g=>Ck (v:=(.agg (Bf y))) (j:=1) hI J J J J J J J fun g1=>Aa (.bool false) J An<|Z<|Aj ?_
 refine Y<|O<|Ac 6 [0,1] [(10,(.bool (a.Name==y.Name)))] ?_
 refine Br 6 [(2,(.q ids 0 g)),(3,(.q ids 1 g1)),(16,(.bool ((a.Name==y.Name)&&(a.In==y.In))))] ?_ fun hJ=>Bm (a.Name==y.Name) (fun hb1=>?_) (fun hb1=>?_)
 ·refine Aa (.bool ((a.Name==y.Name)&&(a.In==y.In))) J Ad<|Br 6 [(2,(.q ids 0 g)),(3,(.q ids 1 g1)),(23,(.bool (((a.Name==y.Name)&&(a.In==y.In))&&(a.Volume==y.Volume))))] ?_ fun hJ1=>Bm ((a.Name==y.Name)&&(a.In==y.In)) (fun hb3=>?_) (fun hb3=>?_)
  ·refine Aa (.bool (((a.Name==y.Name)&&(a.In==y.In))&&(a.Volume==y.Volume))) J Ad<|Br 6 [(2,(.q ids 0 g)),(3,(.q ids 1 g1)),(30,(.bool ((((a.Name==y.Name)&&(a.In==y.In))&&(a.Volume==y.Volume))&&(a.Length==y.Length))))] ?_ fun hJ2=>Bm (((a.Name==y.Name)&&(a.In==y.In))&&(a.Volume==y.Volume)) (fun hb5=>?_) (fun hb5=>?_)
   ·refine Aa (.bool ((((a.Name==y.Name)&&(a.In==y.In))&&(a.Volume==y.Volume))&&(a.Length==y.Length))) J Ad<|C5 6 ((fun(b:Bool)=>.ok b):Bool→R Bool) (fun(b:Bool) (fr:Nat→AV) (h:Ae)=>fr=A2 [(37,(.bool b))]∧h=hp h0 ids [(some (.rows g 5 [(Bf a)])),(some (.rows g1 5 [(Bf y)]))]) ?_ fun hJ3=>Dr (fun hb7=>?_) (fun hb7=>?_)
    ·rintro b fr h ⟨rfl,rfl⟩
     refine Aa (.bool b) J An<|Z<|Bq (a:=b) (vs:=[(.bool b)]) Tryz.func72 hI J (.same _)
    ·refine Ax (t:=31) hb7 J<|Ac 4 [0,1] [(35,(.sl 2 (List.map B4 y.Open))),(33,(.sl 2 (List.map B4 a.Open)))] ?_
     refine Bx [(.sl 2 (List.map B4 a.Open)),(.sl 2 (List.map B4 y.Open))] J (Ch (tj:=31) J J) J J ((Qt a.Open y.Open) _) (fun v _=>Cc Tryz.func72 hI) fun r _=>Aa (.bool r) J (Eg (t:=true) J J)<|Bj<|B8 [(37,(.bool r))] (FI J)<|hJ3 r _ _ ⟨J,J⟩
    refine Ax (t:=31) hb7 J<|Ac 6 [] [(37,(.bool false))] ?_
    refine Bj<|B8 [(37,(.bool false))] (FI J)<|hJ3 false _ _ ⟨J,J⟩
   ·refine Ax (t:=24) hb5 J<|Ac 6 [0,1] [(30,(.bool (a.Length==y.Length)))] ?_
    exact A5 hJ2 (.cons J (.cons J (.cons (Hk hb5) .nil)))
   refine Ax (t:=24) hb5 J<|Ac 6 [] [(30,(.bool false))] ?_
   exact A5 hJ2 (.cons J (.cons J (.cons (Hp hb5) .nil)))
  ·refine Ax (t:=17) hb3 J<|Ac 6 [0,1] [(23,(.bool (a.Volume==y.Volume)))] ?_
   exact A5 hJ1 (.cons J (.cons J (.cons (Hk hb3) .nil)))
  refine Ax (t:=17) hb3 J<|Ac 6 [] [(23,(.bool false))] ?_
  exact A5 hJ1 (.cons J (.cons J (.cons (Hp hb3) .nil)))
 ·refine Ax (t:=10) hb1 J<|Ac 6 [0,1] [(16,(.bool (a.In==y.In)))] ?_
  exact A5 hJ (.cons J (.cons J (.cons (Hk hb1) .nil)))
 refine Ax (t:=10) hb1 J<|Ac 6 [] [(16,(.bool false))] ?_
 exact A5 hJ (.cons J (.cons J (.cons (Hp hb1) .nil)))
theorem Ke (s1:List Segment)(s2:List Segment):CP Tryz.prog 71 [(.sl 5 (List.map Bf s1)),(.sl 5 (List.map Bf s2)),(.func (.func 72) [] [])] (C0 s1 s2) (fun(x:Bool)=>(AV.bool x)):=by
 refine Cq (n:=32) 2 Tryz.func71 J (by decide) J J fun h0 ids hI=>Bk (Al (C0.eq_1 _ _) ?_)
 refine Y<|O<|Aa (.bool false) J An<|Z<|Y<|Y<|O ?_
 refine Aa (.sl 5 (List.map Bf s1)) J Ad<|Aa (.I (s1.length:Int)) J (A3 (Be Mn))<|Aa (.sl 5 (List.map Bf s2)) J Ad<|Aa (.I (s2.length:Int)) J (A3 (Be Mn))<|Aa (.bool ((s1.length:Int) != (s2.length:Int))) J (Bc J J J)<|Z<|B3 J (fun hc=>?_) (fun hc=>?_)
 ·refine Y<|O<|Aa (.bool false) J An<|Z<|Bq (a:=false) (vs:=[(.bool false)]) Tryz.func71 hI J (.same _)
 refine Ay<|Y<|Y<|O<|Aa (.sl 5 (List.map Bf s1)) J Ad<|Aa (.I (s1.length:Int)) J (A3 (Be Mn))<|Aa (.I 0) J Ad ?_
 refine Z<|A9<|D0 [(1,(.sl 5 (List.map Bf s2))),(2,(.func (.func 72) [] [])),(15,(.sl 5 (List.map Bf s1))),(16,(.I (s1.length:Int))),(17,(.I 0))] (FI J)<|Ed (P:=Tryz.prog) s1 (fun j a=>fun _=>Dd s2 j a) ((Ds (fun _=>.ok true) (fun r=>.ok r)):(Unit ⊕ Bool)→R Bool) (fun j=>fun _=>fun(fr:Nat→AV) (h:Ae)=>fr=A2 [(1,(.sl 5 (List.map Bf s2))),(2,(.func (.func 72) [] [])),(15,(.sl 5 (List.map Bf s1))),(16,(.I (s1.length:Int))),(17,(.I (j:Int)))]∧h=hp h0 ids [none,none]) () ?_ ?_ ?_
 ·exact⟨J,J⟩
 ·rintro j a ha W hW _ fr h ⟨rfl,rfl⟩
  refine Al (m':=Dd s2 j a) J (Al (Dd.eq_1 _ _ _) ?_)
  refine Y<|O<|Aa (.bool (decide ((j:Int)<(s1.length:Int)))) J (Bc J J J)<|Z<|Y<|Dz (t:=15) (L:=s1) J fun hlim=>Cw J (Int.ofNat_lt.2 (A7 ha)) ?_
  refine Ay<|Y<|A9<|Y<|O<|Aa (.I (j:Int)) J Ad<|Aa (.cp (Bf a) 0) J (Bt (Db Mn Id J ha)) ?_
  refine Aa (.agg (Bf a)) J (As (Cf Id J))<|Bb (j:=0) hI J J J J Id J fun g=>Aa (.I (j:Int)) J An<|Aq (Aw (v:=(.agg (Bf a))) hI J J J J Id J J J J J)<|Z<|Aj ?_
  refine Y<|O<|Ac 2 [] [(23,(.I (j:Int))),(22,(.sl 5 (List.map Bf s2)))] ?_
  refine Ea fun a1 hz hx1=>Aa (.cp (Bf a1) 0) J (Bt (De Mn Id J hz hx1))<|Aa (.agg (Bf a1)) J (As (Cf Id J))<|Bb (j:=1) hI J J J J Id J fun g1=>Aq (Aw (v:=(.agg (Bf a1))) hI J J J J Id J J J J J)<|Z<|Aj ?_
  refine Y<|O<|Ac 3 [0,1] [(28,(.agg (Bf a1))),(27,(.agg (Bf a))),(26,(.func (.func 72) [] []))] ?_
  refine Bx [(.agg (Bf a)),(.agg (Bf a1))] J J J J ((Yo a a1) _) (fun v _=>Cc Tryz.func71 hI) fun r _=>Aa (.bool (!r)) J (Pl J)<|Z<|Dx J (fun hc1=>?_) (fun hc1=>?_)
  ·refine Ay<|Bn<|O<|Ac 2 [] [(17,(.I (IntKind.wrap .i64 ((j:Int)+1))))] ?_
   refine Z<|D2 [none,none] hI J (.drop (.drop .nil))<|Bo (E0 (hW () _ _ ⟨J,J⟩)) (.cons J (.cons J (.cons J (.cons J (.cons (Dw (A7 ha) hlim) .nil)))))
  refine Y<|O<|Aa (.bool false) J An<|Z<|Ey<|Fr<|Bq (a:=false) (vs:=[(.bool false)]) Tryz.func71 hI J (.same _)
 rintro _ fr h ⟨rfl,rfl⟩
 refine Al (E3 _ _ _)<|Y<|O<|Aa (.bool (decide ((s1.length:Int)<(s1.length:Int)))) J (Bc J J J)<|Z<|Y<|Cx J (Int.lt_irrefl _) ?_
 refine C4 J<|Y<|O<|Aa (.bool true) J An<|Z<|Bq (a:=true) (vs:=[(.bool true)]) Tryz.func71 hI J (.same _)
theorem Yq (a:Route)(y:Route):CP Tryz.prog 74 [(.agg (Bs a)),(.agg (Bs y))] (Rz a y) (fun(x:Bool)=>(AV.bool x)):=by
 refine Cq (n:=52) 2 Tryz.func74 J (by decide) J J fun h0 ids hI=>Bk (Al (Rz.eq_1 _ _) ?_)
 refine Y<|O<|Ck (v:=(.agg (Bs a))) (j:=0) hI J J J J J J J fun g=>Ck (v:=(.agg (Bs y))) (j:=1) hI J J J J J J J fun g1=>Aa (.bool false) J An<|Z<|Aj ?_
 refine Y<|O<|Ac 6 [0,1] [(10,(.bool (a.Name==y.Name)))] ?_
 refine Br 6 [(2,(.q ids 0 g)),(3,(.q ids 1 g1)),(16,(.bool ((a.Name==y.Name)&&(a.A==y.A))))] ?_ fun hJ=>Bm (a.Name==y.Name) (fun hb1=>?_) (fun hb1=>?_)
 ·refine Aa (.bool ((a.Name==y.Name)&&(a.A==y.A))) J Ad<|Br 6 [(2,(.q ids 0 g)),(3,(.q ids 1 g1)),(23,(.bool (((a.Name==y.Name)&&(a.A==y.A))&&(a.B==y.B))))] ?_ fun hJ1=>Bm ((a.Name==y.Name)&&(a.A==y.A)) (fun hb3=>?_) (fun hb3=>?_)
  ·refine Aa (.bool (((a.Name==y.Name)&&(a.A==y.A))&&(a.B==y.B))) J Ad<|Br 6 [(2,(.q ids 0 g)),(3,(.q ids 1 g1)),(30,(.bool ((((a.Name==y.Name)&&(a.A==y.A))&&(a.B==y.B))&&(a.From==y.From))))] ?_ fun hJ2=>Bm (((a.Name==y.Name)&&(a.A==y.A))&&(a.B==y.B)) (fun hb5=>?_) (fun hb5=>?_)
   ·refine Aa (.bool ((((a.Name==y.Name)&&(a.A==y.A))&&(a.B==y.B))&&(a.From==y.From))) J Ad<|Br 6 [(2,(.q ids 0 g)),(3,(.q ids 1 g1)),(37,(.bool (((((a.Name==y.Name)&&(a.A==y.A))&&(a.B==y.B))&&(a.From==y.From))&&(a.To==y.To))))] ?_ fun hJ3=>Bm ((((a.Name==y.Name)&&(a.A==y.A))&&(a.B==y.B))&&(a.From==y.From)) (fun hb7=>?_) (fun hb7=>?_)
    ·refine Aa (.bool (((((a.Name==y.Name)&&(a.A==y.A))&&(a.B==y.B))&&(a.From==y.From))&&(a.To==y.To))) J Ad<|C5 6 ((fun(b:Bool)=>(if b then(Hb a.Segments y.Segments).bind fun r1=>R.ok r1 else R.ok false).bind (fun(b1:Bool)=>.ok b1)):Bool→R Bool) (fun(b:Bool) (fr:Nat→AV) (h:Ae)=>fr=A2 [(2,(.q ids 0 g)),(3,(.q ids 1 g1)),(44,(.bool b))]∧h=hp h0 ids [(some (.rows g 7 [(Bs a)])),(some (.rows g1 7 [(Bs y)]))]) ?_ fun hJ4=>Dr (fun hb9=>?_) (fun hb9=>?_)
     ·rintro b fr h ⟨rfl,rfl⟩
      refine Aa (.bool b) J Ad<|C5 6 ((fun(b1:Bool)=>.ok b1):Bool→R Bool) (fun(b1:Bool) (fr:Nat→AV) (h:Ae)=>fr=A2 [(51,(.bool b1))]∧h=hp h0 ids [(some (.rows g 7 [(Bs a)])),(some (.rows g1 7 [(Bs y)]))]) ?_ fun hJ5=>Dr (fun hb11=>?_) (fun hb11=>?_)
      ·rintro b1 fr h ⟨rfl,rfl⟩
       refine Aa (.bool b1) J An<|Z<|Bq (a:=b1) (vs:=[(.bool b1)]) Tryz.func74 hI J (.same _)
      ·refine Ax (t:=45) hb11 J<|Ac 4 [0,1] [(49,(.sl 1 (List.map (rI .i64) y.Segments))),(47,(.sl 1 (List.map (rI .i64) a.Segments)))] ?_
       refine Bx [(.sl 1 (List.map (rI .i64) a.Segments)),(.sl 1 (List.map (rI .i64) y.Segments))] J (Ch (tj:=45) J J) J J ((On a.Segments y.Segments) _) (fun v _=>Cc Tryz.func74 hI) fun r1 _=>Aa (.bool r1) J (Eg (t:=true) J J)<|Bj<|B8 [(51,(.bool r1))] (FI J)<|hJ5 r1 _ _ ⟨J,J⟩
      refine Ax (t:=45) hb11 J<|Ac 6 [] [(51,(.bool false))] ?_
      refine Bj<|B8 [(51,(.bool false))] (FI J)<|hJ5 false _ _ ⟨J,J⟩
     ·refine Ax (t:=38) hb9 J<|Ac 4 [0,1] [(42,(.sl 1 (List.map rS y.Names))),(40,(.sl 1 (List.map rS a.Names)))] ?_
      refine Bx [(.sl 1 (List.map rS a.Names)),(.sl 1 (List.map rS y.Names))] J (Ch (tj:=38) J J) J J ((M9 a.Names y.Names) _) (fun v _=>Cc Tryz.func74 hI) fun r _=>Aa (.bool r) J (Eg (t:=true) J J)<|Bj<|B8 [(2,(.q ids 0 g)),(3,(.q ids 1 g1)),(44,(.bool r))] (FI J)<|hJ4 r _ _ ⟨J,J⟩
     refine Ax (t:=38) hb9 J<|Ac 6 [] [(44,(.bool false))] ?_
     refine Bj<|B8 [(2,(.q ids 0 g)),(3,(.q ids 1 g1)),(44,(.bool false))] (FI J)<|hJ4 false _ _ ⟨J,J⟩
    ·refine Ax (t:=31) hb7 J<|Ac 6 [0,1] [(37,(.bool (a.To==y.To)))] ?_
     exact A5 hJ3 (.cons J (.cons J (.cons (Hk hb7) .nil)))
    refine Ax (t:=31) hb7 J<|Ac 6 [] [(37,(.bool false))] ?_
    exact A5 hJ3 (.cons J (.cons J (.cons (Hp hb7) .nil)))
   ·refine Ax (t:=24) hb5 J<|Ac 6 [0,1] [(30,(.bool (a.From==y.From)))] ?_
    exact A5 hJ2 (.cons J (.cons J (.cons (Hk hb5) .nil)))
   refine Ax (t:=24) hb5 J<|Ac 6 [] [(30,(.bool false))] ?_
   exact A5 hJ2 (.cons J (.cons J (.cons (Hp hb5) .nil)))
  ·refine Ax (t:=17) hb3 J<|Ac 6 [0,1] [(23,(.bool (a.B==y.B)))] ?_
   exact A5 hJ1 (.cons J (.cons J (.cons (Hk hb3) .nil)))
  refine Ax (t:=17) hb3 J<|Ac 6 [] [(23,(.bool false))] ?_
  exact A5 hJ1 (.cons J (.cons J (.cons (Hp hb3) .nil)))
 ·refine Ax (t:=10) hb1 J<|Ac 6 [0,1] [(16,(.bool (a.A==y.A)))] ?_
  exact A5 hJ (.cons J (.cons J (.cons (Hk hb1) .nil)))
 refine Ax (t:=10) hb1 J<|Ac 6 [] [(16,(.bool false))] ?_
 exact A5 hJ (.cons J (.cons J (.cons (Hp hb1) .nil)))
theorem Lr (s1:List Route)(s2:List Route):CP Tryz.prog 73 [(.sl 7 (List.map Bs s1)),(.sl 7 (List.map Bs s2)),(.func (.func 74) [] [])] (Cs s1 s2) (fun(x:Bool)=>(AV.bool x)):=by
 refine Cq (n:=32) 2 Tryz.func73 J (by decide) J J fun h0 ids hI=>Bk (Al (Cs.eq_1 _ _) ?_)
 refine Y<|O<|Aa (.bool false) J An<|Z<|Y<|Y<|O ?_
 refine Aa (.sl 7 (List.map Bs s1)) J Ad<|Aa (.I (s1.length:Int)) J (A3 (Be Ml))<|Aa (.sl 7 (List.map Bs s2)) J Ad<|Aa (.I (s2.length:Int)) J (A3 (Be Ml))<|Aa (.bool ((s1.length:Int) != (s2.length:Int))) J (Bc J J J)<|Z<|B3 J (fun hc=>?_) (fun hc=>?_)
 ·refine Y<|O<|Aa (.bool false) J An<|Z<|Bq (a:=false) (vs:=[(.bool false)]) Tryz.func73 hI J (.same _)
 refine Ay<|Y<|Y<|O<|Aa (.sl 7 (List.map Bs s1)) J Ad<|Aa (.I (s1.length:Int)) J (A3 (Be Ml))<|Aa (.I 0) J Ad ?_
 refine Z<|A9<|D0 [(1,(.sl 7 (List.map Bs s2))),(2,(.func (.func 74) [] [])),(15,(.sl 7 (List.map Bs s1))),(16,(.I (s1.length:Int))),(17,(.I 0))] (FI J)<|Ed (P:=Tryz.prog) s1 (fun j a=>fun _=>Dt s2 j a) ((Ds (fun _=>.ok true) (fun r=>.ok r)):(Unit ⊕ Bool)→R Bool) (fun j=>fun _=>fun(fr:Nat→AV) (h:Ae)=>fr=A2 [(1,(.sl 7 (List.map Bs s2))),(2,(.func (.func 74) [] [])),(15,(.sl 7 (List.map Bs s1))),(16,(.I (s1.length:Int))),(17,(.I (j:Int)))]∧h=hp h0 ids [none,none]) () ?_ ?_ ?_
 ·exact⟨J,J⟩
 ·rintro j a ha W hW _ fr h ⟨rfl,rfl⟩
  refine Al (m':=Dt s2 j a) J (Al (Dt.eq_1 _ _ _) ?_)
  refine Y<|O<|Aa (.bool (decide ((j:Int)<(s1.length:Int)))) J (Bc J J J)<|Z<|Y<|Dz (t:=15) (L:=s1) J fun hlim=>Cw J (Int.ofNat_lt.2 (A7 ha)) ?_
  refine Ay<|Y<|A9<|Y<|O<|Aa (.I (j:Int)) J Ad<|Aa (.cp (Bs a) 0) J (Bt (Db Ml H9 J ha)) ?_
  refine Aa (.agg (Bs a)) J (As (Cf H9 J))<|Bb (j:=0) hI J J J J H9 J fun g=>Aa (.I (j:Int)) J An<|Aq (Aw (v:=(.agg (Bs a))) hI J J J J H9 J J J J J)<|Z<|Aj ?_
  refine Y<|O<|Ac 2 [] [(23,(.I (j:Int))),(22,(.sl 7 (List.map Bs s2)))] ?_
  refine Ea fun a1 hz hx1=>Aa (.cp (Bs a1) 0) J (Bt (De Ml H9 J hz hx1))<|Aa (.agg (Bs a1)) J (As (Cf H9 J))<|Bb (j:=1) hI J J J J H9 J fun g1=>Aq (Aw (v:=(.agg (Bs a1))) hI J J J J H9 J J J J J)<|Z<|Aj ?_
  refine Y<|O<|Ac 3 [0,1] [(28,(.agg (Bs a1))),(27,(.agg (Bs a))),(26,(.func (.func 74) [] []))] ?_
  refine Bx [(.agg (Bs a)),(.agg (Bs a1))] J J J J ((Yq a a1) _) (fun v _=>Cc Tryz.func73 hI) fun r _=>Aa (.bool (!r)) J (Pl J)<|Z<|Dx J (fun hc1=>?_) (fun hc1=>?_)
  ·refine Ay<|Bn<|O<|Ac 2 [] [(17,(.I (IntKind.wrap .i64 ((j:Int)+1))))] ?_
   refine Z<|D2 [none,none] hI J (.drop (.drop .nil))<|Bo (E0 (hW () _ _ ⟨J,J⟩)) (.cons J (.cons J (.cons J (.cons J (.cons (Dw (A7 ha) hlim) .nil)))))
  refine Y<|O<|Aa (.bool false) J An<|Z<|Ey<|Fr<|Bq (a:=false) (vs:=[(.bool false)]) Tryz.func73 hI J (.same _)
 rintro _ fr h ⟨rfl,rfl⟩
 refine Al (E3 _ _ _)<|Y<|O<|Aa (.bool (decide ((s1.length:Int)<(s1.length:Int)))) J (Bc J J J)<|Z<|Y<|Cx J (Int.lt_irrefl _) ?_
 refine C4 J<|Y<|O<|Aa (.bool true) J An<|Z<|Bq (a:=true) (vs:=[(.bool true)]) Tryz.func73 hI J (.same _)
theorem W5 (s1:List Mode)(s2:List Mode):CP Tryz.prog 77 [(.sl 2 (List.map Da s1)),(.sl 2 (List.map Da s2))] (Pn s1 s2) (fun(x:Bool)=>(AV.bool x)):=by
 refine Cq (n:=26) 0 Tryz.func77 J (by decide) J J fun h0 ids hI=>Bk (Al (Pn.eq_1 _ _) ?_)
 refine Y<|O<|Aa (.bool false) J An<|Z<|Y<|Y<|O ?_
 refine Aa (.sl 2 (List.map Da s1)) J Ad<|Aa (.I (s1.length:Int)) J (A3 (Be Mi))<|Aa (.sl 2 (List.map Da s2)) J Ad<|Aa (.I (s2.length:Int)) J (A3 (Be Mi))<|Aa (.bool ((s1.length:Int) != (s2.length:Int))) J (Bc J J J)<|Z<|B3 J (fun hc=>?_) (fun hc=>?_)
 ·refine Y<|O<|Aa (.bool false) J An<|Z<|Bq (a:=false) (vs:=[(.bool false)]) Tryz.func77 hI J (.same _)
 refine Ay<|Y<|Y<|O<|Aa (.sl 2 (List.map Da s1)) J Ad<|Aa (.I (s1.length:Int)) J (A3 (Be Mi))<|Aa (.I 0) J Ad ?_
 refine Z<|A9<|D0 [(0,(.sl 2 (List.map Da s1))),(1,(.sl 2 (List.map Da s2))),(12,(.I (s1.length:Int))),(13,(.I 0))] (FI J)<|Ed (P:=Tryz.prog) s1 (fun j a=>fun _=>L1 s2 j a) ((Ds (fun _=>.ok true) (fun r=>.ok r)):(Unit ⊕ Bool)→R Bool) (fun j=>fun _=>fun(fr:Nat→AV) (h:Ae)=>fr=A2 [(0,(.sl 2 (List.map Da s1))),(1,(.sl 2 (List.map Da s2))),(12,(.I (s1.length:Int))),(13,(.I (j:Int)))]∧h=hp h0 ids []) () ?_ ?_ ?_
 ·exact⟨J,J⟩
 ·rintro j a ha W hW _ fr h ⟨rfl,rfl⟩
  refine Al (m':=L1 s2 j a) J (Al (L1.eq_1 _ _ _) ?_)
  refine Y<|O<|Aa (.bool (decide ((j:Int)<(s1.length:Int)))) J (Bc J J J)<|Z<|Y<|Dz (t:=0) (L:=s1) J fun hlim=>Cw J (Int.ofNat_lt.2 (A7 ha)) ?_
  refine Ay<|Y<|A9<|Y<|O<|Ac 2 [] [(5,(.I (j:Int)))] ?_
  refine Z<|Y<|C2 Fa [[],[],[0,1],[0,1,2],[],[],[4,5],[4,5,6],[0,1,2,3,4,5,6,7]] [(false,0),(false,1),(false,2),(false,3),(false,4),(false,5),(false,6),(false,7),(false,8)] (by kernel_rfl)<|Ag (.sl 2 (List.map Da s1)) J J Ad<|Ag (.I (j:Int)) J J Ad<|Ag (.cp (Da a) 0) J J (Bt (Db Mi Nx J ha))<|Ag (.agg (Da a)) J J (As (Cf Nx J)) ?_
  refine Ag (.sl 2 (List.map Da s2)) J J Ad<|Ag (.I (j:Int)) J J Ad<|Nr fun a1 hz hx1=>Ag (.cp (Da a1) 0) J J (Bt (De Mi Nx J hz hx1))<|Ag (.agg (Da a1)) J J (As (Cf Nx J))<|Ag (.bool (!((a.Name==a1.Name)&&(a.Places==a1.Places)))) J J (Bc (Ahe J J) J Agt)<|Cl ?_
  refine Dx J (fun hc1=>?_) (fun hc1=>?_)
  ·refine Ay<|Bn<|O<|Ac 2 [] [(13,(.I (IntKind.wrap .i64 ((j:Int)+1))))] ?_
   refine Z<|Bo (E0 (hW () _ _ ⟨J,J⟩)) (.cons J (.cons J (.cons J (.cons (Dw (A7 ha) hlim) .nil))))
  refine Y<|O<|Aa (.bool false) J An<|Z<|Ey<|Fr<|Bq (a:=false) (vs:=[(.bool false)]) Tryz.func77 hI J (.same _)
 rintro _ fr h ⟨rfl,rfl⟩
 refine Al (E3 _ _ _)<|Y<|O<|Aa (.bool (decide ((s1.length:Int)<(s1.length:Int)))) J (Bc J J J)<|Z<|Y<|Cx J (Int.lt_irrefl _) ?_
 refine C4 J<|Y<|O<|Aa (.bool true) J An<|Z<|Bq (a:=true) (vs:=[(.bool true)]) Tryz.func77 hI J (.same _)
theorem Ym (a:Airport)(y:Airport):CP Tryz.prog 76 [(.agg (Bd a)),(.agg (Bd y))] (Rp a y) (fun(x:Bool)=>(AV.bool x)):=by
 refine Cq (n:=17) 2 Tryz.func76 J (by decide) J J fun h0 ids hI=>Bk (Al (Rp.eq_1 _ _) ?_)
 refine Y<|O<|Ck (v:=(.agg (Bd a))) (j:=0) hI J J J J J J J fun g=>Ck (v:=(.agg (Bd y))) (j:=1) hI J J J J J J J fun g1=>Aa (.bool false) J An<|Z<|Aj ?_
 refine Y<|O<|Ac 6 [0,1] [(10,(.bool (a.Name==y.Name)))] ?_
 refine C5 6 ((fun(b:Bool)=>.ok b):Bool→R Bool) (fun(b:Bool) (fr:Nat→AV) (h:Ae)=>fr=A2 [(16,(.bool b))]∧h=hp h0 ids [(some (.rows g 2 [(Bd a)])),(some (.rows g1 2 [(Bd y)]))]) ?_ fun hJ=>Dr (fun hb1=>?_) (fun hb1=>?_)
 ·rintro b fr h ⟨rfl,rfl⟩
  refine Aa (.bool b) J An<|Z<|Bq (a:=b) (vs:=[(.bool b)]) Tryz.func76 hI J (.same _)
 ·refine Ax (t:=10) hb1 J<|Ac 4 [0,1] [(14,(.sl 2 (List.map Da y.Modes))),(12,(.sl 2 (List.map Da a.Modes)))] ?_
  refine Bx [(.sl 2 (List.map Da a.Modes)),(.sl 2 (List.map Da y.Modes))] J (Ch (tj:=10) J J) J J ((W5 a.Modes y.Modes) _) (fun v _=>Cc Tryz.func76 hI) fun r _=>Aa (.bool r) J (Eg (t:=true) J J)<|Bj<|B8 [(16,(.bool r))] (FI J)<|hJ r _ _ ⟨J,J⟩
 refine Ax (t:=10) hb1 J<|Ac 6 [] [(16,(.bool false))] ?_
 refine Bj<|B8 [(16,(.bool false))] (FI J)<|hJ false _ _ ⟨J,J⟩
theorem Kf (s1:List Airport)(s2:List Airport):CP Tryz.prog 75 [(.sl 2 (List.map Bd s1)),(.sl 2 (List.map Bd s2)),(.func (.func 76) [] [])] (B9 s1 s2) (fun(x:Bool)=>(AV.bool x)):=by
 refine Cq (n:=32) 2 Tryz.func75 J (by decide) J J fun h0 ids hI=>Bk (Al (B9.eq_1 _ _) ?_)
 refine Y<|O<|Aa (.bool false) J An<|Z<|Y<|Y<|O ?_
 refine Aa (.sl 2 (List.map Bd s1)) J Ad<|Aa (.I (s1.length:Int)) J (A3 (Be Me))<|Aa (.sl 2 (List.map Bd s2)) J Ad<|Aa (.I (s2.length:Int)) J (A3 (Be Me))<|Aa (.bool ((s1.length:Int) != (s2.length:Int))) J (Bc J J J)<|Z<|B3 J (fun hc=>?_) (fun hc=>?_)
 ·refine Y<|O<|Aa (.bool false) J An<|Z<|Bq (a:=false) (vs:=[(.bool false)]) Tryz.func75 hI J (.same _)
 refine Ay<|Y<|Y<|O<|Aa (.sl 2 (List.map Bd s1)) J Ad<|Aa (.I (s1.length:Int)) J (A3 (Be Me))<|Aa (.I 0) J Ad ?_
 refine Z<|A9<|D0 [(1,(.sl 2 (List.map Bd s2))),(2,(.func (.func 76) [] [])),(15,(.sl 2 (List.map Bd s1))),(16,(.I (s1.length:Int))),(17,(.I 0))] (FI J)<|Ed (P:=Tryz.prog) s1 (fun j a=>fun _=>Dc s2 j a) ((Ds (fun _=>.ok true) (fun r=>.ok r)):(Unit ⊕ Bool)→R Bool) (fun j=>fun _=>fun(fr:Nat→AV) (h:Ae)=>fr=A2 [(1,(.sl 2 (List.map Bd s2))),(2,(.func (.func 76) [] [])),(15,(.sl 2 (List.map Bd s1))),(16,(.I (s1.length:Int))),(17,(.I (j:Int)))]∧h=hp h0 ids [none,none]) () ?_ ?_ ?_
 ·exact⟨J,J⟩
 ·rintro j a ha W hW _ fr h ⟨rfl,rfl⟩
  refine Al (m':=Dc s2 j a) J (Al (Dc.eq_1 _ _ _) ?_)
  refine Y<|O<|Aa (.bool (decide ((j:Int)<(s1.length:Int)))) J (Bc J J J)<|Z<|Y<|Dz (t:=15) (L:=s1) J fun hlim=>Cw J (Int.ofNat_lt.2 (A7 ha)) ?_
  refine Ay<|Y<|A9<|Y<|O<|Aa (.I (j:Int)) J Ad<|Aa (.cp (Bd a) 0) J (Bt (Db Me Ic J ha)) ?_
  refine Aa (.agg (Bd a)) J (As (Cf Ic J))<|Bb (j:=0) hI J J J J Ic J fun g=>Aa (.I (j:Int)) J An<|Aq (Aw (v:=(.agg (Bd a))) hI J J J J Ic J J J J J)<|Z<|Aj ?_
  refine Y<|O<|Ac 2 [] [(23,(.I (j:Int))),(22,(.sl 2 (List.map Bd s2)))] ?_
  refine Ea fun a1 hz hx1=>Aa (.cp (Bd a1) 0) J (Bt (De Me Ic J hz hx1))<|Aa (.agg (Bd a1)) J (As (Cf Ic J))<|Bb (j:=1) hI J J J J Ic J fun g1=>Aq (Aw (v:=(.agg (Bd a1))) hI J J J J Ic J J J J J)<|Z<|Aj ?_
  refine Y<|O<|Ac 3 [0,1] [(28,(.agg (Bd a1))),(27,(.agg (Bd a))),(26,(.func (.func 76) [] []))] ?_
  refine Bx [(.agg (Bd a)),(.agg (Bd a1))] J J J J ((Ym a a1) _) (fun v _=>Cc Tryz.func75 hI) fun r _=>Aa (.bool (!r)) J (Pl J)<|Z<|Dx J (fun hc1=>?_) (fun hc1=>?_)
  ·refine Ay<|Bn<|O<|Ac 2 [] [(17,(.I (IntKind.wrap .i64 ((j:Int)+1))))] ?_
   refine Z<|D2 [none,none] hI J (.drop (.drop .nil))<|Bo (E0 (hW () _ _ ⟨J,J⟩)) (.cons J (.cons J (.cons J (.cons J (.cons (Dw (A7 ha) hlim) .nil)))))
  refine Y<|O<|Aa (.bool false) J An<|Z<|Ey<|Fr<|Bq (a:=false) (vs:=[(.bool false)]) Tryz.func75 hI J (.same _)
 rintro _ fr h ⟨rfl,rfl⟩
 refine Al (E3 _ _ _)<|Y<|O<|Aa (.bool (decide ((s1.length:Int)<(s1.length:Int)))) J (Bc J J J)<|Z<|Y<|Cx J (Int.lt_irrefl _) ?_
 refine C4 J<|Y<|O<|Aa (.bool true) J An<|Z<|Bq (a:=true) (vs:=[(.bool true)]) Tryz.func75 hI J (.same _)
theorem Vl (s1:List Class)(s2:List Class):CP Tryz.prog 78 [(.sl 4 (List.map B6 s1)),(.sl 4 (List.map B6 s2))] (F7 s1 s2) (fun(x:Bool)=>(AV.bool x)):=by
 refine Cq (n:=26) 0 Tryz.func78 J (by decide) J J fun h0 ids hI=>Bk (Al (F7.eq_1 _ _) ?_)
 refine Y<|O<|Aa (.bool false) J An<|Z<|Y<|Y<|O ?_
 refine Aa (.sl 4 (List.map B6 s1)) J Ad<|Aa (.I (s1.length:Int)) J (A3 (Be Ld))<|Aa (.sl 4 (List.map B6 s2)) J Ad<|Aa (.I (s2.length:Int)) J (A3 (Be Ld))<|Aa (.bool ((s1.length:Int) != (s2.length:Int))) J (Bc J J J)<|Z<|B3 J (fun hc=>?_) (fun hc=>?_)
 ·refine Y<|O<|Aa (.bool false) J An<|Z<|Bq (a:=false) (vs:=[(.bool false)]) Tryz.func78 hI J (.same _)
 refine Ay<|Y<|Y<|O<|Aa (.sl 4 (List.map B6 s1)) J Ad<|Aa (.I (s1.length:Int)) J (A3 (Be Ld))<|Aa (.I 0) J Ad ?_
 refine Z<|A9<|D0 [(0,(.sl 4 (List.map B6 s1))),(1,(.sl 4 (List.map B6 s2))),(12,(.I (s1.length:Int))),(13,(.I 0))] (FI J)<|Ed (P:=Tryz.prog) s1 (fun j a=>fun _=>Lj s2 j a) ((Ds (fun _=>.ok true) (fun r=>.ok r)):(Unit ⊕ Bool)→R Bool) (fun j=>fun _=>fun(fr:Nat→AV) (h:Ae)=>fr=A2 [(0,(.sl 4 (List.map B6 s1))),(1,(.sl 4 (List.map B6 s2))),(12,(.I (s1.length:Int))),(13,(.I (j:Int)))]∧h=hp h0 ids []) () ?_ ?_ ?_
 ·exact⟨J,J⟩
 ·rintro j a ha W hW _ fr h ⟨rfl,rfl⟩
  refine Al (m':=Lj s2 j a) J (Al (Lj.eq_1 _ _ _) ?_)
  refine Y<|O<|Aa (.bool (decide ((j:Int)<(s1.length:Int)))) J (Bc J J J)<|Z<|Y<|Dz (t:=0) (L:=s1) J fun hlim=>Cw J (Int.ofNat_lt.2 (A7 ha)) ?_
  refine Ay<|Y<|A9<|Y<|O<|Ac 2 [] [(5,(.I (j:Int)))] ?_
  refine Z<|Y<|C2 Fa [[],[],[0,1],[0,1,2],[],[],[4,5],[4,5,6],[0,1,2,3,4,5,6,7]] [(false,0),(false,1),(false,2),(false,3),(false,4),(false,5),(false,6),(false,7),(false,8)] (by kernel_rfl)<|Ag (.sl 4 (List.map B6 s1)) J J Ad<|Ag (.I (j:Int)) J J Ad<|Ag (.cp (B6 a) 0) J J (Bt (Db Ld K9 J ha))<|Ag (.agg (B6 a)) J J (As (Cf K9 J)) ?_
  refine Ag (.sl 4 (List.map B6 s2)) J J Ad<|Ag (.I (j:Int)) J J Ad<|Nr fun a1 hz hx1=>Ag (.cp (B6 a1) 0) J J (Bt (De Ld K9 J hz hx1))<|Ag (.agg (B6 a1)) J J (As (Cf K9 J))<|Ag (.bool (!((a.Name==a1.Name)&&((a.Slow==a1.Slow)&&((a.Fast==a1.Fast)&&(a.Places==a1.Places)))))) J J (Bc (Agm J J) J Agn)<|Cl ?_
  refine Dx J (fun hc1=>?_) (fun hc1=>?_)
  ·refine Ay<|Bn<|O<|Ac 2 [] [(13,(.I (IntKind.wrap .i64 ((j:Int)+1))))] ?_
   refine Z<|Bo (E0 (hW () _ _ ⟨J,J⟩)) (.cons J (.cons J (.cons J (.cons (Dw (A7 ha) hlim) .nil))))
  refine Y<|O<|Aa (.bool false) J An<|Z<|Ey<|Fr<|Bq (a:=false) (vs:=[(.bool false)]) Tryz.func78 hI J (.same _)
 rintro _ fr h ⟨rfl,rfl⟩
 refine Al (E3 _ _ _)<|Y<|O<|Aa (.bool (decide ((s1.length:Int)<(s1.length:Int)))) J (Bc J J J)<|Z<|Y<|Cx J (Int.lt_irrefl _) ?_
 refine C4 J<|Y<|O<|Aa (.bool true) J An<|Z<|Bq (a:=true) (vs:=[(.bool true)]) Tryz.func78 hI J (.same _)
theorem W7 (s1:List Rule)(s2:List Rule):CP Tryz.prog 79 [(.sl 8 (List.map A4 s1)),(.sl 8 (List.map A4 s2))] (Fw s1 s2) (fun(x:Bool)=>(AV.bool x)):=by
 refine Cq (n:=26) 0 Tryz.func79 J (by decide) J J fun h0 ids hI=>Bk (Al (Fw.eq_1 _ _) ?_)
 refine Y<|O<|Aa (.bool false) J An<|Z<|Y<|Y<|O ?_
 refine Aa (.sl 8 (List.map A4 s1)) J Ad<|Aa (.I (s1.length:Int)) J (A3 (Be E7))<|Aa (.sl 8 (List.map A4 s2)) J Ad<|Aa (.I (s2.length:Int)) J (A3 (Be E7))<|Aa (.bool ((s1.length:Int) != (s2.length:Int))) J (Bc J J J)<|Z<|B3 J (fun hc=>?_) (fun hc=>?_)
 ·refine Y<|O<|Aa (.bool false) J An<|Z<|Bq (a:=false) (vs:=[(.bool false)]) Tryz.func79 hI J (.same _)
 refine Ay<|Y<|Y<|O<|Aa (.sl 8 (List.map A4 s1)) J Ad<|Aa (.I (s1.length:Int)) J (A3 (Be E7))<|Aa (.I 0) J Ad ?_
 refine Z<|A9<|D0 [(0,(.sl 8 (List.map A4 s1))),(1,(.sl 8 (List.map A4 s2))),(12,(.I (s1.length:Int))),(13,(.I 0))] (FI J)<|Ed (P:=Tryz.prog) s1 (fun j a=>fun _=>Ly s2 j a) ((Ds (fun _=>.ok true) (fun r=>.ok r)):(Unit ⊕ Bool)→R Bool) (fun j=>fun _=>fun(fr:Nat→AV) (h:Ae)=>fr=A2 [(0,(.sl 8 (List.map A4 s1))),(1,(.sl 8 (List.map A4 s2))),(12,(.I (s1.length:Int))),(13,(.I (j:Int)))]∧h=hp h0 ids []) () ?_ ?_ ?_
 ·exact⟨J,J⟩
 ·rintro j a ha W hW _ fr h ⟨rfl,rfl⟩
  refine Al (m':=Ly s2 j a) J (Al (Ly.eq_1 _ _ _) ?_)
  refine Y<|O<|Aa (.bool (decide ((j:Int)<(s1.length:Int)))) J (Bc J J J)<|Z<|Y<|Dz (t:=0) (L:=s1) J fun hlim=>Cw J (Int.ofNat_lt.2 (A7 ha)) ?_
  refine Ay<|Y<|A9<|Y<|O<|Ac 2 [] [(5,(.I (j:Int)))] ?_
  refine Z<|Y<|C2 Fa [[],[],[0,1],[0,1,2],[],[],[4,5],[4,5,6],[0,1,2,3,4,5,6,7]] [(false,0),(false,1),(false,2),(false,3),(false,4),(false,5),(false,6),(false,7),(false,8)] (by kernel_rfl)<|Ag (.sl 8 (List.map A4 s1)) J J Ad<|Ag (.I (j:Int)) J J Ad<|Ag (.cp (A4 a) 0) J J (Bt (Db E7 Dk J ha))<|Ag (.agg (A4 a)) J J (As (Cf Dk J)) ?_
  refine Ag (.sl 8 (List.map A4 s2)) J J Ad<|Ag (.I (j:Int)) J J Ad<|Nr fun a1 hz hx1=>Ag (.cp (A4 a1) 0) J J (Bt (De E7 Dk J hz hx1))<|Ag (.agg (A4 a1)) J J (As (Cf Dk J))<|Ag (.bool (!((a.Kind==a1.Kind)&&((a.C==a1.C)&&((a.A==a1.A)&&((a.Class==a1.Class)&&((a.Airport==a1.Airport)&&((a.N==a1.N)&&((a.Hours.From==a1.Hours.From)&&(a.Hours.To==a1.Hours.To)))))))))) J J (Bc (Acw J J) J Acb)<|Cl ?_
  refine Dx J (fun hc1=>?_) (fun hc1=>?_)
  ·refine Ay<|Bn<|O<|Ac 2 [] [(13,(.I (IntKind.wrap .i64 ((j:Int)+1))))] ?_
   refine Z<|Bo (E0 (hW () _ _ ⟨J,J⟩)) (.cons J (.cons J (.cons J (.cons (Dw (A7 ha) hlim) .nil))))
  refine Y<|O<|Aa (.bool false) J An<|Z<|Ey<|Fr<|Bq (a:=false) (vs:=[(.bool false)]) Tryz.func79 hI J (.same _)
 rintro _ fr h ⟨rfl,rfl⟩
 refine Al (E3 _ _ _)<|Y<|O<|Aa (.bool (decide ((s1.length:Int)<(s1.length:Int)))) J (Bc J J J)<|Z<|Y<|Cx J (Int.lt_irrefl _) ?_
 refine C4 J<|Y<|O<|Aa (.bool true) J An<|Z<|Bq (a:=true) (vs:=[(.bool true)]) Tryz.func79 hI J (.same _)
theorem Vz (a:Airspace)(b:Airspace):CP Tryz.prog 19 [(.agg (A0 a)),(.agg (A0 b))] (Na a b) (fun(x:Bool)=>(AV.bool x)):=by
 refine Cq (n:=59) 2 Tryz.func19 J (by decide) J J fun h0 ids hI=>Bk (Al (Na.eq_1 _ _) ?_)
 refine Y<|O<|Ck (v:=(.agg (A0 a))) (j:=0) hI J J J J J J J fun g=>Ck (v:=(.agg (A0 b))) (j:=1) hI J J J J J J J fun g1=>Aa (.bool false) J An<|Z<|Aj ?_
 refine Y<|O<|Ac 4 [0,1] [(8,(.sl 2 (List.map Ar b.Volumes))),(6,(.sl 2 (List.map Ar a.Volumes)))] ?_
 refine Bx [(.sl 2 (List.map Ar a.Volumes)),(.sl 2 (List.map Ar b.Volumes)),(.func (.func 63) [] [])] J J J J ((K5 a.Volumes b.Volumes) _) (fun v _=>Cc Tryz.func19 hI) fun r _=>Aa (.bool r) J Ad<|C5 6 ((fun(b1:Bool)=>(if b1 then(Du a.Configs b.Configs).bind fun r2=>R.ok r2 else R.ok false).bind (fun(b2:Bool)=>(if b2 then(C0 a.Segments b.Segments).bind fun r3=>R.ok r3 else R.ok false).bind (fun(b3:Bool)=>(if b3 then(Cs a.Routes b.Routes).bind fun r4=>R.ok r4 else R.ok false).bind (fun(b4:Bool)=>(if b4 then(B9 a.Airports b.Airports).bind fun r5=>R.ok r5 else R.ok false).bind (fun(b5:Bool)=>(if b5 then(F7 a.Classes b.Classes).bind fun r6=>R.ok r6 else R.ok false).bind (fun(b6:Bool)=>(if b6 then(Fw a.Rules b.Rules).bind fun r7=>R.ok r7 else R.ok false).bind (fun(b7:Bool)=>.ok b7))))))):Bool→R Bool) (fun(b1:Bool) (fr:Nat→AV) (h:Ae)=>fr=A2 [(2,(.q ids 0 g)),(3,(.q ids 1 g1)),(16,(.bool b1))]∧h=hp h0 ids [(some (.rows g 8 [(A0 a)])),(some (.rows g1 8 [(A0 b)]))]) ?_ fun hJ=>Dr (fun hb1=>?_) (fun hb1=>?_)
 ·rintro b1 fr h ⟨rfl,rfl⟩
  refine Aa (.bool b1) J Ad<|C5 6 ((fun(b2:Bool)=>(if b2 then(C0 a.Segments b.Segments).bind fun r3=>R.ok r3 else R.ok false).bind (fun(b3:Bool)=>(if b3 then(Cs a.Routes b.Routes).bind fun r4=>R.ok r4 else R.ok false).bind (fun(b4:Bool)=>(if b4 then(B9 a.Airports b.Airports).bind fun r5=>R.ok r5 else R.ok false).bind (fun(b5:Bool)=>(if b5 then(F7 a.Classes b.Classes).bind fun r6=>R.ok r6 else R.ok false).bind (fun(b6:Bool)=>(if b6 then(Fw a.Rules b.Rules).bind fun r7=>R.ok r7 else R.ok false).bind (fun(b7:Bool)=>.ok b7)))))):Bool→R Bool) (fun(b2:Bool) (fr:Nat→AV) (h:Ae)=>fr=A2 [(2,(.q ids 0 g)),(3,(.q ids 1 g1)),(23,(.bool b2))]∧h=hp h0 ids [(some (.rows g 8 [(A0 a)])),(some (.rows g1 8 [(A0 b)]))]) ?_ fun hJ1=>Dr (fun hb3=>?_) (fun hb3=>?_)
  ·rintro b2 fr h ⟨rfl,rfl⟩
   refine Aa (.bool b2) J Ad<|C5 6 ((fun(b3:Bool)=>(if b3 then(Cs a.Routes b.Routes).bind fun r4=>R.ok r4 else R.ok false).bind (fun(b4:Bool)=>(if b4 then(B9 a.Airports b.Airports).bind fun r5=>R.ok r5 else R.ok false).bind (fun(b5:Bool)=>(if b5 then(F7 a.Classes b.Classes).bind fun r6=>R.ok r6 else R.ok false).bind (fun(b6:Bool)=>(if b6 then(Fw a.Rules b.Rules).bind fun r7=>R.ok r7 else R.ok false).bind (fun(b7:Bool)=>.ok b7))))):Bool→R Bool) (fun(b3:Bool) (fr:Nat→AV) (h:Ae)=>fr=A2 [(2,(.q ids 0 g)),(3,(.q ids 1 g1)),(30,(.bool b3))]∧h=hp h0 ids [(some (.rows g 8 [(A0 a)])),(some (.rows g1 8 [(A0 b)]))]) ?_ fun hJ2=>Dr (fun hb5=>?_) (fun hb5=>?_)
   ·rintro b3 fr h ⟨rfl,rfl⟩
    refine Aa (.bool b3) J Ad<|C5 6 ((fun(b4:Bool)=>(if b4 then(B9 a.Airports b.Airports).bind fun r5=>R.ok r5 else R.ok false).bind (fun(b5:Bool)=>(if b5 then(F7 a.Classes b.Classes).bind fun r6=>R.ok r6 else R.ok false).bind (fun(b6:Bool)=>(if b6 then(Fw a.Rules b.Rules).bind fun r7=>R.ok r7 else R.ok false).bind (fun(b7:Bool)=>.ok b7)))):Bool→R Bool) (fun(b4:Bool) (fr:Nat→AV) (h:Ae)=>fr=A2 [(2,(.q ids 0 g)),(3,(.q ids 1 g1)),(37,(.bool b4))]∧h=hp h0 ids [(some (.rows g 8 [(A0 a)])),(some (.rows g1 8 [(A0 b)]))]) ?_ fun hJ3=>Dr (fun hb7=>?_) (fun hb7=>?_)
    ·rintro b4 fr h ⟨rfl,rfl⟩
     refine Aa (.bool b4) J Ad<|C5 6 ((fun(b5:Bool)=>(if b5 then(F7 a.Classes b.Classes).bind fun r6=>R.ok r6 else R.ok false).bind (fun(b6:Bool)=>(if b6 then(Fw a.Rules b.Rules).bind fun r7=>R.ok r7 else R.ok false).bind (fun(b7:Bool)=>.ok b7))):Bool→R Bool) (fun(b5:Bool) (fr:Nat→AV) (h:Ae)=>fr=A2 [(2,(.q ids 0 g)),(3,(.q ids 1 g1)),(44,(.bool b5))]∧h=hp h0 ids [(some (.rows g 8 [(A0 a)])),(some (.rows g1 8 [(A0 b)]))]) ?_ fun hJ4=>Dr (fun hb9=>?_) (fun hb9=>?_)
     ·rintro b5 fr h ⟨rfl,rfl⟩
      refine Aa (.bool b5) J Ad<|C5 6 ((fun(b6:Bool)=>(if b6 then(Fw a.Rules b.Rules).bind fun r7=>R.ok r7 else R.ok false).bind (fun(b7:Bool)=>.ok b7)):Bool→R Bool) (fun(b6:Bool) (fr:Nat→AV) (h:Ae)=>fr=A2 [(2,(.q ids 0 g)),(3,(.q ids 1 g1)),(51,(.bool b6))]∧h=hp h0 ids [(some (.rows g 8 [(A0 a)])),(some (.rows g1 8 [(A0 b)]))]) ?_ fun hJ5=>Dr (fun hb11=>?_) (fun hb11=>?_)
      ·rintro b6 fr h ⟨rfl,rfl⟩
       refine Aa (.bool b6) J Ad<|C5 6 ((fun(b7:Bool)=>.ok b7):Bool→R Bool) (fun(b7:Bool) (fr:Nat→AV) (h:Ae)=>fr=A2 [(58,(.bool b7))]∧h=hp h0 ids [(some (.rows g 8 [(A0 a)])),(some (.rows g1 8 [(A0 b)]))]) ?_ fun hJ6=>Dr (fun hb13=>?_) (fun hb13=>?_)
       ·rintro b7 fr h ⟨rfl,rfl⟩
        refine Aa (.bool b7) J An<|Z<|Bq (a:=b7) (vs:=[(.bool b7)]) Tryz.func19 hI J (.same _)
       ·refine Ax (t:=52) hb13 J<|Ac 4 [0,1] [(56,(.sl 8 (List.map A4 b.Rules))),(54,(.sl 8 (List.map A4 a.Rules)))] ?_
        refine Bx [(.sl 8 (List.map A4 a.Rules)),(.sl 8 (List.map A4 b.Rules))] J (Ch (tj:=52) J J) J J ((W7 a.Rules b.Rules) _) (fun v _=>Cc Tryz.func19 hI) fun r7 _=>Aa (.bool r7) J (Eg (t:=true) J J)<|Bj<|B8 [(58,(.bool r7))] (FI J)<|hJ6 r7 _ _ ⟨J,J⟩
       refine Ax (t:=52) hb13 J<|Ac 6 [] [(58,(.bool false))] ?_
       refine Bj<|B8 [(58,(.bool false))] (FI J)<|hJ6 false _ _ ⟨J,J⟩
      ·refine Ax (t:=45) hb11 J<|Ac 4 [0,1] [(49,(.sl 4 (List.map B6 b.Classes))),(47,(.sl 4 (List.map B6 a.Classes)))] ?_
       refine Bx [(.sl 4 (List.map B6 a.Classes)),(.sl 4 (List.map B6 b.Classes))] J (Ch (tj:=45) J J) J J ((Vl a.Classes b.Classes) _) (fun v _=>Cc Tryz.func19 hI) fun r6 _=>Aa (.bool r6) J (Eg (t:=true) J J)<|Bj<|B8 [(2,(.q ids 0 g)),(3,(.q ids 1 g1)),(51,(.bool r6))] (FI J)<|hJ5 r6 _ _ ⟨J,J⟩
      refine Ax (t:=45) hb11 J<|Ac 6 [] [(51,(.bool false))] ?_
      refine Bj<|B8 [(2,(.q ids 0 g)),(3,(.q ids 1 g1)),(51,(.bool false))] (FI J)<|hJ5 false _ _ ⟨J,J⟩
     ·refine Ax (t:=38) hb9 J<|Ac 4 [0,1] [(42,(.sl 2 (List.map Bd b.Airports))),(40,(.sl 2 (List.map Bd a.Airports)))] ?_
      refine Bx [(.sl 2 (List.map Bd a.Airports)),(.sl 2 (List.map Bd b.Airports)),(.func (.func 76) [] [])] J (Ch (tj:=38) J J) J J ((Kf a.Airports b.Airports) _) (fun v _=>Cc Tryz.func19 hI) fun r5 _=>Aa (.bool r5) J (Eg (t:=true) J J)<|Bj<|B8 [(2,(.q ids 0 g)),(3,(.q ids 1 g1)),(44,(.bool r5))] (FI J)<|hJ4 r5 _ _ ⟨J,J⟩
     refine Ax (t:=38) hb9 J<|Ac 6 [] [(44,(.bool false))] ?_
     refine Bj<|B8 [(2,(.q ids 0 g)),(3,(.q ids 1 g1)),(44,(.bool false))] (FI J)<|hJ4 false _ _ ⟨J,J⟩
    ·refine Ax (t:=31) hb7 J<|Ac 4 [0,1] [(35,(.sl 7 (List.map Bs b.Routes))),(33,(.sl 7 (List.map Bs a.Routes)))] ?_
     refine Bx [(.sl 7 (List.map Bs a.Routes)),(.sl 7 (List.map Bs b.Routes)),(.func (.func 74) [] [])] J (Ch (tj:=31) J J) J J ((Lr a.Routes b.Routes) _) (fun v _=>Cc Tryz.func19 hI) fun r4 _=>Aa (.bool r4) J (Eg (t:=true) J J)<|Bj<|B8 [(2,(.q ids 0 g)),(3,(.q ids 1 g1)),(37,(.bool r4))] (FI J)<|hJ3 r4 _ _ ⟨J,J⟩
    refine Ax (t:=31) hb7 J<|Ac 6 [] [(37,(.bool false))] ?_
    refine Bj<|B8 [(2,(.q ids 0 g)),(3,(.q ids 1 g1)),(37,(.bool false))] (FI J)<|hJ3 false _ _ ⟨J,J⟩
   ·refine Ax (t:=24) hb5 J<|Ac 4 [0,1] [(28,(.sl 5 (List.map Bf b.Segments))),(26,(.sl 5 (List.map Bf a.Segments)))] ?_
    refine Bx [(.sl 5 (List.map Bf a.Segments)),(.sl 5 (List.map Bf b.Segments)),(.func (.func 72) [] [])] J (Ch (tj:=24) J J) J J ((Ke a.Segments b.Segments) _) (fun v _=>Cc Tryz.func19 hI) fun r3 _=>Aa (.bool r3) J (Eg (t:=true) J J)<|Bj<|B8 [(2,(.q ids 0 g)),(3,(.q ids 1 g1)),(30,(.bool r3))] (FI J)<|hJ2 r3 _ _ ⟨J,J⟩
   refine Ax (t:=24) hb5 J<|Ac 6 [] [(30,(.bool false))] ?_
   refine Bj<|B8 [(2,(.q ids 0 g)),(3,(.q ids 1 g1)),(30,(.bool false))] (FI J)<|hJ2 false _ _ ⟨J,J⟩
  ·refine Ax (t:=17) hb3 J<|Ac 4 [0,1] [(21,(.sl 3 (List.map Bl b.Configs))),(19,(.sl 3 (List.map Bl a.Configs)))] ?_
   refine Bx [(.sl 3 (List.map Bl a.Configs)),(.sl 3 (List.map Bl b.Configs)),(.func (.func 70) [] [])] J (Ch (tj:=17) J J) J J ((K3 a.Configs b.Configs) _) (fun v _=>Cc Tryz.func19 hI) fun r2 _=>Aa (.bool r2) J (Eg (t:=true) J J)<|Bj<|B8 [(2,(.q ids 0 g)),(3,(.q ids 1 g1)),(23,(.bool r2))] (FI J)<|hJ1 r2 _ _ ⟨J,J⟩
  refine Ax (t:=17) hb3 J<|Ac 6 [] [(23,(.bool false))] ?_
  refine Bj<|B8 [(2,(.q ids 0 g)),(3,(.q ids 1 g1)),(23,(.bool false))] (FI J)<|hJ1 false _ _ ⟨J,J⟩
 ·refine Ax (t:=10) hb1 J<|Ac 4 [0,1] [(14,(.sl 5 (List.map A8 b.Sectors))),(12,(.sl 5 (List.map A8 a.Sectors)))] ?_
  refine Bx [(.sl 5 (List.map A8 a.Sectors)),(.sl 5 (List.map A8 b.Sectors)),(.func (.func 66) [] [])] J (Ch (tj:=10) J J) J J ((K4 a.Sectors b.Sectors) _) (fun v _=>Cc Tryz.func19 hI) fun r1 _=>Aa (.bool r1) J (Eg (t:=true) J J)<|Bj<|B8 [(2,(.q ids 0 g)),(3,(.q ids 1 g1)),(16,(.bool r1))] (FI J)<|hJ r1 _ _ ⟨J,J⟩
 refine Ax (t:=10) hb1 J<|Ac 6 [] [(16,(.bool false))] ?_
 refine Bj<|B8 [(2,(.q ids 0 g)),(3,(.q ids 1 g1)),(16,(.bool false))] (FI J)<|hJ false _ _ ⟨J,J⟩
theorem Abz:CP Tryz.prog 9 [] (Qz) (fun(x:Bool)=>(AV.bool x)):=by
 refine Cq (n:=158) 7 Tryz.func9 J (by decide) J J fun h0 ids hI=>Bk (Al (Qz.eq_1) ?_)
 refine Y<|O<|Aa (.bool false) J An<|Z<|Y<|O<|Bx [(.str [])] J J J J ((J1 []) _) (fun v _=>Cc Tryz.func9 hI) fun r _=>?_
 refine Ac 4 [] [(28,(.I r.2.2)),(27,(.I r.2.1)),(26,(.agg (A0 r.1)))] ?_
 refine Bb (j:=0) hI J J J J Eh J fun g=>Aq (Aw (v:=(.agg (A0 r.1))) hI J J J J Eh J J J J J)<|Ac 2 [] [(3,(.I r.2.2)),(2,(.I r.2.1))] ?_
 refine Z<|Aj ?_
 refine Y<|O<|Bx [(.str [118,111,108,117,109,101,32,97,32,99,108,111,115,101,100,32,54,48,32,116,111,32,54,48,59])] J J J J ((J1 [118,111,108,117,109,101,32,97,32,99,108,111,115,101,100,32,54,48,32,116,111,32,54,48,59]) _) (fun v _=>Cc Tryz.func9 hI) fun r1 _=>Ac 4 [] [(33,(.I r1.2.2)),(32,(.I r1.2.1)),(31,(.agg (A0 r1.1)))] ?_
 refine Bb (j:=1) hI J J J J Eh J fun g1=>Aq (Aw (v:=(.agg (A0 r1.1))) hI J J J J Eh J J J J J)<|Ac 2 [] [(6,(.I r1.2.2)),(5,(.I r1.2.1))] ?_
 refine Z<|Aj ?_
 refine Y<|O<|Bx [(.str [101,120,101,109,112,116,32,104,101,97,118,121])] J J J J ((J1 [101,120,101,109,112,116,32,104,101,97,118,121]) _) (fun v _=>Cc Tryz.func9 hI) fun r2 _=>Ac 4 [] [(38,(.I r2.2.2)),(37,(.I r2.2.1)),(36,(.agg (A0 r2.1)))] ?_
 refine Bb (j:=2) hI J J J J Eh J fun g2=>Aq (Aw (v:=(.agg (A0 r2.1))) hI J J J J Eh J J J J J)<|Ac 2 [] [(9,(.I r2.2.2)),(8,(.I r2.2.1))] ?_
 refine Z<|Aj ?_
 refine Y<|O<|Bx [(.str [108,111,110,103,101,115,116,32,104,101,97,118,121,32,51,53,59])] J J J J ((J1 [108,111,110,103,101,115,116,32,104,101,97,118,121,32,51,53,59]) _) (fun v _=>Cc Tryz.func9 hI) fun r3 _=>Ac 4 [] [(43,(.I r3.2.2)),(42,(.I r3.2.1)),(41,(.agg (A0 r3.1)))] ?_
 refine Bb (j:=3) hI J J J J Eh J fun g3=>Aq (Aw (v:=(.agg (A0 r3.1))) hI J J J J Eh J J J J J)<|Ac 2 [] [(12,(.I r3.2.2)),(11,(.I r3.2.1))] ?_
 refine Z<|Aj ?_
 refine Y<|O<|Aa (.agg [(.str [120]),.emp]) J (Kw (Pd Ic All J))<|C8 (e:=Bd) (L:=[({ Name:=[120],Modes:=[] }:Airport)]) (st:=2) (rows:=[[(.str [120]),.emp]]) J Me Ic J J J J J (.cons (.cons (.same _) (.cons (.emp _) .nil)) .nil) (fun x=>Tv x) J J<|Aa (.agg [.emp,.emp,.emp,.emp,.emp,(.sl 2 (List.map Bd [({ Name:=[120],Modes:=[] }:Airport)])),.emp,.emp]) J (Kw (Pd Eh Afy J))<|Bx [(.agg [.emp,.emp,.emp,.emp,.emp,(.sl 2 (List.map Bd [({ Name:=[120],Modes:=[] }:Airport)])),.emp,.emp])] J J J J (fun hb=>Bh.weak (.cons (.aggL (.cons (.emp _) (.cons (.emp _) (.cons (.emp _) (.cons (.emp _) (.cons (.emp _) (.cons (.same _) (.cons (.emp _) (.cons (.emp _) .nil))))))))) .nil) ((Q0 ({ Volumes:=[],Sectors:=[],Configs:=[],Segments:=[],Routes:=[],Airports:=[({ Name:=[120],Modes:=[] }:Airport)],Classes:=[],Rules:=[] }:Airspace)) _ hb)) (fun v _=>Cc Tryz.func9 hI) fun r4 _=>Ac 5 [] [(14,(.I r4.2))] ?_
 refine Z<|Y<|O<|Aa (.agg [(.str [97]),.emp]) J (Kw (Pd I8 Alu J))<|C8 (e:=Ar) (L:=[({ Name:=[97],Closed:=[] }:Volume)]) (st:=2) (rows:=[[(.str [97]),.emp]]) J Ib I8 J J J J J (.cons (.cons (.same _) (.cons (.emp _) .nil)) .nil) (fun x=>U7 x) J J<|Aa (.agg [(.sl 2 (List.map Ar [({ Name:=[97],Closed:=[] }:Volume)])),.emp,.emp,.emp,.emp,.emp,.emp,.emp]) J (Kw (Pd Eh Afy J))<|Bx [(.agg [(.sl 2 (List.map Ar [({ Name:=[97],Closed:=[] }:Volume)])),.emp,.emp,.emp,.emp,.emp,.emp,.emp])] J J J J (fun hb=>Bh.weak (.cons (.aggL (.cons (.same _) (.cons (.emp _) (.cons (.emp _) (.cons (.emp _) (.cons (.emp _) (.cons (.emp _) (.cons (.emp _) (.cons (.emp _) .nil))))))))) .nil) ((Q0 ({ Volumes:=[({ Name:=[97],Closed:=[] }:Volume)],Sectors:=[],Configs:=[],Segments:=[],Routes:=[],Airports:=[],Classes:=[],Rules:=[] }:Airspace)) _ hb)) (fun v _=>Cc Tryz.func9 hI) fun r5 _=>?_
 refine Ac 5 [] [(16,(.I r5.2)),(15,(.str r5.1))] ?_
 refine Z<|Y<|O<|Bx [(.str [99,117,114,102,101,119,32,104,101,97,118,121,32,97,116,32,120,32,48,32,116,111,32,51,48,48,59,32,115,101,99,116,111,114,32,115,32,61,32,97,44,32,98,32,114,97,100,97,114,32,57,32,112,114,111,99,101,100,117,114,97,108,32,52,59])] J J J J ((J1 [99,117,114,102,101,119,32,104,101,97,118,121,32,97,116,32,120,32,48,32,116,111,32,51,48,48,59,32,115,101,99,116,111,114,32,115,32,61,32,97,44,32,98,32,114,97,100,97,114,32,57,32,112,114,111,99,101,100,117,114,97,108,32,52,59]) _) (fun v _=>Cc Tryz.func9 hI) fun r6 _=>Ac 4 [] [(62,(.I r6.2.2)),(61,(.I r6.2.1)),(60,(.agg (A0 r6.1)))] ?_
 refine Bb (j:=4) hI J J J J Eh J fun g4=>Aq (Aw (v:=(.agg (A0 r6.1))) hI J J J J Eh J J J J J)<|Ac 2 [] [(19,(.I r6.2.2)),(18,(.I r6.2.1))] ?_
 refine Z<|Aj ?_
 refine Y<|O<|C8 (e:=rS) (L:=[[97],[98]]) (st:=1) (rows:=[[(.str [97])],[(.str [98])]]) J Dl Cg J J J J J (.cons (RowSim.refl _) (.cons (RowSim.refl _) .nil)) (fun x=>Fy x) J J<|Aa (.agg [(.str [115]),(.sl 1 (List.map rS [[97],[98]])),.emp,(.I 9),(.I 4)]) J (Kw (Pd Gr Amg J))<|C8 (e:=A8) (L:=[({ Name:=[115],Names:=[[97],[98]],Volumes:=[],Radar:=9,Procedural:=4 }:Sector)]) (st:=5) (rows:=[[(.str [115]),(.sl 1 (List.map rS [[97],[98]])),.emp,(.I 9),(.I 4)]]) J Lb Gr J J J J J (.cons (.cons (.same _) (.cons (.same _) (.cons (.emp _) (.cons (.same _) (.cons (.same _) .nil))))) .nil) (fun x=>Sm x) J J<|Ac 2 [] [(67,(.agg [(.I 1),(.str [104,101,97,118,121]),(.str [120]),(.I 0),(.I 0),(.I 0),(.I 0),(.I 300)]))] ?_
 refine C8 (e:=A4) (L:=[({ Kind:=1,C:=[104,101,97,118,121],A:=[120],Class:=0,Airport:=0,N:=0,Hours:=({ From:=0,To:=300 }:Span) }:Rule)]) (st:=8) (rows:=[[(.I 1),(.str [104,101,97,118,121]),(.str [120]),(.I 0),(.I 0),(.I 0),(.I 0),(.I 300)]]) J E7 Dk J J J J J (.cons (.cons (.same _) (.cons (.same _) (.cons (.same _) (.cons (.same _) (.cons (.same _) (.cons (.same _) (.cons (.same _) (.cons (.same _) .nil)))))))) .nil) (fun x=>Rt x) J J<|Aa (.agg [.emp,(.sl 5 (List.map A8 [({ Name:=[115],Names:=[[97],[98]],Volumes:=[],Radar:=9,Procedural:=4 }:Sector)])),.emp,.emp,.emp,.emp,.emp,(.sl 8 (List.map A4 [({ Kind:=1,C:=[104,101,97,118,121],A:=[120],Class:=0,Airport:=0,N:=0,Hours:=({ From:=0,To:=300 }:Span) }:Rule)]))]) J (Kw (Pd Eh Afy J))<|Bb (j:=5) hI J J J J Eh J fun g5=>Aq (Aw (v:=(.agg [.emp,(.sl 5 (List.map A8 [({ Name:=[115],Names:=[[97],[98]],Volumes:=[],Radar:=9,Procedural:=4 }:Sector)])),.emp,.emp,.emp,.emp,.emp,(.sl 8 (List.map A4 [({ Kind:=1,C:=[104,101,97,118,121],A:=[120],Class:=0,Airport:=0,N:=0,Hours:=({ From:=0,To:=300 }:Span) }:Rule)]))])) hI J J J J Eh J J J J J)<|Z<|Aj ?_
 refine Y<|O<|Ac 1 [5] [(70,(.agg [.emp,(.sl 5 (List.map A8 [({ Name:=[115],Names:=[[97],[98]],Volumes:=[],Radar:=9,Procedural:=4 }:Sector)])),.emp,.emp,.emp,.emp,.emp,(.sl 8 (List.map A4 [({ Kind:=1,C:=[104,101,97,118,121],A:=[120],Class:=0,Airport:=0,N:=0,Hours:=({ From:=0,To:=300 }:Span) }:Rule)]))]))] ?_
 refine Bb (j:=6) hI J J J J Eh J fun g6=>Aq (Aw (v:=(.agg [.emp,(.sl 5 (List.map A8 [({ Name:=[115],Names:=[[97],[98]],Volumes:=[],Radar:=9,Procedural:=4 }:Sector)])),.emp,.emp,.emp,.emp,.emp,(.sl 8 (List.map A4 [({ Kind:=1,C:=[104,101,97,118,121],A:=[120],Class:=0,Airport:=0,N:=0,Hours:=({ From:=0,To:=300 }:Span) }:Rule)]))])) hI J J J J Eh J J J J J)<|Z<|Aj ?_
 refine Y<|O<|C8 (e:=rS) (L:=[[97],[98]]) (st:=1) (rows:=[[(.str [97])],[(.str [98])]]) J Dl Cg J J J J J (.cons (RowSim.refl _) (.cons (RowSim.refl _) .nil)) (fun x=>Fy x) J J<|C8 (e:=(rI .i64)) (L:=[0,1]) (st:=1) (rows:=[[(.I 0)],[(.I 1)]]) J O4 Dq J J J J J (.cons (RowSim.refl _) (.cons (RowSim.refl _) .nil)) (fun x=>Agb x) J J<|Aa (.agg [(.str [115]),(.sl 1 (List.map rS [[97],[98]])),(.sl 1 (List.map (rI .i64) [0,1])),(.I 9),(.I 4)]) J (Kw (Pd Gr Amg J))<|C8 (e:=A8) (L:=[({ Name:=[115],Names:=[[97],[98]],Volumes:=[0,1],Radar:=9,Procedural:=4 }:Sector)]) (st:=5) (rows:=[[(.str [115]),(.sl 1 (List.map rS [[97],[98]])),(.sl 1 (List.map (rI .i64) [0,1])),(.I 9),(.I 4)]]) J Lb Gr J J J J J (.cons (.cons (.same _) (.cons (.same _) (.cons (.same _) (.cons (.same _) (.cons (.same _) .nil))))) .nil) (fun x=>Sm x) J J<|Aa (.ptr (ix ids 6) g6 0 1) J (Cb (B0 (c:=0) (off:=1) (i:=1) Eh J Lb J)) ?_
 refine Aq (Aw (v:=(.sl 5 (List.map A8 [({ Name:=[115],Names:=[[97],[98]],Volumes:=[0,1],Radar:=9,Procedural:=4 }:Sector)]))) hI J J J J Lb J J J J J)<|Z<|Aj ?_
 refine Y<|O<|Ac 1 [6] [(77,(.agg [.emp,(.sl 5 (List.map A8 [({ Name:=[115],Names:=[[97],[98]],Volumes:=[0,1],Radar:=9,Procedural:=4 }:Sector)])),.emp,.emp,.emp,.emp,.emp,(.sl 8 (List.map A4 [({ Kind:=1,C:=[104,101,97,118,121],A:=[120],Class:=0,Airport:=0,N:=0,Hours:=({ From:=0,To:=300 }:Span) }:Rule)]))]))] ?_
 refine Bx [(.agg [.emp,(.sl 5 (List.map A8 [({ Name:=[115],Names:=[[97],[98]],Volumes:=[0,1],Radar:=9,Procedural:=4 }:Sector)])),.emp,.emp,.emp,.emp,.emp,(.sl 8 (List.map A4 [({ Kind:=1,C:=[104,101,97,118,121],A:=[120],Class:=0,Airport:=0,N:=0,Hours:=({ From:=0,To:=300 }:Span) }:Rule)]))])] J J J J (fun hb=>Bh.weak (.cons (.aggL (.cons (.emp _) (.cons (.same _) (.cons (.emp _) (.cons (.emp _) (.cons (.emp _) (.cons (.emp _) (.cons (.emp _) (.cons (.same _) .nil))))))))) .nil) ((Q0 ({ Volumes:=[],Sectors:=[({ Name:=[115],Names:=[[97],[98]],Volumes:=[0,1],Radar:=9,Procedural:=4 }:Sector)],Configs:=[],Segments:=[],Routes:=[],Airports:=[],Classes:=[],Rules:=[({ Kind:=1,C:=[104,101,97,118,121],A:=[120],Class:=0,Airport:=0,N:=0,Hours:=({ From:=0,To:=300 }:Span) }:Rule)] }:Airspace)) _ hb)) (fun v _=>Cc Tryz.func9 hI) fun r7 _=>Ac 5 [] [(23,(.I r7.2)),(22,(.str r7.1))] ?_
 refine Z<|Y<|Y<|O<|Ac 3 [] [(83,(.bool (r.2.2 != 0)))] ?_
 refine Br 3 [(1,(.q ids 0 g)),(2,(.I r.2.1)),(5,(.I r1.2.1)),(8,(.I r2.2.1)),(9,(.I r2.2.2)),(11,(.I r3.2.1)),(12,(.I r3.2.2)),(14,(.I r4.2)),(15,(.str r5.1)),(16,(.I r5.2)),(17,(.q ids 4 g4)),(18,(.I r6.2.1)),(19,(.I r6.2.2)),(20,(.q ids 5 g5)),(21,(.q ids 6 g6)),(22,(.str r7.1)),(23,(.I r7.2)),(86,(.bool ((r.2.2 != 0)||(r1.2.2 != 80))))] ?_ fun hJ=>Bm (r.2.2 != 0) (fun hb1=>?_) (fun hb1=>?_)
 ·refine Aa (.bool ((r.2.2 != 0)||(r1.2.2 != 80))) J Ad<|Br 3 [(1,(.q ids 0 g)),(2,(.I r.2.1)),(5,(.I r1.2.1)),(8,(.I r2.2.1)),(11,(.I r3.2.1)),(12,(.I r3.2.2)),(14,(.I r4.2)),(15,(.str r5.1)),(16,(.I r5.2)),(17,(.q ids 4 g4)),(18,(.I r6.2.1)),(19,(.I r6.2.2)),(20,(.q ids 5 g5)),(21,(.q ids 6 g6)),(22,(.str r7.1)),(23,(.I r7.2)),(90,(.bool (((r.2.2 != 0)||(r1.2.2 != 80))||(r2.2.2 != 80))))] ?_ fun hJ1=>Bm ((r.2.2 != 0)||(r1.2.2 != 80)) (fun hb3=>?_) (fun hb3=>?_)
  ·refine Aa (.bool (((r.2.2 != 0)||(r1.2.2 != 80))||(r2.2.2 != 80))) J Ad<|Br 3 [(1,(.q ids 0 g)),(2,(.I r.2.1)),(5,(.I r1.2.1)),(8,(.I r2.2.1)),(11,(.I r3.2.1)),(14,(.I r4.2)),(15,(.str r5.1)),(16,(.I r5.2)),(17,(.q ids 4 g4)),(18,(.I r6.2.1)),(19,(.I r6.2.2)),(20,(.q ids 5 g5)),(21,(.q ids 6 g6)),(22,(.str r7.1)),(23,(.I r7.2)),(94,(.bool ((((r.2.2 != 0)||(r1.2.2 != 80))||(r2.2.2 != 80))||(r3.2.2 != 80))))] ?_ fun hJ2=>Bm (((r.2.2 != 0)||(r1.2.2 != 80))||(r2.2.2 != 80)) (fun hb5=>?_) (fun hb5=>?_)
   ·refine Aa (.bool ((((r.2.2 != 0)||(r1.2.2 != 80))||(r2.2.2 != 80))||(r3.2.2 != 80))) J Ad<|Br 3 [(1,(.q ids 0 g)),(2,(.I r.2.1)),(5,(.I r1.2.1)),(8,(.I r2.2.1)),(11,(.I r3.2.1)),(15,(.str r5.1)),(16,(.I r5.2)),(17,(.q ids 4 g4)),(18,(.I r6.2.1)),(19,(.I r6.2.2)),(20,(.q ids 5 g5)),(21,(.q ids 6 g6)),(22,(.str r7.1)),(23,(.I r7.2)),(98,(.bool (((((r.2.2 != 0)||(r1.2.2 != 80))||(r2.2.2 != 80))||(r3.2.2 != 80))||(r4.2 != 80))))] ?_ fun hJ3=>Bm ((((r.2.2 != 0)||(r1.2.2 != 80))||(r2.2.2 != 80))||(r3.2.2 != 80)) (fun hb7=>?_) (fun hb7=>?_)
    ·refine Aa (.bool (((((r.2.2 != 0)||(r1.2.2 != 80))||(r2.2.2 != 80))||(r3.2.2 != 80))||(r4.2 != 80))) J Ad<|Br 3 [(1,(.q ids 0 g)),(2,(.I r.2.1)),(5,(.I r1.2.1)),(8,(.I r2.2.1)),(11,(.I r3.2.1)),(15,(.str r5.1)),(17,(.q ids 4 g4)),(18,(.I r6.2.1)),(19,(.I r6.2.2)),(20,(.q ids 5 g5)),(21,(.q ids 6 g6)),(22,(.str r7.1)),(23,(.I r7.2)),(102,(.bool ((((((r.2.2 != 0)||(r1.2.2 != 80))||(r2.2.2 != 80))||(r3.2.2 != 80))||(r4.2 != 80))||(r5.2 != 0))))] ?_ fun hJ4=>Bm (((((r.2.2 != 0)||(r1.2.2 != 80))||(r2.2.2 != 80))||(r3.2.2 != 80))||(r4.2 != 80)) (fun hb9=>?_) (fun hb9=>?_)
     ·refine Aa (.bool ((((((r.2.2 != 0)||(r1.2.2 != 80))||(r2.2.2 != 80))||(r3.2.2 != 80))||(r4.2 != 80))||(r5.2 != 0))) J Ad<|Br 3 [(1,(.q ids 0 g)),(2,(.I r.2.1)),(5,(.I r1.2.1)),(8,(.I r2.2.1)),(11,(.I r3.2.1)),(15,(.str r5.1)),(17,(.q ids 4 g4)),(18,(.I r6.2.1)),(20,(.q ids 5 g5)),(21,(.q ids 6 g6)),(22,(.str r7.1)),(23,(.I r7.2)),(106,(.bool (((((((r.2.2 != 0)||(r1.2.2 != 80))||(r2.2.2 != 80))||(r3.2.2 != 80))||(r4.2 != 80))||(r5.2 != 0))||(r6.2.2 != 0))))] ?_ fun hJ5=>Bm ((((((r.2.2 != 0)||(r1.2.2 != 80))||(r2.2.2 != 80))||(r3.2.2 != 80))||(r4.2 != 80))||(r5.2 != 0)) (fun hb11=>?_) (fun hb11=>?_)
      ·refine Aa (.bool (((((((r.2.2 != 0)||(r1.2.2 != 80))||(r2.2.2 != 80))||(r3.2.2 != 80))||(r4.2 != 80))||(r5.2 != 0))||(r6.2.2 != 0))) J Ad<|Br 3 [(1,(.q ids 0 g)),(2,(.I r.2.1)),(5,(.I r1.2.1)),(8,(.I r2.2.1)),(11,(.I r3.2.1)),(15,(.str r5.1)),(17,(.q ids 4 g4)),(18,(.I r6.2.1)),(20,(.q ids 5 g5)),(21,(.q ids 6 g6)),(22,(.str r7.1)),(110,(.bool ((((((((r.2.2 != 0)||(r1.2.2 != 80))||(r2.2.2 != 80))||(r3.2.2 != 80))||(r4.2 != 80))||(r5.2 != 0))||(r6.2.2 != 0))||(r7.2 != 0))))] ?_ fun hJ6=>Bm (((((((r.2.2 != 0)||(r1.2.2 != 80))||(r2.2.2 != 80))||(r3.2.2 != 80))||(r4.2 != 80))||(r5.2 != 0))||(r6.2.2 != 0)) (fun hb13=>?_) (fun hb13=>?_)
       ·refine Aa (.bool ((((((((r.2.2 != 0)||(r1.2.2 != 80))||(r2.2.2 != 80))||(r3.2.2 != 80))||(r4.2 != 80))||(r5.2 != 0))||(r6.2.2 != 0))||(r7.2 != 0))) J Ad<|Br 3 [(1,(.q ids 0 g)),(5,(.I r1.2.1)),(8,(.I r2.2.1)),(11,(.I r3.2.1)),(15,(.str r5.1)),(17,(.q ids 4 g4)),(18,(.I r6.2.1)),(20,(.q ids 5 g5)),(21,(.q ids 6 g6)),(22,(.str r7.1)),(114,(.bool (((((((((r.2.2 != 0)||(r1.2.2 != 80))||(r2.2.2 != 80))||(r3.2.2 != 80))||(r4.2 != 80))||(r5.2 != 0))||(r6.2.2 != 0))||(r7.2 != 0))||(r.2.1 != 0))))] ?_ fun hJ7=>Bm ((((((((r.2.2 != 0)||(r1.2.2 != 80))||(r2.2.2 != 80))||(r3.2.2 != 80))||(r4.2 != 80))||(r5.2 != 0))||(r6.2.2 != 0))||(r7.2 != 0)) (fun hb15=>?_) (fun hb15=>?_)
        ·refine Aa (.bool (((((((((r.2.2 != 0)||(r1.2.2 != 80))||(r2.2.2 != 80))||(r3.2.2 != 80))||(r4.2 != 80))||(r5.2 != 0))||(r6.2.2 != 0))||(r7.2 != 0))||(r.2.1 != 0))) J Ad<|Br 3 [(1,(.q ids 0 g)),(8,(.I r2.2.1)),(11,(.I r3.2.1)),(15,(.str r5.1)),(17,(.q ids 4 g4)),(18,(.I r6.2.1)),(20,(.q ids 5 g5)),(21,(.q ids 6 g6)),(22,(.str r7.1)),(118,(.bool ((((((((((r.2.2 != 0)||(r1.2.2 != 80))||(r2.2.2 != 80))||(r3.2.2 != 80))||(r4.2 != 80))||(r5.2 != 0))||(r6.2.2 != 0))||(r7.2 != 0))||(r.2.1 != 0))||(r1.2.1 != 22))))] ?_ fun hJ8=>Bm (((((((((r.2.2 != 0)||(r1.2.2 != 80))||(r2.2.2 != 80))||(r3.2.2 != 80))||(r4.2 != 80))||(r5.2 != 0))||(r6.2.2 != 0))||(r7.2 != 0))||(r.2.1 != 0)) (fun hb17=>?_) (fun hb17=>?_)
         ·refine Aa (.bool ((((((((((r.2.2 != 0)||(r1.2.2 != 80))||(r2.2.2 != 80))||(r3.2.2 != 80))||(r4.2 != 80))||(r5.2 != 0))||(r6.2.2 != 0))||(r7.2 != 0))||(r.2.1 != 0))||(r1.2.1 != 22))) J Ad<|Br 3 [(1,(.q ids 0 g)),(11,(.I r3.2.1)),(15,(.str r5.1)),(17,(.q ids 4 g4)),(18,(.I r6.2.1)),(20,(.q ids 5 g5)),(21,(.q ids 6 g6)),(22,(.str r7.1)),(122,(.bool (((((((((((r.2.2 != 0)||(r1.2.2 != 80))||(r2.2.2 != 80))||(r3.2.2 != 80))||(r4.2 != 80))||(r5.2 != 0))||(r6.2.2 != 0))||(r7.2 != 0))||(r.2.1 != 0))||(r1.2.1 != 22))||(r2.2.1 != 12))))] ?_ fun hJ9=>Bm ((((((((((r.2.2 != 0)||(r1.2.2 != 80))||(r2.2.2 != 80))||(r3.2.2 != 80))||(r4.2 != 80))||(r5.2 != 0))||(r6.2.2 != 0))||(r7.2 != 0))||(r.2.1 != 0))||(r1.2.1 != 22)) (fun hb19=>?_) (fun hb19=>?_)
          ·refine Aa (.bool (((((((((((r.2.2 != 0)||(r1.2.2 != 80))||(r2.2.2 != 80))||(r3.2.2 != 80))||(r4.2 != 80))||(r5.2 != 0))||(r6.2.2 != 0))||(r7.2 != 0))||(r.2.1 != 0))||(r1.2.1 != 22))||(r2.2.1 != 12))) J Ad<|Br 3 [(1,(.q ids 0 g)),(15,(.str r5.1)),(17,(.q ids 4 g4)),(18,(.I r6.2.1)),(20,(.q ids 5 g5)),(21,(.q ids 6 g6)),(22,(.str r7.1)),(126,(.bool ((((((((((((r.2.2 != 0)||(r1.2.2 != 80))||(r2.2.2 != 80))||(r3.2.2 != 80))||(r4.2 != 80))||(r5.2 != 0))||(r6.2.2 != 0))||(r7.2 != 0))||(r.2.1 != 0))||(r1.2.1 != 22))||(r2.2.1 != 12))||(r3.2.1 != 14))))] ?_ fun hJ10=>Bm (((((((((((r.2.2 != 0)||(r1.2.2 != 80))||(r2.2.2 != 80))||(r3.2.2 != 80))||(r4.2 != 80))||(r5.2 != 0))||(r6.2.2 != 0))||(r7.2 != 0))||(r.2.1 != 0))||(r1.2.1 != 22))||(r2.2.1 != 12)) (fun hb21=>?_) (fun hb21=>?_)
           ·refine Aa (.bool ((((((((((((r.2.2 != 0)||(r1.2.2 != 80))||(r2.2.2 != 80))||(r3.2.2 != 80))||(r4.2 != 80))||(r5.2 != 0))||(r6.2.2 != 0))||(r7.2 != 0))||(r.2.1 != 0))||(r1.2.1 != 22))||(r2.2.1 != 12))||(r3.2.1 != 14))) J Ad<|Br 3 [(1,(.q ids 0 g)),(15,(.str r5.1)),(17,(.q ids 4 g4)),(20,(.q ids 5 g5)),(21,(.q ids 6 g6)),(22,(.str r7.1)),(130,(.bool (((((((((((((r.2.2 != 0)||(r1.2.2 != 80))||(r2.2.2 != 80))||(r3.2.2 != 80))||(r4.2 != 80))||(r5.2 != 0))||(r6.2.2 != 0))||(r7.2 != 0))||(r.2.1 != 0))||(r1.2.1 != 22))||(r2.2.1 != 12))||(r3.2.1 != 14))||(r6.2.1 != 0))))] ?_ fun hJ11=>Bm ((((((((((((r.2.2 != 0)||(r1.2.2 != 80))||(r2.2.2 != 80))||(r3.2.2 != 80))||(r4.2 != 80))||(r5.2 != 0))||(r6.2.2 != 0))||(r7.2 != 0))||(r.2.1 != 0))||(r1.2.1 != 22))||(r2.2.1 != 12))||(r3.2.1 != 14)) (fun hb23=>?_) (fun hb23=>?_)
            ·refine Z<|B3 J (fun hc=>?_) (fun hc=>?_)
             ·refine Y<|O<|Aa (.bool false) J An<|Z<|Bq (a:=false) (vs:=[(.bool false)]) Tryz.func9 hI J (.same _)
             refine Ay<|Y<|O<|Ac 2 [0] [(132,(.agg [.emp,.emp,.emp,.emp,.emp,.emp,.emp,.emp])),(131,(.agg (A0 r.1)))] ?_
             refine Bx [(.agg (A0 r.1)),(.agg [.emp,.emp,.emp,.emp,.emp,.emp,.emp,.emp])] J J J J (fun hb=>Bh.weak (.cons (.same _) (.cons (.aggL (.cons (.emp _) (.cons (.emp _) (.cons (.emp _) (.cons (.emp _) (.cons (.emp _) (.cons (.emp _) (.cons (.emp _) (.cons (.emp _) .nil))))))))) .nil)) ((Xb r.1 ({ Volumes:=[],Sectors:=[],Configs:=[],Segments:=[],Routes:=[],Airports:=[],Classes:=[],Rules:=[] }:Airspace)) _ hb)) (fun v _=>Cc Tryz.func9 hI) fun r8 _=>Aa (.bool r8) J Ad<|Br 3 [(17,(.q ids 4 g4)),(20,(.q ids 5 g5)),(21,(.q ids 6 g6)),(22,(.str r7.1)),(137,(.bool (r8&&(r5.1==[118,111,108,117,109,101,32,97,32,59]))))] ?_ fun hJ12=>Bm r8 (fun hb25=>?_) (fun hb25=>?_)
             ·refine Aa (.bool (r8&&(r5.1==[118,111,108,117,109,101,32,97,32,59]))) J Ad<|C5 4 ((fun(b:Bool)=>(if(b&&(r7.1==[115,101,99,116,111,114,32,115,32,61,32,97,32,44,32,98,32,114,97,100,97,114,32,57,32,112,114,111,99,101,100,117,114,97,108,32,52,32,59,32,99,117,114,102,101,119,32,104,101,97,118,121,32,97,116,32,120,32,48,32,116,111,32,51,48,48,32,59])) then(Na r6.1 ({ Volumes:=[],Sectors:=[({ Name:=[115],Names:=[[97],[98]],Volumes:=[],Radar:=9,Procedural:=4 }:Sector)],Configs:=[],Segments:=[],Routes:=[],Airports:=[],Classes:=[],Rules:=[({ Kind:=1,C:=[104,101,97,118,121],A:=[120],Class:=0,Airport:=0,N:=0,Hours:=({ From:=0,To:=300 }:Span) }:Rule)] }:Airspace)).bind fun r10=>R.ok r10 else R.ok false).bind (fun(b1:Bool)=>(if b1 then(Na r6.1 ({ Volumes:=[],Sectors:=[({ Name:=[115],Names:=[[97],[98]],Volumes:=[0,1],Radar:=9,Procedural:=4 }:Sector)],Configs:=[],Segments:=[],Routes:=[],Airports:=[],Classes:=[],Rules:=[({ Kind:=1,C:=[104,101,97,118,121],A:=[120],Class:=0,Airport:=0,N:=0,Hours:=({ From:=0,To:=300 }:Span) }:Rule)] }:Airspace)).bind fun r11=>R.ok (!r11) else R.ok false).bind (fun(b2:Bool)=>.ok b2))):Bool→R Bool) (fun(b:Bool) (fr:Nat→AV) (h:Ae)=>fr=A2 [(17,(.q ids 4 g4)),(20,(.q ids 5 g5)),(21,(.q ids 6 g6)),(22,(.str r7.1)),(142,(.bool b))]∧h=hp h0 ids [(some (.rows g 8 [(A0 r.1)])),(some (.rows g1 8 [(A0 r1.1)])),(some (.rows g2 8 [(A0 r2.1)])),(some (.rows g3 8 [(A0 r3.1)])),(some (.rows g4 8 [(A0 r6.1)])),(some (.rows g5 8 [[.emp,(.sl 5 (List.map A8 [({ Name:=[115],Names:=[[97],[98]],Volumes:=[],Radar:=9,Procedural:=4 }:Sector)])),.emp,.emp,.emp,.emp,.emp,(.sl 8 (List.map A4 [({ Kind:=1,C:=[104,101,97,118,121],A:=[120],Class:=0,Airport:=0,N:=0,Hours:=({ From:=0,To:=300 }:Span) }:Rule)]))]])),(some (.rows g6 8 [[.emp,(.sl 5 (List.map A8 [({ Name:=[115],Names:=[[97],[98]],Volumes:=[0,1],Radar:=9,Procedural:=4 }:Sector)])),.emp,.emp,.emp,.emp,.emp,(.sl 8 (List.map A4 [({ Kind:=1,C:=[104,101,97,118,121],A:=[120],Class:=0,Airport:=0,N:=0,Hours:=({ From:=0,To:=300 }:Span) }:Rule)]))]]))]) ?_ fun hJ13=>Dr (fun hb27=>?_) (fun hb27=>?_)
              ·rintro b fr h ⟨rfl,rfl⟩
               refine Aa (.bool b) J Ad<|Br 3 [(17,(.q ids 4 g4)),(20,(.q ids 5 g5)),(21,(.q ids 6 g6)),(146,(.bool (b&&(r7.1==[115,101,99,116,111,114,32,115,32,61,32,97,32,44,32,98,32,114,97,100,97,114,32,57,32,112,114,111,99,101,100,117,114,97,108,32,52,32,59,32,99,117,114,102,101,119,32,104,101,97,118,121,32,97,116,32,120,32,48,32,116,111,32,51,48,48,32,59]))))] ?_ fun hJ14=>Bm b (fun hb29=>?_) (fun hb29=>?_)
               ·refine Aa (.bool (b&&(r7.1==[115,101,99,116,111,114,32,115,32,61,32,97,32,44,32,98,32,114,97,100,97,114,32,57,32,112,114,111,99,101,100,117,114,97,108,32,52,32,59,32,99,117,114,102,101,119,32,104,101,97,118,121,32,97,116,32,120,32,48,32,116,111,32,51,48,48,32,59]))) J Ad<|C5 4 ((fun(b1:Bool)=>(if b1 then(Na r6.1 ({ Volumes:=[],Sectors:=[({ Name:=[115],Names:=[[97],[98]],Volumes:=[0,1],Radar:=9,Procedural:=4 }:Sector)],Configs:=[],Segments:=[],Routes:=[],Airports:=[],Classes:=[],Rules:=[({ Kind:=1,C:=[104,101,97,118,121],A:=[120],Class:=0,Airport:=0,N:=0,Hours:=({ From:=0,To:=300 }:Span) }:Rule)] }:Airspace)).bind fun r11=>R.ok (!r11) else R.ok false).bind (fun(b2:Bool)=>.ok b2)):Bool→R Bool) (fun(b1:Bool) (fr:Nat→AV) (h:Ae)=>fr=A2 [(17,(.q ids 4 g4)),(21,(.q ids 6 g6)),(151,(.bool b1))]∧h=hp h0 ids [(some (.rows g 8 [(A0 r.1)])),(some (.rows g1 8 [(A0 r1.1)])),(some (.rows g2 8 [(A0 r2.1)])),(some (.rows g3 8 [(A0 r3.1)])),(some (.rows g4 8 [(A0 r6.1)])),(some (.rows g5 8 [[.emp,(.sl 5 (List.map A8 [({ Name:=[115],Names:=[[97],[98]],Volumes:=[],Radar:=9,Procedural:=4 }:Sector)])),.emp,.emp,.emp,.emp,.emp,(.sl 8 (List.map A4 [({ Kind:=1,C:=[104,101,97,118,121],A:=[120],Class:=0,Airport:=0,N:=0,Hours:=({ From:=0,To:=300 }:Span) }:Rule)]))]])),(some (.rows g6 8 [[.emp,(.sl 5 (List.map A8 [({ Name:=[115],Names:=[[97],[98]],Volumes:=[0,1],Radar:=9,Procedural:=4 }:Sector)])),.emp,.emp,.emp,.emp,.emp,(.sl 8 (List.map A4 [({ Kind:=1,C:=[104,101,97,118,121],A:=[120],Class:=0,Airport:=0,N:=0,Hours:=({ From:=0,To:=300 }:Span) }:Rule)]))]]))]) ?_ fun hJ15=>Dr (fun hb31=>?_) (fun hb31=>?_)
                ·rintro b1 fr h ⟨rfl,rfl⟩
                 refine Aa (.bool b1) J Ad<|C5 5 ((fun(b2:Bool)=>.ok b2):Bool→R Bool) (fun(b2:Bool) (fr:Nat→AV) (h:Ae)=>fr=A2 [(157,(.bool b2))]∧h=hp h0 ids [(some (.rows g 8 [(A0 r.1)])),(some (.rows g1 8 [(A0 r1.1)])),(some (.rows g2 8 [(A0 r2.1)])),(some (.rows g3 8 [(A0 r3.1)])),(some (.rows g4 8 [(A0 r6.1)])),(some (.rows g5 8 [[.emp,(.sl 5 (List.map A8 [({ Name:=[115],Names:=[[97],[98]],Volumes:=[],Radar:=9,Procedural:=4 }:Sector)])),.emp,.emp,.emp,.emp,.emp,(.sl 8 (List.map A4 [({ Kind:=1,C:=[104,101,97,118,121],A:=[120],Class:=0,Airport:=0,N:=0,Hours:=({ From:=0,To:=300 }:Span) }:Rule)]))]])),(some (.rows g6 8 [[.emp,(.sl 5 (List.map A8 [({ Name:=[115],Names:=[[97],[98]],Volumes:=[0,1],Radar:=9,Procedural:=4 }:Sector)])),.emp,.emp,.emp,.emp,.emp,(.sl 8 (List.map A4 [({ Kind:=1,C:=[104,101,97,118,121],A:=[120],Class:=0,Airport:=0,N:=0,Hours:=({ From:=0,To:=300 }:Span) }:Rule)]))]]))]) ?_ fun hJ16=>Dr (fun hb33=>?_) (fun hb33=>?_)
                 ·rintro b2 fr h ⟨rfl,rfl⟩
                  refine Aa (.bool b2) J An<|Z<|Bq (a:=b2) (vs:=[(.bool b2)]) Tryz.func9 hI J (.same _)
                 ·refine Ax (t:=152) hb33 J<|Ac 2 [4,6] [(154,(.agg [.emp,(.sl 5 (List.map A8 [({ Name:=[115],Names:=[[97],[98]],Volumes:=[0,1],Radar:=9,Procedural:=4 }:Sector)])),.emp,.emp,.emp,.emp,.emp,(.sl 8 (List.map A4 [({ Kind:=1,C:=[104,101,97,118,121],A:=[120],Class:=0,Airport:=0,N:=0,Hours:=({ From:=0,To:=300 }:Span) }:Rule)]))])),(153,(.agg (A0 r6.1)))] ?_
                  refine Bx [(.agg (A0 r6.1)),(.agg [.emp,(.sl 5 (List.map A8 [({ Name:=[115],Names:=[[97],[98]],Volumes:=[0,1],Radar:=9,Procedural:=4 }:Sector)])),.emp,.emp,.emp,.emp,.emp,(.sl 8 (List.map A4 [({ Kind:=1,C:=[104,101,97,118,121],A:=[120],Class:=0,Airport:=0,N:=0,Hours:=({ From:=0,To:=300 }:Span) }:Rule)]))])] J (Ch (tj:=152) J J) J J (fun hb=>Bh.weak (.cons (.same _) (.cons (.aggL (.cons (.emp _) (.cons (.same _) (.cons (.emp _) (.cons (.emp _) (.cons (.emp _) (.cons (.emp _) (.cons (.emp _) (.cons (.same _) .nil))))))))) .nil)) ((Vz r6.1 ({ Volumes:=[],Sectors:=[({ Name:=[115],Names:=[[97],[98]],Volumes:=[0,1],Radar:=9,Procedural:=4 }:Sector)],Configs:=[],Segments:=[],Routes:=[],Airports:=[],Classes:=[],Rules:=[({ Kind:=1,C:=[104,101,97,118,121],A:=[120],Class:=0,Airport:=0,N:=0,Hours:=({ From:=0,To:=300 }:Span) }:Rule)] }:Airspace)) _ hb)) (fun v _=>Cc Tryz.func9 hI) fun r11 _=>Ac 2 [] [(157,(.bool (!r11)))] ?_
                  refine Bj<|B8 [(157,(.bool (!r11)))] (FI J)<|hJ16 (!r11) _ _ ⟨J,J⟩
                 refine Ax (t:=152) hb33 J<|Ac 5 [] [(157,(.bool false))] ?_
                 refine Bj<|B8 [(157,(.bool false))] (FI J)<|hJ16 false _ _ ⟨J,J⟩
                ·refine Ax (t:=147) hb31 J<|Ac 2 [4,5] [(149,(.agg [.emp,(.sl 5 (List.map A8 [({ Name:=[115],Names:=[[97],[98]],Volumes:=[],Radar:=9,Procedural:=4 }:Sector)])),.emp,.emp,.emp,.emp,.emp,(.sl 8 (List.map A4 [({ Kind:=1,C:=[104,101,97,118,121],A:=[120],Class:=0,Airport:=0,N:=0,Hours:=({ From:=0,To:=300 }:Span) }:Rule)]))])),(148,(.agg (A0 r6.1)))] ?_
                 refine Bx [(.agg (A0 r6.1)),(.agg [.emp,(.sl 5 (List.map A8 [({ Name:=[115],Names:=[[97],[98]],Volumes:=[],Radar:=9,Procedural:=4 }:Sector)])),.emp,.emp,.emp,.emp,.emp,(.sl 8 (List.map A4 [({ Kind:=1,C:=[104,101,97,118,121],A:=[120],Class:=0,Airport:=0,N:=0,Hours:=({ From:=0,To:=300 }:Span) }:Rule)]))])] J (Ch (tj:=147) J J) J J (fun hb=>Bh.weak (.cons (.same _) (.cons (.aggL (.cons (.emp _) (.cons (.same _) (.cons (.emp _) (.cons (.emp _) (.cons (.emp _) (.cons (.emp _) (.cons (.emp _) (.cons (.same _) .nil))))))))) .nil)) ((Vz r6.1 ({ Volumes:=[],Sectors:=[({ Name:=[115],Names:=[[97],[98]],Volumes:=[],Radar:=9,Procedural:=4 }:Sector)],Configs:=[],Segments:=[],Routes:=[],Airports:=[],Classes:=[],Rules:=[({ Kind:=1,C:=[104,101,97,118,121],A:=[120],Class:=0,Airport:=0,N:=0,Hours:=({ From:=0,To:=300 }:Span) }:Rule)] }:Airspace)) _ hb)) (fun v _=>Cc Tryz.func9 hI) fun r10 _=>Aa (.bool r10) J (Eg (t:=true) J J)<|Bj<|B8 [(17,(.q ids 4 g4)),(21,(.q ids 6 g6)),(151,(.bool r10))] (FI J)<|hJ15 r10 _ _ ⟨J,J⟩
                refine Ax (t:=147) hb31 J<|Ac 4 [] [(151,(.bool false))] ?_
                refine Bj<|B8 [(17,(.q ids 4 g4)),(21,(.q ids 6 g6)),(151,(.bool false))] (FI J)<|hJ15 false _ _ ⟨J,J⟩
               ·refine Ax (t:=143) hb29 J<|Ac 3 [] [(146,(.bool (r7.1==[115,101,99,116,111,114,32,115,32,61,32,97,32,44,32,98,32,114,97,100,97,114,32,57,32,112,114,111,99,101,100,117,114,97,108,32,52,32,59,32,99,117,114,102,101,119,32,104,101,97,118,121,32,97,116,32,120,32,48,32,116,111,32,51,48,48,32,59])))] ?_
                exact A5 hJ14 (.cons J (.cons J (.cons J (.cons (Hk hb29) .nil))))
               refine Ax (t:=143) hb29 J<|Ac 3 [] [(146,(.bool false))] ?_
               exact A5 hJ14 (.cons J (.cons J (.cons J (.cons (Hp hb29) .nil))))
              ·refine Ax (t:=138) hb27 J<|Ac 2 [4,5] [(140,(.agg [.emp,(.sl 5 (List.map A8 [({ Name:=[115],Names:=[[97],[98]],Volumes:=[],Radar:=9,Procedural:=4 }:Sector)])),.emp,.emp,.emp,.emp,.emp,(.sl 8 (List.map A4 [({ Kind:=1,C:=[104,101,97,118,121],A:=[120],Class:=0,Airport:=0,N:=0,Hours:=({ From:=0,To:=300 }:Span) }:Rule)]))])),(139,(.agg (A0 r6.1)))] ?_
               refine Bx [(.agg (A0 r6.1)),(.agg [.emp,(.sl 5 (List.map A8 [({ Name:=[115],Names:=[[97],[98]],Volumes:=[],Radar:=9,Procedural:=4 }:Sector)])),.emp,.emp,.emp,.emp,.emp,(.sl 8 (List.map A4 [({ Kind:=1,C:=[104,101,97,118,121],A:=[120],Class:=0,Airport:=0,N:=0,Hours:=({ From:=0,To:=300 }:Span) }:Rule)]))])] J (Ch (tj:=138) J J) J J (fun hb=>Bh.weak (.cons (.same _) (.cons (.aggL (.cons (.emp _) (.cons (.same _) (.cons (.emp _) (.cons (.emp _) (.cons (.emp _) (.cons (.emp _) (.cons (.emp _) (.cons (.same _) .nil))))))))) .nil)) ((Xb r6.1 ({ Volumes:=[],Sectors:=[({ Name:=[115],Names:=[[97],[98]],Volumes:=[],Radar:=9,Procedural:=4 }:Sector)],Configs:=[],Segments:=[],Routes:=[],Airports:=[],Classes:=[],Rules:=[({ Kind:=1,C:=[104,101,97,118,121],A:=[120],Class:=0,Airport:=0,N:=0,Hours:=({ From:=0,To:=300 }:Span) }:Rule)] }:Airspace)) _ hb)) (fun v _=>Cc Tryz.func9 hI) fun r9 _=>Aa (.bool r9) J (Eg (t:=true) J J)<|Bj<|B8 [(17,(.q ids 4 g4)),(20,(.q ids 5 g5)),(21,(.q ids 6 g6)),(22,(.str r7.1)),(142,(.bool r9))] (FI J)<|hJ13 r9 _ _ ⟨J,J⟩
              refine Ax (t:=138) hb27 J<|Ac 4 [] [(142,(.bool false))] ?_
              refine Bj<|B8 [(17,(.q ids 4 g4)),(20,(.q ids 5 g5)),(21,(.q ids 6 g6)),(22,(.str r7.1)),(142,(.bool false))] (FI J)<|hJ13 false _ _ ⟨J,J⟩
             ·refine Ax (t:=134) hb25 J<|Ac 3 [] [(137,(.bool (r5.1==[118,111,108,117,109,101,32,97,32,59])))] ?_
              exact A5 hJ12 (.cons J (.cons J (.cons J (.cons J (.cons (Hk hb25) .nil)))))
             refine Ax (t:=134) hb25 J<|Ac 3 [] [(137,(.bool false))] ?_
             exact A5 hJ12 (.cons J (.cons J (.cons J (.cons J (.cons (Hp hb25) .nil)))))
            ·refine Ax (t:=127) hb23 J<|Ac 3 [] [(130,(.bool true))] ?_
             exact A5 hJ11 (.cons J (.cons J (.cons J (.cons J (.cons J (.cons J (.cons (D9 hb23) .nil)))))))
            refine Ax (t:=127) hb23 J<|Ac 3 [] [(130,(.bool (r6.2.1 != 0)))] ?_
            exact A5 hJ11 (.cons J (.cons J (.cons J (.cons J (.cons J (.cons J (.cons (Eb hb23) .nil)))))))
           ·refine Ax (t:=123) hb21 J<|Ac 3 [] [(126,(.bool true))] ?_
            exact A5 hJ10 (.cons J (.cons J (.cons J (.cons J (.cons J (.cons J (.cons J (.cons (D9 hb21) .nil))))))))
           refine Ax (t:=123) hb21 J<|Ac 3 [] [(126,(.bool (r3.2.1 != 14)))] ?_
           exact A5 hJ10 (.cons J (.cons J (.cons J (.cons J (.cons J (.cons J (.cons J (.cons (Eb hb21) .nil))))))))
          ·refine Ax (t:=119) hb19 J<|Ac 3 [] [(122,(.bool true))] ?_
           exact A5 hJ9 (.cons J (.cons J (.cons J (.cons J (.cons J (.cons J (.cons J (.cons J (.cons (D9 hb19) .nil)))))))))
          refine Ax (t:=119) hb19 J<|Ac 3 [] [(122,(.bool (r2.2.1 != 12)))] ?_
          exact A5 hJ9 (.cons J (.cons J (.cons J (.cons J (.cons J (.cons J (.cons J (.cons J (.cons (Eb hb19) .nil)))))))))
         ·refine Ax (t:=115) hb17 J<|Ac 3 [] [(118,(.bool true))] ?_
          exact A5 hJ8 (.cons J (.cons J (.cons J (.cons J (.cons J (.cons J (.cons J (.cons J (.cons J (.cons (D9 hb17) .nil))))))))))
         refine Ax (t:=115) hb17 J<|Ac 3 [] [(118,(.bool (r1.2.1 != 22)))] ?_
         exact A5 hJ8 (.cons J (.cons J (.cons J (.cons J (.cons J (.cons J (.cons J (.cons J (.cons J (.cons (Eb hb17) .nil))))))))))
        ·refine Ax (t:=111) hb15 J<|Ac 3 [] [(114,(.bool true))] ?_
         exact A5 hJ7 (.cons J (.cons J (.cons J (.cons J (.cons J (.cons J (.cons J (.cons J (.cons J (.cons J (.cons (D9 hb15) .nil)))))))))))
        refine Ax (t:=111) hb15 J<|Ac 3 [] [(114,(.bool (r.2.1 != 0)))] ?_
        exact A5 hJ7 (.cons J (.cons J (.cons J (.cons J (.cons J (.cons J (.cons J (.cons J (.cons J (.cons J (.cons (Eb hb15) .nil)))))))))))
       ·refine Ax (t:=107) hb13 J<|Ac 3 [] [(110,(.bool true))] ?_
        exact A5 hJ6 (.cons J (.cons J (.cons J (.cons J (.cons J (.cons J (.cons J (.cons J (.cons J (.cons J (.cons J (.cons (D9 hb13) .nil))))))))))))
       refine Ax (t:=107) hb13 J<|Ac 3 [] [(110,(.bool (r7.2 != 0)))] ?_
       exact A5 hJ6 (.cons J (.cons J (.cons J (.cons J (.cons J (.cons J (.cons J (.cons J (.cons J (.cons J (.cons J (.cons (Eb hb13) .nil))))))))))))
      ·refine Ax (t:=103) hb11 J<|Ac 3 [] [(106,(.bool true))] ?_
       exact A5 hJ5 (.cons J (.cons J (.cons J (.cons J (.cons J (.cons J (.cons J (.cons J (.cons J (.cons J (.cons J (.cons J (.cons (D9 hb11) .nil)))))))))))))
      refine Ax (t:=103) hb11 J<|Ac 3 [] [(106,(.bool (r6.2.2 != 0)))] ?_
      exact A5 hJ5 (.cons J (.cons J (.cons J (.cons J (.cons J (.cons J (.cons J (.cons J (.cons J (.cons J (.cons J (.cons J (.cons (Eb hb11) .nil)))))))))))))
     ·refine Ax (t:=99) hb9 J<|Ac 3 [] [(102,(.bool true))] ?_
      exact A5 hJ4 (.cons J (.cons J (.cons J (.cons J (.cons J (.cons J (.cons J (.cons J (.cons J (.cons J (.cons J (.cons J (.cons J (.cons (D9 hb9) .nil))))))))))))))
     refine Ax (t:=99) hb9 J<|Ac 3 [] [(102,(.bool (r5.2 != 0)))] ?_
     exact A5 hJ4 (.cons J (.cons J (.cons J (.cons J (.cons J (.cons J (.cons J (.cons J (.cons J (.cons J (.cons J (.cons J (.cons J (.cons (Eb hb9) .nil))))))))))))))
    ·refine Ax (t:=95) hb7 J<|Ac 3 [] [(98,(.bool true))] ?_
     exact A5 hJ3 (.cons J (.cons J (.cons J (.cons J (.cons J (.cons J (.cons J (.cons J (.cons J (.cons J (.cons J (.cons J (.cons J (.cons J (.cons (D9 hb7) .nil)))))))))))))))
    refine Ax (t:=95) hb7 J<|Ac 3 [] [(98,(.bool (r4.2 != 80)))] ?_
    exact A5 hJ3 (.cons J (.cons J (.cons J (.cons J (.cons J (.cons J (.cons J (.cons J (.cons J (.cons J (.cons J (.cons J (.cons J (.cons J (.cons (Eb hb7) .nil)))))))))))))))
   ·refine Ax (t:=91) hb5 J<|Ac 3 [] [(94,(.bool true))] ?_
    exact A5 hJ2 (.cons J (.cons J (.cons J (.cons J (.cons J (.cons J (.cons J (.cons J (.cons J (.cons J (.cons J (.cons J (.cons J (.cons J (.cons J (.cons (D9 hb5) .nil))))))))))))))))
   refine Ax (t:=91) hb5 J<|Ac 3 [] [(94,(.bool (r3.2.2 != 80)))] ?_
   exact A5 hJ2 (.cons J (.cons J (.cons J (.cons J (.cons J (.cons J (.cons J (.cons J (.cons J (.cons J (.cons J (.cons J (.cons J (.cons J (.cons J (.cons (Eb hb5) .nil))))))))))))))))
  ·refine Ax (t:=87) hb3 J<|Ac 3 [] [(90,(.bool true))] ?_
   exact A5 hJ1 (.cons J (.cons J (.cons J (.cons J (.cons J (.cons J (.cons J (.cons J (.cons J (.cons J (.cons J (.cons J (.cons J (.cons J (.cons J (.cons J (.cons (D9 hb3) .nil)))))))))))))))))
  refine Ax (t:=87) hb3 J<|Ac 3 [] [(90,(.bool (r2.2.2 != 80)))] ?_
  exact A5 hJ1 (.cons J (.cons J (.cons J (.cons J (.cons J (.cons J (.cons J (.cons J (.cons J (.cons J (.cons J (.cons J (.cons J (.cons J (.cons J (.cons J (.cons (Eb hb3) .nil)))))))))))))))))
 ·refine Ax (t:=83) hb1 J<|Ac 3 [] [(86,(.bool true))] ?_
  exact A5 hJ (.cons J (.cons J (.cons J (.cons J (.cons J (.cons J (.cons J (.cons J (.cons J (.cons J (.cons J (.cons J (.cons J (.cons J (.cons J (.cons J (.cons J (.cons (D9 hb1) .nil))))))))))))))))))
 refine Ax (t:=83) hb1 J<|Ac 3 [] [(86,(.bool (r1.2.2 != 80)))] ?_
 exact A5 hJ (.cons J (.cons J (.cons J (.cons J (.cons J (.cons J (.cons J (.cons J (.cons J (.cons J (.cons J (.cons J (.cons J (.cons J (.cons J (.cons J (.cons J (.cons (Eb hb1) .nil))))))))))))))))))
end Go.Am
namespace Go.Am
open Go Go.Proofs
set_option maxRecDepth 100000
set_option maxHeartbeats 4000000
set_option linter.unusedSimpArgs false
set_option linter.unusedVariables false
theorem Vq (src:Av):CP Tryz.prog 7 [(.str src)] (Mt src) (fun(x:Bool)=>(AV.bool x)):=by
 refine Cq (n:=111) 3 Tryz.func7 J (by decide) J J fun h0 ids hI=>Bk (Al (Mt.eq_1 _) ?_)
 refine Y<|O<|Aa (.bool false) J An<|Z<|Y<|Y<|O ?_
 refine Bx [] J J J J ((Abz) _) (fun v _=>Cc Tryz.func7 hI) fun r _=>Aa (.bool (!r)) J (Pl J)<|Z<|Dx J (fun hc=>?_) (fun hc=>?_)
 ·refine Ay<|Y<|Y<|O<|Aa (.str src) J Ad<|Aa (.I (src.length:Int)) J (A3 (Jl Cg))<|Aa (.bool (decide ((src.length:Int) > 4000))) J (Bc J J J) ?_
  refine Z<|Oi J (fun hc1=>?_) (fun hc1=>?_)
  ·refine Y<|O<|Aa (.bool true) J An<|Z<|Bq (a:=true) (vs:=[(.bool true)]) Tryz.func7 hI J (.same _)
  refine Ay<|Y<|O<|Aa (.str src) J Ad<|Bx [(.str src)] J J J J ((J1 src) _) (fun v _=>Cc Tryz.func7 hI) fun r1 _=>Ac 4 [] [(25,(.I r1.2.2)),(24,(.I r1.2.1)),(23,(.agg (A0 r1.1)))] ?_
  refine Bb (j:=0) hI J J J J Eh J fun g=>Aq (Aw (v:=(.agg (A0 r1.1))) hI J J J J Eh J J J J J)<|Ac 2 [] [(5,(.I r1.2.2)),(4,(.I r1.2.1))] ?_
  refine Z<|Aj ?_
  refine Y<|O<|Aa (.str src) J Ad<|Bx [(.str src)] J J J J ((Zi src) _) (fun v _=>Cc Tryz.func7 hI) fun r2 _=>Ac 7 [] [(8,(.I r2.2.2)),(6,(.sl 4 (List.map Ab r2.1)))] ?_
  refine Z<|Y<|Y<|O<|Ac 3 [] [(34,(.bool (r2.2.2 != 0)))] ?_
  refine Br 3 [(0,(.str src)),(4,(.I r1.2.1)),(5,(.I r1.2.2)),(6,(.sl 4 (List.map Ab r2.1))),(8,(.I r2.2.2)),(37,(.bool ((r2.2.2 != 0)||(r1.2.2==0))))] ?_ fun hJ=>Bm (r2.2.2 != 0) (fun hb1=>?_) (fun hb1=>?_)
  ·refine Z<|B3 J (fun hc2=>?_) (fun hc2=>?_)
   ·refine Y<|O<|Ac 3 [] [(40,(.bool (r2.2.2==0)))] ?_
    refine Br 4 [(44,(.bool ((r2.2.2==0)||(r1.2.2==r2.2.2))))] ?_ fun hJ1=>Bm (r2.2.2==0) (fun hb3=>?_) (fun hb3=>?_)
    ·refine Aa (.bool ((r2.2.2==0)||(r1.2.2==r2.2.2))) J An<|Z<|Bq (a:=((r2.2.2==0)||(r1.2.2==r2.2.2))) (vs:=[(.bool ((r2.2.2==0)||(r1.2.2==r2.2.2)))]) Tryz.func7 hI J (.same _)
    ·refine Ax (t:=40) hb3 J<|Ac 4 [] [(44,(.bool true))] ?_
     exact A5 hJ1 (.cons (D9 hb3) .nil)
    refine Ax (t:=40) hb3 J<|Ac 4 [] [(44,(.bool (r1.2.2==r2.2.2)))] ?_
    exact A5 hJ1 (.cons (Eb hb3) .nil)
   refine Ay<|Y<|Y<|O<|Ac 3 [] [(47,(.bool (decide (r1.2.1<0))))] ?_
   refine Br 5 [(0,(.str src)),(4,(.I r1.2.1)),(5,(.I r1.2.2)),(6,(.sl 4 (List.map Ab r2.1))),(52,(.bool ((decide (r1.2.1<0))||(decide (r1.2.1 > (src.length:Int))))))] ?_ fun hJ2=>Bm (decide (r1.2.1<0)) (fun hb5=>?_) (fun hb5=>?_)
   ·refine Aa (.bool ((decide (r1.2.1<0))||(decide (r1.2.1 > (src.length:Int))))) J Ad<|Br 7 [(0,(.str src)),(4,(.I r1.2.1)),(5,(.I r1.2.2)),(6,(.sl 4 (List.map Ab r2.1))),(60,(.bool (((decide (r1.2.1<0))||(decide (r1.2.1 > (src.length:Int))))||((r1.2.2 != 80)&&(r1.2.2 != 2)))))] ?_ fun hJ3=>Bm ((decide (r1.2.1<0))||(decide (r1.2.1 > (src.length:Int)))) (fun hb7=>?_) (fun hb7=>?_)
    ·refine Aa (.bool (((decide (r1.2.1<0))||(decide (r1.2.1 > (src.length:Int))))||((r1.2.2 != 80)&&(r1.2.2 != 2)))) J Ad<|Br 9 [(0,(.str src)),(4,(.I r1.2.1)),(6,(.sl 4 (List.map Ab r2.1))),(70,(.bool ((((decide (r1.2.1<0))||(decide (r1.2.1 > (src.length:Int))))||((r1.2.2 != 80)&&(r1.2.2 != 2)))||((r1.2.1==(src.length:Int))&&(r1.2.2 != 80)))))] ?_ fun hJ5=>Bm (((decide (r1.2.1<0))||(decide (r1.2.1 > (src.length:Int))))||((r1.2.2 != 80)&&(r1.2.2 != 2))) (fun hb11=>?_) (fun hb11=>?_)
     ·refine Z<|B3 J (fun hc3=>?_) (fun hc3=>?_)
      ·refine Y<|O<|Aa (.bool false) J An<|Z<|Bq (a:=false) (vs:=[(.bool false)]) Tryz.func7 hI J (.same _)
      refine Ay<|Y<|O<|Ac 2 [] [(72,(.str src)),(71,(.I r1.2.1))] ?_
      refine Aa (.I (src.length:Int)) J (A3 (Jl Cg))<|Ac 2 [] [(9,(.bool (r1.2.1==(src.length:Int))))] ?_
      refine Z<|Y<|Y<|O<|Aa (.sl 4 (List.map Ab r2.1)) J Ad<|Aa (.I (r2.1.length:Int)) J (A3 (Be Ci))<|Aa (.I 0) J Ad ?_
      refine Z<|A9<|D2 [none,none,none] hI J (.drop (.keep (.keep .nil)))<|D0 [(0,(.str src)),(4,(.I r1.2.1)),(9,(.bool (r1.2.1==(src.length:Int)))),(75,(.sl 4 (List.map Ab r2.1))),(76,(.I (r2.1.length:Int))),(77,(.I 0))] (FI J)<|Iu (P:=Tryz.prog) r2.1 (fun _ a=>fun met=>Ja r1 a met) (((fun met=>if(0:Int)≤r1.2.1∧r1.2.1≤(src.length:Int) then(Gl (src.take (Int.toNat r1.2.1))).bind fun r3=>.ok (met&&((r3.2.2==0)||((r3.2.2==80)&&(r3.2.1==r1.2.1)))) else .bad)):Bool→R Bool) (fun j=>fun met=>fun(fr:Nat→AV) (h:Ae)=>fr=A2 [(0,(.str src)),(4,(.I r1.2.1)),(9,(.bool met)),(75,(.sl 4 (List.map Ab r2.1))),(76,(.I (r2.1.length:Int))),(77,(.I (j:Int)))]∧h=hp h0 ids [none,none,none]) (r1.2.1==(src.length:Int)) ?_ ?_ ?_
      ·exact⟨J,J⟩
      ·rintro j a ha W hW met fr h ⟨rfl,rfl⟩
       refine Al (m':=Ja r1 a met) J (Al (Ja.eq_1 _ _ _) ?_)
       refine Y<|O<|Aa (.bool (decide ((j:Int)<(r2.1.length:Int)))) J (Bc J J J)<|Z<|Y<|Dz (t:=75) (L:=r2.1) J fun hlim=>Cw J (Int.ofNat_lt.2 (A7 ha)) ?_
       refine Ay<|Y<|A9<|Y<|O<|Aa (.cp (Ab a) 0) J (Bt (Db Ci Cp J ha))<|Aa (.agg (Ab a)) J (As (Cf Cp J)) ?_
       refine Bb (j:=1) hI J J J J Cp J fun g1=>Aq (Aw (v:=(.agg (Ab a))) hI J J J J Cp J J J J J)<|Z<|Aj ?_
       refine O<|Ac 2 [] [(82,(.bool met))] ?_
       refine Br 5 [(0,(.str src)),(4,(.I r1.2.1)),(75,(.sl 4 (List.map Ab r2.1))),(76,(.I (r2.1.length:Int))),(77,(.I (j:Int))),(87,(.bool (met||(a.At==r1.2.1))))] ?_ fun hJ7=>Bm met (fun hb15=>?_) (fun hb15=>?_)
       ·refine Aa (.bool (met||(a.At==r1.2.1))) J An<|Z<|Bn<|O<|Ac 2 [] [(77,(.I (IntKind.wrap .i64 ((j:Int)+1))))] ?_
        refine Z<|D2 [none,none,none] hI J (.keep (.drop (.keep .nil)))<|Bo (Qy (hW (met||(a.At==r1.2.1)) _ _ ⟨J,J⟩)) (.cons J (.cons J (.cons J (.cons J (.cons J (.cons (Dw (A7 ha) hlim) .nil))))))
       ·refine Ax (t:=82) hb15 J<|Ac 5 [] [(87,(.bool true)),(86,.und),(85,.und),(84,.und),(83,.und)] ?_
        exact A5 hJ7 (.cons J (.cons J (.cons J (.cons J (.cons J (.cons (D9 hb15) .nil))))))
       refine Ax (t:=82) hb15 J<|Ac 5 [1] [(87,(.bool (a.At==r1.2.1))),(86,(.bool (a.At==r1.2.1))),(85,(.I r1.2.1)),(84,(.I a.At)),(83,(.ptr (ix ids 1) g1 0 3))] ?_
       exact A5 hJ7 (.cons J (.cons J (.cons J (.cons J (.cons J (.cons (Eb hb15) .nil))))))
      rintro met fr h ⟨rfl,rfl⟩
      refine Y<|O<|Aa (.bool (decide ((r2.1.length:Int)<(r2.1.length:Int)))) J (Bc J J J)<|Z<|Y<|Cx J (Int.lt_irrefl _)<|C4 J ?_
      refine Y<|O<|Ac 2 [] [(91,(.I r1.2.1)),(90,(.str src))] ?_
      refine Gb fun hs=>Aa (.str (src.take (Int.toNat r1.2.1))) J (Fg (Ae9 Cg hs))<|Bx [(.str (src.take (Int.toNat r1.2.1)))] J J J J ((J1 (src.take (Int.toNat r1.2.1))) _) (fun v _=>Cc Tryz.func7 hI) fun r3 _=>Ac 4 [] [(96,(.I r3.2.2)),(95,(.I r3.2.1)),(94,(.agg (A0 r3.1)))] ?_
      refine Bb (j:=2) hI J J J J Eh J fun g2=>Aq (Aw (v:=(.agg (A0 r3.1))) hI J J J J Eh J J J J J)<|Ac 2 [] [(14,(.I r3.2.2)),(13,(.I r3.2.1))] ?_
      refine Z<|Aj ?_
      refine Y<|O<|Ac 2 [] [(98,(.bool met))] ?_
      refine Br 12 [(110,(.bool (met&&((r3.2.2==0)||((r3.2.2==80)&&(r3.2.1==r1.2.1))))))] ?_ fun hJ8=>Bm met (fun hb17=>?_) (fun hb17=>?_)
      ·refine Aa (.bool (met&&((r3.2.2==0)||((r3.2.2==80)&&(r3.2.1==r1.2.1))))) J An<|Z<|Bq (a:=(met&&((r3.2.2==0)||((r3.2.2==80)&&(r3.2.1==r1.2.1))))) (vs:=[(.bool (met&&((r3.2.2==0)||((r3.2.2==80)&&(r3.2.1==r1.2.1)))))]) Tryz.func7 hI J (.same _)
      ·refine Ax (t:=98) hb17 J<|Ac 3 [] [(101,(.bool (r3.2.2==0)))] ?_
       refine Br 8 [(98,(.bool true)),(109,(.bool ((r3.2.2==0)||((r3.2.2==80)&&(r3.2.1==r1.2.1)))))] ?_ fun hJ9=>Bm (r3.2.2==0) (fun hb19=>?_) (fun hb19=>?_)
       ·refine Aa (.bool ((r3.2.2==0)||((r3.2.2==80)&&(r3.2.1==r1.2.1)))) J (Eg (t:=true) J J)<|A5 hJ8 (.cons (Hk hb17) .nil)
       ·refine Ax (t:=101) hb19 J<|Ac 8 [] [(109,(.bool true))] ?_
        exact A5 hJ9 (.cons J (.cons (D9 hb19) .nil))
       refine Ax (t:=101) hb19 J<|Ac 3 [] [(104,(.bool (r3.2.2==80)))] ?_
       refine Br 4 [(98,(.bool true)),(101,(.bool false)),(108,(.bool ((r3.2.2==80)&&(r3.2.1==r1.2.1))))] ?_ fun hJ10=>Bm (r3.2.2==80) (fun hb21=>?_) (fun hb21=>?_)
       ·refine By (tj:=98) (.bool ((r3.2.2==80)&&(r3.2.1==r1.2.1))) J J J (Eg (t:=false) J J)<|A5 hJ9 (.cons J (.cons (Eb hb19) .nil))
       ·refine Ax (t:=104) hb21 J<|Ac 4 [] [(108,(.bool (r3.2.1==r1.2.1)))] ?_
        exact A5 hJ10 (.cons J (.cons J (.cons (Hk hb21) .nil)))
       refine Ax (t:=104) hb21 J<|Ac 4 [] [(108,(.bool false))] ?_
       exact A5 hJ10 (.cons J (.cons J (.cons (Hp hb21) .nil)))
      refine Ax (t:=98) hb17 J<|Ac 12 [] [(110,(.bool false))] ?_
      exact A5 hJ8 (.cons (Hp hb17) .nil)
     ·refine Ax (t:=61) hb11 J<|Ac 9 [] [(70,(.bool true))] ?_
      exact A5 hJ5 (.cons J (.cons J (.cons J (.cons (D9 hb11) .nil))))
     refine Ax (t:=61) hb11 J<|Ac 2 [] [(63,(.str src)),(62,(.I r1.2.1))] ?_
     refine By (tj:=61) (.I (src.length:Int)) J J J (A3 (Jl Cg))<|Ac 2 [] [(66,(.bool (r1.2.1==(src.length:Int))))] ?_
     refine Br 3 [(0,(.str src)),(4,(.I r1.2.1)),(6,(.sl 4 (List.map Ab r2.1))),(61,(.bool false)),(69,(.bool ((r1.2.1==(src.length:Int))&&(r1.2.2 != 80))))] ?_ fun hJ6=>Bm (r1.2.1==(src.length:Int)) (fun hb13=>?_) (fun hb13=>?_)
     ·refine Aa (.bool ((r1.2.1==(src.length:Int))&&(r1.2.2 != 80))) J (Eg (t:=false) J J)<|A5 hJ5 (.cons J (.cons J (.cons J (.cons (Eb hb11) .nil))))
     ·refine Ax (t:=66) hb13 J<|Ac 3 [] [(69,(.bool (r1.2.2 != 80)))] ?_
      exact A5 hJ6 (.cons J (.cons J (.cons J (.cons J (.cons (Hk hb13) .nil)))))
     refine Ax (t:=66) hb13 J<|Ac 3 [] [(69,(.bool false))] ?_
     exact A5 hJ6 (.cons J (.cons J (.cons J (.cons J (.cons (Hp hb13) .nil)))))
    ·refine Ax (t:=53) hb7 J<|Ac 7 [] [(60,(.bool true))] ?_
     exact A5 hJ3 (.cons J (.cons J (.cons J (.cons J (.cons (D9 hb7) .nil)))))
    refine Ax (t:=53) hb7 J<|Ac 3 [] [(56,(.bool (r1.2.2 != 80)))] ?_
    refine Br 3 [(0,(.str src)),(4,(.I r1.2.1)),(5,(.I r1.2.2)),(6,(.sl 4 (List.map Ab r2.1))),(53,(.bool false)),(59,(.bool ((r1.2.2 != 80)&&(r1.2.2 != 2))))] ?_ fun hJ4=>Bm (r1.2.2 != 80) (fun hb9=>?_) (fun hb9=>?_)
    ·refine Aa (.bool ((r1.2.2 != 80)&&(r1.2.2 != 2))) J (Eg (t:=false) J J)<|A5 hJ3 (.cons J (.cons J (.cons J (.cons J (.cons (Eb hb7) .nil)))))
    ·refine Ax (t:=56) hb9 J<|Ac 3 [] [(59,(.bool (r1.2.2 != 2)))] ?_
     exact A5 hJ4 (.cons J (.cons J (.cons J (.cons J (.cons J (.cons (Hk hb9) .nil))))))
    refine Ax (t:=56) hb9 J<|Ac 3 [] [(59,(.bool false))] ?_
    exact A5 hJ4 (.cons J (.cons J (.cons J (.cons J (.cons J (.cons (Hp hb9) .nil))))))
   ·refine Ax (t:=47) hb5 J<|Ac 5 [] [(52,(.bool true))] ?_
    exact A5 hJ2 (.cons J (.cons J (.cons J (.cons J (.cons (D9 hb5) .nil)))))
   refine Ax (t:=47) hb5 J<|Ac 2 [] [(49,(.str src)),(48,(.I r1.2.1))] ?_
   refine By (tj:=47) (.I (src.length:Int)) J J J (A3 (Jl Cg))<|Ac 2 [] [(52,(.bool (decide (r1.2.1 > (src.length:Int)))))] ?_
   exact A5 hJ2 (.cons J (.cons J (.cons J (.cons J (.cons (Eb hb5) .nil)))))
  ·refine Ax (t:=34) hb1 J<|Ac 3 [] [(37,(.bool true))] ?_
   exact A5 hJ (.cons J (.cons J (.cons J (.cons J (.cons J (.cons (D9 hb1) .nil))))))
  refine Ax (t:=34) hb1 J<|Ac 3 [] [(37,(.bool (r1.2.2==0)))] ?_
  exact A5 hJ (.cons J (.cons J (.cons J (.cons J (.cons J (.cons (Eb hb1) .nil))))))
 refine Y<|O<|Aa (.bool false) J An<|Z<|Bq (a:=false) (vs:=[(.bool false)]) Tryz.func7 hI J (.same _)
end Go.Am
namespace Go.Am
open Go Go.Proofs
set_option maxRecDepth 100000
set_option maxHeartbeats 4000000
set_option linter.unusedSimpArgs false
set_option linter.unusedVariables false
end Go.Am
namespace Go.Proofs.YtjidhdlbojmlfaaGreatDoor.laws
open Go Go.Am Go.ChangeShapes Go.WideShapes Go.ChangeAt Go.RowKit
set_option maxRecDepth 100000
set_option linter.unusedVariables false
set_option linter.unusedSimpArgs false
theorem own:ownKnob Tryz.prog.godebug=none:=by kernel_rfl
theorem Akj:laidOutB Tryz.prog=true:=by kernel_rfl
def Ajo:DataW Unit:=match (Rows.laid_overflight_syntax_definitions:DataW Unit) with
 | .iface _ d=>d
 | d=>d
theorem Ak0 {W : World} (h0 : laidMetH Tryz.prog [("math/bits.deBruijn32tab", Rows.laid_math_bits_deBruijn32tab), ("math/bits.deBruijn64tab", Rows.laid_math_bits_deBruijn64tab), ("internal/strconv.uint64pow10", Rows.laid_internal_strconv_uint64pow10), ("strconv.ErrRange", Rows.laid_strconv_ErrRange), ("strconv.ErrSyntax", Rows.laid_strconv_ErrSyntax), ("overflight/syntax.definitions", Rows.laid_overflight_syntax_definitions)] W) : GW.n Tryz.prog ≤ W.heap.size ∧ GW.G Tryz.prog W.heap.size W := by
 have h := (laidMetH_iff.1 h0).1
 rw [show (List.filter (fun x => x.2.handleName?.isNone) [("math/bits.deBruijn32tab", Rows.laid_math_bits_deBruijn32tab), ("math/bits.deBruijn64tab", Rows.laid_math_bits_deBruijn64tab), ("internal/strconv.uint64pow10", Rows.laid_internal_strconv_uint64pow10), ("strconv.ErrRange", Rows.laid_strconv_ErrRange), ("strconv.ErrSyntax", Rows.laid_strconv_ErrSyntax), ("overflight/syntax.definitions", Rows.laid_overflight_syntax_definitions)]) = [("math/bits.deBruijn32tab", Rows.laid_math_bits_deBruijn32tab), ("math/bits.deBruijn64tab", Rows.laid_math_bits_deBruijn64tab), ("internal/strconv.uint64pow10", Rows.laid_internal_strconv_uint64pow10), ("strconv.ErrRange", Rows.laid_strconv_ErrRange), ("strconv.ErrSyntax", Rows.laid_strconv_ErrSyntax)] by kernel_rfl] at h
 have hn := Alz (g := 6) (by kernel_rfl) (Lib.laidMet.reads h (n := "math/bits.deBruijn64tab") (d := Rows.laid_math_bits_deBruijn64tab) (by repeat (first | exact List.mem_cons_self .. | apply List.mem_cons_of_mem)))
 exact ⟨hn, ⟨(Abc (g := 2) (t := 169) (by kernel_rfl) (by kernel_rfl) Tryz.underlying169 (Lib.laidMet.reads h (n := "strconv.ErrRange") (d := Rows.laid_strconv_ErrRange) (by repeat (first | exact List.mem_cons_self .. | apply List.mem_cons_of_mem)))), (Abc (g := 1) (t := 169) (by kernel_rfl) (by kernel_rfl) Tryz.underlying169 (Lib.laidMet.reads h (n := "strconv.ErrSyntax") (d := Rows.laid_strconv_ErrSyntax) (by repeat (first | exact List.mem_cons_self .. | apply List.mem_cons_of_mem)))), (Alg (g := 4) (t := 210) (by kernel_rfl) (by kernel_rfl) Tryz.underlying210 Tryz.underlying193 (by kernel_rfl) (by kernel_rfl) (Lib.laidMet.reads h (n := "internal/strconv.uint64pow10") (d := Rows.laid_internal_strconv_uint64pow10) (by repeat (first | exact List.mem_cons_self .. | apply List.mem_cons_of_mem))))⟩, Ajz (d := Ajo) (l := Nk) (laidMetH.funcs h0 (n := "overflight/syntax.definitions") (d := Ajo) (by repeat (first | exact List.mem_cons_self .. | apply List.mem_cons_of_mem))) (by kernel_rfl) (by kernel_rfl) (by kernel_rfl) Tryz.underlying142 Tryz.underlying9 Tryz.underlying140 (by kernel_rfl) (by decide +kernel)⟩
theorem rd9:Tryz.prog.readableRec 9=true∧9<Tryz.prog.types.size:=by decide +kernel
theorem Ai7 {H:Type}:Bulk (H:=H) Rows.uptoBulk Rows.uptoBulkAll:=⟨fun d=>by cases d with | lit l=>cases l <;> simp [Rows.uptoBulk] | _=>simp [Rows.uptoBulk],fun l=>by simp [Rows.uptoBulk],fun e s=>by simp only [Rows.uptoBulk]; omega,fun l=>by simp [Rows.uptoBulk],by simp [Rows.uptoBulkAll],fun d l=>by simp [Rows.uptoBulkAll]⟩
theorem on9:Ajv Tryz.prog 9 Ab7:=Ahr Tryz.underlying9
end Go.Proofs.YtjidhdlbojmlfaaGreatDoor.laws
