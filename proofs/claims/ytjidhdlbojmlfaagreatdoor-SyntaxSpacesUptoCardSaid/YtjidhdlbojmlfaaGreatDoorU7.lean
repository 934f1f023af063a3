/- Written by shrink.py from texts of ours: comments struck, what is not reached left out, names short. -/
import Derived.Test.YtjidhdlbojmlfaaGreatDoorU6
import Derived.Test.YtjidhdlbojmlfaaGreatDoorU4
import Derived.Test.YtjidhdlbojmlfaaGreatDoorRows
import Derived.KernelRfl
import Derived.Test.YtjidhdlbojmlfaaGreatDoorCards
import Derived.Test.YtjidhdlbojmlfaaGreatDoorTie
import Derived.SevenTiedAt
import Derived.LaidMore
import Derived.LaidSub
namespace Go.Am
open Go Go.Proofs
set_option maxRecDepth 100000
set_option maxHeartbeats 4000000
set_option linter.unusedSimpArgs false
set_option linter.unusedVariables false
theorem Sx (text:Aw)(l:List Config)(most:Int)(s0_bad:Bool)(l1:List Token)(h0:Ae)(o0:Nat)(o1:Nat)(o2:Nat)(g:Nat)(v1:AV)(g1:Nat)(g2:Nat)(vH:A0 v1 o1 g1 l1.length)(hI0:Ids h0 [o0,o1,o2] 3):J7 text l most s0_bad l1≠.bad→Bi Tryz.prog 38 [(.ptr o0 g 0 0),(.str text),(.sl 3 (List.map Bm l)),(.int .i64 most),(.func (.func 39) [] [(.ptr o2 g2 0 0)])] (hp h0 [o0,o1,o2] [some (.rows g 2 [[v1,(.bool s0_bad)]]),Ai v1 g1 4 (List.map Ab l1),some (.rows g2 1 [[(.ptr o0 g 0 0)]])]) (Cf (fun a_ v h' => ∃ (v7:AV),∃ (g9:Nat),A0 v7 o1 g9 a_.2.length∧v=(.tup [])∧h'=hp h0 [o0,o1,o2] [some (.rows g 2 [[v7,(.bool a_.1)]]),Ai v7 g9 4 (List.map Ab a_.2),some (.rows g2 1 [[(.ptr o0 g 0 0)]])]) h0 (J7 text l most s0_bad l1)):=by
 refine A6 (n:=44) 1 Tryz.func38 J (by decide) J J hI0 J fun ids he hI=>?_
 clear hI0
 obtain rfl:ix ids 0=o0:=he 0 rfl
 obtain rfl:ix ids 1=o1:=he 1 rfl
 obtain rfl:ix ids 2=o2:=he 2 rfl
 clear he
 refine Bl (Al (J7.eq_1 _ _ _ _ _) ?_)
 refine Aj ?_
 refine Y<|O<|Ac 6 [0] [(17,(.bool s0_bad)),(12,(.q ids 0 g))] ?_
 refine By 5 [(0,(.q ids 0 g)),(1,(.str text)),(2,(.sl 3 (List.map Bm l))),(4,(.func (.func 39) [] [(.q ids 2 g2)])),(12,(.q ids 0 g)),(22,(.bool (s0_bad||(decide ((l.length:Int) > most)))))] ?_ fun hJ=>Bq s0_bad (fun hb1=>?_) (fun hb1=>?_)
 ·refine Ac 2 [] [(24,(.ptr (ix ids 0) g 0 1))] ?_
  refine Ar (Ax (v:=(.bool (s0_bad||(decide ((l.length:Int) > most))))) hI J J J J Oz J J J J J)<|Z<|Aj ?_
  refine Y<|O<|Aa (.sl 3 (List.map Bm l)) J Ad<|Aa (.I (l.length:Int)) J (A4 (Bf My))<|Aa (.I 0) J Ad<|Z<|Ba ?_
  refine D2 [(0,(.q ids 0 g)),(1,(.str text)),(4,(.func (.func 39) [] [(.q ids 2 g2)])),(25,(.sl 3 (List.map Bm l))),(26,(.I (l.length:Int))),(27,(.I 0))] (FI J)<|Jh (P:=Tryz.prog) l (fun _ a=>Cy fun fBad l2=>Ip text a fBad l2) (((Cy fun fBad l2=>.ok (fBad,l2))):(Bool×(List Token))→R (Bool×(List Token))) (fun j=>Cy fun fBad l2=>fun(fr:Nat→AV) (h:Ae) => ∃ (v2:AV),∃ (g3:Nat),A0 v2 (ix ids 1) g3 l2.length∧fr=A2 [(0,(.q ids 0 g)),(1,(.str text)),(4,(.func (.func 39) [] [(.q ids 2 g2)])),(25,(.sl 3 (List.map Bm l))),(26,(.I (l.length:Int))),(27,(.I (j:Int)))]∧h=hp h0 ids [(some (.rows g 2 [[v2,(.bool fBad)]])),(Ai v2 g3 4 (List.map Ab l2)),(some (.rows g2 1 [[(.q ids 0 g)]])),none]) ((s0_bad||(decide ((l.length:Int) > most))),l1) ?_ ?_ ?_
  ·exact⟨v1,g1,vH,J,J⟩
  ·rintro j a ha W hW ⟨fBad,l2⟩ fr h ⟨v2,g3,vH1,rfl,rfl⟩
   refine Al (m':=Ip text a fBad l2) J (Al (Ip.eq_1 _ _ _ _) ?_)
   refine Y<|O<|Aa (.bool (decide ((j:Int)<(l.length:Int)))) J (Bd J J J)<|Z<|Y<|D3 (t:=25) (L:=l) J fun hlim=>C1 J (Int.ofNat_lt.2 (A8 ha)) ?_
   refine Az<|Y<|Ba<|Y<|O<|Aa (.cp (Bm a) 0) J (Bu (Dh My J0 J ha))<|Aa (.agg (Bm a)) J (Au (Cg J0 J)) ?_
   refine Bb (j:=3) hI J J J J J0 J fun g4=>Ar (Ax (v:=(.agg (Bm a))) hI J J J J J0 J J J J J)<|Z<|Aj ?_
   refine Y<|Y<|O<|Ac 2 [] [(32,(.bool (!(text==[]))))] ?_
   refine Z<|Dx (Cy fun fBad1 l3=>Ij a fBad1 l3) (Cy fun fBad1 l3=>fun(fr:Nat→AV) (h:Ae) => ∃ (v4:AV),∃ (g6:Nat),A0 v4 (ix ids 1) g6 l3.length∧fr=A2 [(0,(.q ids 0 g)),(1,(.str text)),(4,(.func (.func 39) [] [(.q ids 2 g2)])),(11,(.q ids 3 g4)),(25,(.sl 3 (List.map Bm l))),(26,(.I (l.length:Int))),(27,(.I (j:Int)))]∧h=hp h0 ids [(some (.rows g 2 [[v4,(.bool fBad1)]])),(Ai v4 g6 4 (List.map Ab l3)),(some (.rows g2 1 [[(.q ids 0 g)]])),(some (.rows g4 3 [(Bm a)]))]) ?_ fun hJ1=>?_
   ·rintro⟨fBad1,l3⟩ fr h ⟨v4,g6,vH3,rfl,rfl⟩
    refine Al (Ij.eq_1 _ _ _)<|Y<|O<|Ac 2 [3] [(38,(.agg (Bm a))),(37,(.func (.func 39) [] [(.q ids 2 g2)]))] ?_
    refine Ak [2,0,1] hI J J (Xc a fBad1 l3 _ (ix ids 2) (ix ids 0) (ix ids 1) g2 g v4 g6 vH3 (by exact hI.sub' J J)) J J J J J J (fun v _=>Ao (K:=3) (N:=1) Tryz.func38 hI) ?_
    rintro r1 _ _ _ ⟨v5,g7,vH4,rfl,rfl⟩
    refine Av [2,0,1] hI J J J ?_
    refine Ap<|Z<|Aj ?_
    refine O<|Aa (.q ids 0 g) J Ad<|C8 (e:=rS) (L:=[[59]]) (st:=1) (rows:=[[(.str [59])]]) J Do Cl J J J J J (.cons (RowSim.refl _) .nil) (fun x=>F2 x) J J<|Ak [0,1] hI J J (Cx [[59]] r1.1 r1.2 _ (ix ids 0) (ix ids 1) g v5 g7 vH4 (by exact hI.sub' J J)) J J J J J J (fun v _=>Ao (K:=3) (N:=1) Tryz.func38 hI) ?_
    rintro r2 _ _ _ ⟨v6,g8,vH5,rfl,rfl⟩
    refine Av [0,1] hI J J J ?_
    refine Ap<|Z<|Aj ?_
    refine Bo<|O<|Ac 2 [] [(27,(.I (IntKind.wrap .i64 ((j:Int)+1))))] ?_
    refine Z<|Ef [(some (.rows g 2 [[v6,(.bool r2.1)]])),(Ai v6 g8 4 (List.map Ab r2.2)),(some (.rows g2 1 [[(.q ids 0 g)]])),none] hI J (.keep (.keep (.keep (.drop .nil))))<|Bp (Rx (hW (r2.1,r2.2) _ _ ⟨v6,g8,vH5,J,J⟩)) (.cons J (.cons J (.cons J (.cons J (.cons J (.cons (D0 (A8 ha) hlim) .nil))))))
   refine Dy J (fun hc=>?_) (fun hc=>?_)
   ·refine Az<|Bp (hJ1 (fBad,l2) _ _ ⟨v2,g3,vH1,J,J⟩)
   refine O<|Ac 2 [] [(34,(.str text)),(33,(.q ids 0 g))] ?_
   refine C8 (e:=rS) (L:=[text]) (st:=1) (rows:=[[(.str text)]]) J Do Cl J J J J J (.cons (RowSim.refl _) .nil) (fun x=>F2 x) J J<|Ak [0,1] hI J J (Bt [text] fBad l2 _ (ix ids 0) (ix ids 1) g v2 g3 vH1 (by exact hI.sub' J J)) J J J J J J (fun v _=>Ao (K:=3) (N:=1) Tryz.func38 hI) ?_
   rintro r _ _ _ ⟨v3,g5,vH2,rfl,rfl⟩
   refine Av [0,1] hI J J J ?_
   refine Ap<|Z<|Aj ?_
   exact Bp (hJ1 (r.1,r.2) _ _ ⟨v3,g5,vH2,J,J⟩)
  rintro⟨fBad,l2⟩ fr h ⟨v2,g3,vH1,rfl,rfl⟩
  refine Al (N4 _ _ _)<|Y<|O<|Aa (.bool (decide ((l.length:Int)<(l.length:Int)))) J (Bd J J J)<|Z<|Y<|C2 J (Int.lt_irrefl _) ?_
  refine C6 J<|B3 (K:=3) (N:=1) (a:=(fBad,l2)) (vs:=[]) [some (.rows g 2 [[v2,(.bool fBad)]]),Ai v2 g3 4 (List.map Ab l2),some (.rows g2 1 [[(.q ids 0 g)]])] Tryz.func38 hI J J J (.keep (.keep (.keep (.keep .nil)))) (.same _) ⟨v2,g3,vH1,J,J⟩
 ·refine A3 (t:=17) hb1 J<|Ac 5 [] [(22,(.bool true))] ?_
  exact Be hJ (.cons J (.cons J (.cons J (.cons J (.cons J (.cons (E0 hb1) .nil))))))
 refine A3 (t:=17) hb1 J<|Bz (tj:=17) (.sl 3 (List.map Bm l)) J J J Ad<|Bz (tj:=17) (.I (l.length:Int)) J J J (A4 (Bf My))<|Ac 3 [] [(22,(.bool (decide ((l.length:Int) > most))))] ?_
 exact Be hJ (.cons J (.cons J (.cons J (.cons J (.cons J (.cons (Ey hb1) .nil))))))
theorem Ww (a:Segment)(s1_bad:Bool)(l:List Token)(h0:Ae)(o0:Nat)(o1:Nat)(o2:Nat)(g:Nat)(g1:Nat)(v1:AV)(g2:Nat)(vH:A0 v1 o2 g2 l.length)(hI0:Ids h0 [o0,o1,o2] 3):Np a s1_bad l≠.bad→Bi Tryz.prog 41 [(.agg (Bg a)),(.ptr o0 g 0 0)] (hp h0 [o0,o1,o2] [some (.rows g 1 [[(.ptr o1 g1 0 0)]]),some (.rows g1 2 [[v1,(.bool s1_bad)]]),Ai v1 g2 4 (List.map Ab l)]) (Cf (fun a_ v h' => ∃ (v8:AV),∃ (g10:Nat),A0 v8 o2 g10 a_.2.length∧v=(.tup [])∧h'=hp h0 [o0,o1,o2] [some (.rows g 1 [[(.ptr o1 g1 0 0)]]),some (.rows g1 2 [[v8,(.bool a_.1)]]),Ai v8 g10 4 (List.map Ab a_.2)]) h0 (Np a s1_bad l)):=by
 refine A6 (n:=25) 1 Tryz.func41 J (by decide) J J hI0 J fun ids he hI=>?_
 clear hI0
 obtain rfl:ix ids 0=o0:=he 0 rfl
 obtain rfl:ix ids 1=o1:=he 1 rfl
 obtain rfl:ix ids 2=o2:=he 2 rfl
 clear he
 refine Bl (Al (Np.eq_1 _ _ _) ?_)
 refine Aj ?_
 refine Y<|O<|Ck (v:=(.agg (Bg a))) (j:=3) hI J J J J J J J fun g3=>Z<|Aj ?_
 refine Y<|O<|Ac 3 [0,3] [(5,(.str a.Name)),(3,(.q ids 1 g1))] ?_
 refine Ak [1,2] hI J J (Cr a.Name s1_bad l _ (ix ids 1) (ix ids 2) g1 v1 g2 vH (by exact hI.sub' J J)) J J J J J J (fun v _=>Ao (K:=3) (N:=1) Tryz.func41 hI) ?_
 rintro r _ _ _ ⟨v2,g4,vH1,rfl,rfl⟩
 refine Av [1,2] hI J J J ?_
 refine Ap<|Z<|Aj ?_
 refine Y<|O<|Ac 1 [0] [(7,(.q ids 1 g1))] ?_
 refine C8 (e:=rS) (L:=[[105,110]]) (st:=1) (rows:=[[(.str [105,110])]]) J Do Cl J J J J J (.cons (RowSim.refl _) .nil) (fun x=>F2 x) J J<|Ak [1,2] hI J J (Bt [[105,110]] r.1 r.2 _ (ix ids 1) (ix ids 2) g1 v2 g4 vH1 (by exact hI.sub' J J)) J J J J J J (fun v _=>Ao (K:=3) (N:=1) Tryz.func41 hI) ?_
 rintro r1 _ _ _ ⟨v3,g5,vH2,rfl,rfl⟩
 refine Av [1,2] hI J J J ?_
 refine Ap<|Z<|Aj ?_
 refine Y<|O<|Ac 3 [0,3] [(12,(.str a.In)),(10,(.q ids 1 g1))] ?_
 refine Ak [1,2] hI J J (Cr a.In r1.1 r1.2 _ (ix ids 1) (ix ids 2) g1 v3 g5 vH2 (by exact hI.sub' J J)) J J J J J J (fun v _=>Ao (K:=3) (N:=1) Tryz.func41 hI) ?_
 rintro r2 _ _ _ ⟨v4,g6,vH3,rfl,rfl⟩
 refine Av [1,2] hI J J J ?_
 refine Ap<|Z<|Aj ?_
 refine Y<|O<|Ac 1 [0] [(14,(.q ids 1 g1))] ?_
 refine C8 (e:=rS) (L:=[[108,101,110,103,116,104]]) (st:=1) (rows:=[[(.str [108,101,110,103,116,104])]]) J Do Cl J J J J J (.cons (RowSim.refl _) .nil) (fun x=>F2 x) J J<|Ak [1,2] hI J J (Bt [[108,101,110,103,116,104]] r2.1 r2.2 _ (ix ids 1) (ix ids 2) g1 v4 g6 vH3 (by exact hI.sub' J J)) J J J J J J (fun v _=>Ao (K:=3) (N:=1) Tryz.func41 hI) ?_
 rintro r3 _ _ _ ⟨v5,g7,vH4,rfl,rfl⟩
 refine Av [1,2] hI J J J ?_
 refine Ap<|Z<|Aj ?_
 refine Y<|O<|Ac 3 [0,3] [(19,(.I a.Length)),(17,(.q ids 1 g1))] ?_
 refine Ak [1,2] hI J J (C9 a.Length 1 4096 r3.1 r3.2 _ (ix ids 1) (ix ids 2) g1 v5 g7 vH4 (by exact hI.sub' J J)) J J J J J J (fun v _=>Ao (K:=3) (N:=1) Tryz.func41 hI) ?_
 rintro r4 _ _ _ ⟨v6,g8,vH5,rfl,rfl⟩
 refine Av [1,2] hI J J J ?_
 refine Ap<|Z<|Aj ?_
 refine O<|Ac 3 [0,3] [(23,(.sl 2 (List.map B5 a.Open))),(21,(.q ids 1 g1))] ?_
 refine Ak [1,2] hI J J (O8 [111,112,101,110] a.Open (r3.1||(!((decide (a.Length≥1))&&(decide (a.Length≤4096))))) r4 _ (ix ids 1) (ix ids 2) g1 v6 g8 vH5 (by exact hI.sub' J J)) J J J J J J (fun v _=>Ao (K:=3) (N:=1) Tryz.func41 hI) ?_
 rintro r5 _ _ _ ⟨v7,g9,vH6,rfl,rfl⟩
 refine Av [1,2] hI J J J ?_
 refine Ap<|Z<|Aj ?_
 exact B3 (K:=3) (N:=1) (a:=(r5.1,r5.2)) (vs:=[]) [some (.rows g 1 [[(.q ids 1 g1)]]),some (.rows g1 2 [[v7,(.bool r5.1)]]),Ai v7 g9 4 (List.map Ab r5.2)] Tryz.func41 hI J J J (.keep (.keep (.keep (.drop .nil)))) (.same _) ⟨v7,g9,vH6,J,J⟩
theorem Sg (text:Aw)(l:List Segment)(most:Int)(s0_bad:Bool)(l1:List Token)(h0:Ae)(o0:Nat)(o1:Nat)(o2:Nat)(g:Nat)(v1:AV)(g1:Nat)(g2:Nat)(vH:A0 v1 o1 g1 l1.length)(hI0:Ids h0 [o0,o1,o2] 3):Jq text l most s0_bad l1≠.bad→Bi Tryz.prog 40 [(.ptr o0 g 0 0),(.str text),(.sl 5 (List.map Bg l)),(.int .i64 most),(.func (.func 41) [] [(.ptr o2 g2 0 0)])] (hp h0 [o0,o1,o2] [some (.rows g 2 [[v1,(.bool s0_bad)]]),Ai v1 g1 4 (List.map Ab l1),some (.rows g2 1 [[(.ptr o0 g 0 0)]])]) (Cf (fun a_ v h' => ∃ (v7:AV),∃ (g9:Nat),A0 v7 o1 g9 a_.2.length∧v=(.tup [])∧h'=hp h0 [o0,o1,o2] [some (.rows g 2 [[v7,(.bool a_.1)]]),Ai v7 g9 4 (List.map Ab a_.2),some (.rows g2 1 [[(.ptr o0 g 0 0)]])]) h0 (Jq text l most s0_bad l1)):=by
 refine A6 (n:=44) 1 Tryz.func40 J (by decide) J J hI0 J fun ids he hI=>?_
 clear hI0
 obtain rfl:ix ids 0=o0:=he 0 rfl
 obtain rfl:ix ids 1=o1:=he 1 rfl
 obtain rfl:ix ids 2=o2:=he 2 rfl
 clear he
 refine Bl (Al (Jq.eq_1 _ _ _ _ _) ?_)
 refine Aj ?_
 refine Y<|O<|Ac 6 [0] [(17,(.bool s0_bad)),(12,(.q ids 0 g))] ?_
 refine By 5 [(0,(.q ids 0 g)),(1,(.str text)),(2,(.sl 5 (List.map Bg l))),(4,(.func (.func 41) [] [(.q ids 2 g2)])),(12,(.q ids 0 g)),(22,(.bool (s0_bad||(decide ((l.length:Int) > most)))))] ?_ fun hJ=>Bq s0_bad (fun hb1=>?_) (fun hb1=>?_)
 ·refine Ac 2 [] [(24,(.ptr (ix ids 0) g 0 1))] ?_
  refine Ar (Ax (v:=(.bool (s0_bad||(decide ((l.length:Int) > most))))) hI J J J J Oz J J J J J)<|Z<|Aj ?_
  refine Y<|O<|Aa (.sl 5 (List.map Bg l)) J Ad<|Aa (.I (l.length:Int)) J (A4 (Bf Mw))<|Aa (.I 0) J Ad<|Z<|Ba ?_
  refine D2 [(0,(.q ids 0 g)),(1,(.str text)),(4,(.func (.func 41) [] [(.q ids 2 g2)])),(25,(.sl 5 (List.map Bg l))),(26,(.I (l.length:Int))),(27,(.I 0))] (FI J)<|Jh (P:=Tryz.prog) l (fun _ a=>Cy fun fBad l2=>Hy text a fBad l2) (((Cy fun fBad l2=>.ok (fBad,l2))):(Bool×(List Token))→R (Bool×(List Token))) (fun j=>Cy fun fBad l2=>fun(fr:Nat→AV) (h:Ae) => ∃ (v2:AV),∃ (g3:Nat),A0 v2 (ix ids 1) g3 l2.length∧fr=A2 [(0,(.q ids 0 g)),(1,(.str text)),(4,(.func (.func 41) [] [(.q ids 2 g2)])),(25,(.sl 5 (List.map Bg l))),(26,(.I (l.length:Int))),(27,(.I (j:Int)))]∧h=hp h0 ids [(some (.rows g 2 [[v2,(.bool fBad)]])),(Ai v2 g3 4 (List.map Ab l2)),(some (.rows g2 1 [[(.q ids 0 g)]])),none]) ((s0_bad||(decide ((l.length:Int) > most))),l1) ?_ ?_ ?_
  ·exact⟨v1,g1,vH,J,J⟩
  ·rintro j a ha W hW ⟨fBad,l2⟩ fr h ⟨v2,g3,vH1,rfl,rfl⟩
   refine Al (m':=Hy text a fBad l2) J (Al (Hy.eq_1 _ _ _ _) ?_)
   refine Y<|O<|Aa (.bool (decide ((j:Int)<(l.length:Int)))) J (Bd J J J)<|Z<|Y<|D3 (t:=25) (L:=l) J fun hlim=>C1 J (Int.ofNat_lt.2 (A8 ha)) ?_
   refine Az<|Y<|Ba<|Y<|O<|Aa (.cp (Bg a) 0) J (Bu (Dh Mw Ih J ha))<|Aa (.agg (Bg a)) J (Au (Cg Ih J)) ?_
   refine Bb (j:=3) hI J J J J Ih J fun g4=>Ar (Ax (v:=(.agg (Bg a))) hI J J J J Ih J J J J J)<|Z<|Aj ?_
   refine Y<|Y<|O<|Ac 2 [] [(32,(.bool (!(text==[]))))] ?_
   refine Z<|Dx (Cy fun fBad1 l3=>Hz a fBad1 l3) (Cy fun fBad1 l3=>fun(fr:Nat→AV) (h:Ae) => ∃ (v4:AV),∃ (g6:Nat),A0 v4 (ix ids 1) g6 l3.length∧fr=A2 [(0,(.q ids 0 g)),(1,(.str text)),(4,(.func (.func 41) [] [(.q ids 2 g2)])),(11,(.q ids 3 g4)),(25,(.sl 5 (List.map Bg l))),(26,(.I (l.length:Int))),(27,(.I (j:Int)))]∧h=hp h0 ids [(some (.rows g 2 [[v4,(.bool fBad1)]])),(Ai v4 g6 4 (List.map Ab l3)),(some (.rows g2 1 [[(.q ids 0 g)]])),(some (.rows g4 5 [(Bg a)]))]) ?_ fun hJ1=>?_
   ·rintro⟨fBad1,l3⟩ fr h ⟨v4,g6,vH3,rfl,rfl⟩
    refine Al (Hz.eq_1 _ _ _)<|Y<|O<|Ac 2 [3] [(38,(.agg (Bg a))),(37,(.func (.func 41) [] [(.q ids 2 g2)]))] ?_
    refine Ak [2,0,1] hI J J (Ww a fBad1 l3 _ (ix ids 2) (ix ids 0) (ix ids 1) g2 g v4 g6 vH3 (by exact hI.sub' J J)) J J J J J J (fun v _=>Ao (K:=3) (N:=1) Tryz.func40 hI) ?_
    rintro r1 _ _ _ ⟨v5,g7,vH4,rfl,rfl⟩
    refine Av [2,0,1] hI J J J ?_
    refine Ap<|Z<|Aj ?_
    refine O<|Aa (.q ids 0 g) J Ad<|C8 (e:=rS) (L:=[[59]]) (st:=1) (rows:=[[(.str [59])]]) J Do Cl J J J J J (.cons (RowSim.refl _) .nil) (fun x=>F2 x) J J<|Ak [0,1] hI J J (Cx [[59]] r1.1 r1.2 _ (ix ids 0) (ix ids 1) g v5 g7 vH4 (by exact hI.sub' J J)) J J J J J J (fun v _=>Ao (K:=3) (N:=1) Tryz.func40 hI) ?_
    rintro r2 _ _ _ ⟨v6,g8,vH5,rfl,rfl⟩
    refine Av [0,1] hI J J J ?_
    refine Ap<|Z<|Aj ?_
    refine Bo<|O<|Ac 2 [] [(27,(.I (IntKind.wrap .i64 ((j:Int)+1))))] ?_
    refine Z<|Ef [(some (.rows g 2 [[v6,(.bool r2.1)]])),(Ai v6 g8 4 (List.map Ab r2.2)),(some (.rows g2 1 [[(.q ids 0 g)]])),none] hI J (.keep (.keep (.keep (.drop .nil))))<|Bp (Rx (hW (r2.1,r2.2) _ _ ⟨v6,g8,vH5,J,J⟩)) (.cons J (.cons J (.cons J (.cons J (.cons J (.cons (D0 (A8 ha) hlim) .nil))))))
   refine Dy J (fun hc=>?_) (fun hc=>?_)
   ·refine Az<|Bp (hJ1 (fBad,l2) _ _ ⟨v2,g3,vH1,J,J⟩)
   refine O<|Ac 2 [] [(34,(.str text)),(33,(.q ids 0 g))] ?_
   refine C8 (e:=rS) (L:=[text]) (st:=1) (rows:=[[(.str text)]]) J Do Cl J J J J J (.cons (RowSim.refl _) .nil) (fun x=>F2 x) J J<|Ak [0,1] hI J J (Bt [text] fBad l2 _ (ix ids 0) (ix ids 1) g v2 g3 vH1 (by exact hI.sub' J J)) J J J J J J (fun v _=>Ao (K:=3) (N:=1) Tryz.func40 hI) ?_
   rintro r _ _ _ ⟨v3,g5,vH2,rfl,rfl⟩
   refine Av [0,1] hI J J J ?_
   refine Ap<|Z<|Aj ?_
   exact Bp (hJ1 (r.1,r.2) _ _ ⟨v3,g5,vH2,J,J⟩)
  rintro⟨fBad,l2⟩ fr h ⟨v2,g3,vH1,rfl,rfl⟩
  refine Al (N4 _ _ _)<|Y<|O<|Aa (.bool (decide ((l.length:Int)<(l.length:Int)))) J (Bd J J J)<|Z<|Y<|C2 J (Int.lt_irrefl _) ?_
  refine C6 J<|B3 (K:=3) (N:=1) (a:=(fBad,l2)) (vs:=[]) [some (.rows g 2 [[v2,(.bool fBad)]]),Ai v2 g3 4 (List.map Ab l2),some (.rows g2 1 [[(.q ids 0 g)]])] Tryz.func40 hI J J J (.keep (.keep (.keep (.keep .nil)))) (.same _) ⟨v2,g3,vH1,J,J⟩
 ·refine A3 (t:=17) hb1 J<|Ac 5 [] [(22,(.bool true))] ?_
  exact Be hJ (.cons J (.cons J (.cons J (.cons J (.cons J (.cons (E0 hb1) .nil))))))
 refine A3 (t:=17) hb1 J<|Bz (tj:=17) (.sl 5 (List.map Bg l)) J J J Ad<|Bz (tj:=17) (.I (l.length:Int)) J J J (A4 (Bf Mw))<|Ac 3 [] [(22,(.bool (decide ((l.length:Int) > most))))] ?_
 exact Be hJ (.cons J (.cons J (.cons J (.cons J (.cons J (.cons (Ey hb1) .nil))))))
theorem W6 (a:Route)(s1_bad:Bool)(l:List Token)(h0:Ae)(o0:Nat)(o1:Nat)(o2:Nat)(g:Nat)(g1:Nat)(v1:AV)(g2:Nat)(vH:A0 v1 o2 g2 l.length)(hI0:Ids h0 [o0,o1,o2] 3):Nl a s1_bad l≠.bad→Bi Tryz.prog 43 [(.agg (Bs a)),(.ptr o0 g 0 0)] (hp h0 [o0,o1,o2] [some (.rows g 1 [[(.ptr o1 g1 0 0)]]),some (.rows g1 2 [[v1,(.bool s1_bad)]]),Ai v1 g2 4 (List.map Ab l)]) (Cf (fun a_ v h' => ∃ (v9:AV),∃ (g11:Nat),A0 v9 o2 g11 a_.2.length∧v=(.tup [])∧h'=hp h0 [o0,o1,o2] [some (.rows g 1 [[(.ptr o1 g1 0 0)]]),some (.rows g1 2 [[v9,(.bool a_.1)]]),Ai v9 g11 4 (List.map Ab a_.2)]) h0 (Nl a s1_bad l)):=by
 refine A6 (n:=30) 1 Tryz.func43 J (by decide) J J hI0 J fun ids he hI=>?_
 clear hI0
 obtain rfl:ix ids 0=o0:=he 0 rfl
 obtain rfl:ix ids 1=o1:=he 1 rfl
 obtain rfl:ix ids 2=o2:=he 2 rfl
 clear he
 refine Bl (Al (Nl.eq_1 _ _ _) ?_)
 refine Aj ?_
 refine Y<|O<|Ck (v:=(.agg (Bs a))) (j:=3) hI J J J J J J J fun g3=>Z<|Aj ?_
 refine Y<|O<|Ac 3 [0,3] [(5,(.str a.Name)),(3,(.q ids 1 g1))] ?_
 refine Ak [1,2] hI J J (Cr a.Name s1_bad l _ (ix ids 1) (ix ids 2) g1 v1 g2 vH (by exact hI.sub' J J)) J J J J J J (fun v _=>Ao (K:=3) (N:=1) Tryz.func43 hI) ?_
 rintro r _ _ _ ⟨v2,g4,vH1,rfl,rfl⟩
 refine Av [1,2] hI J J J ?_
 refine Ap<|Z<|Aj ?_
 refine Y<|O<|Ac 1 [0] [(7,(.q ids 1 g1))] ?_
 refine C8 (e:=rS) (L:=[[102,114,111,109]]) (st:=1) (rows:=[[(.str [102,114,111,109])]]) J Do Cl J J J J J (.cons (RowSim.refl _) .nil) (fun x=>F2 x) J J<|Ak [1,2] hI J J (Bt [[102,114,111,109]] r.1 r.2 _ (ix ids 1) (ix ids 2) g1 v2 g4 vH1 (by exact hI.sub' J J)) J J J J J J (fun v _=>Ao (K:=3) (N:=1) Tryz.func43 hI) ?_
 rintro r1 _ _ _ ⟨v3,g5,vH2,rfl,rfl⟩
 refine Av [1,2] hI J J J ?_
 refine Ap<|Z<|Aj ?_
 refine Y<|O<|Ac 3 [0,3] [(12,(.str a.A)),(10,(.q ids 1 g1))] ?_
 refine Ak [1,2] hI J J (Cr a.A r1.1 r1.2 _ (ix ids 1) (ix ids 2) g1 v3 g5 vH2 (by exact hI.sub' J J)) J J J J J J (fun v _=>Ao (K:=3) (N:=1) Tryz.func43 hI) ?_
 rintro r2 _ _ _ ⟨v4,g6,vH3,rfl,rfl⟩
 refine Av [1,2] hI J J J ?_
 refine Ap<|Z<|Aj ?_
 refine Y<|O<|Ac 1 [0] [(14,(.q ids 1 g1))] ?_
 refine C8 (e:=rS) (L:=[[116,111]]) (st:=1) (rows:=[[(.str [116,111])]]) J Do Cl J J J J J (.cons (RowSim.refl _) .nil) (fun x=>F2 x) J J<|Ak [1,2] hI J J (Bt [[116,111]] r2.1 r2.2 _ (ix ids 1) (ix ids 2) g1 v4 g6 vH3 (by exact hI.sub' J J)) J J J J J J (fun v _=>Ao (K:=3) (N:=1) Tryz.func43 hI) ?_
 rintro r3 _ _ _ ⟨v5,g7,vH4,rfl,rfl⟩
 refine Av [1,2] hI J J J ?_
 refine Ap<|Z<|Aj ?_
 refine Y<|O<|Ac 3 [0,3] [(19,(.str a.B)),(17,(.q ids 1 g1))] ?_
 refine Ak [1,2] hI J J (Cr a.B r3.1 r3.2 _ (ix ids 1) (ix ids 2) g1 v5 g7 vH4 (by exact hI.sub' J J)) J J J J J J (fun v _=>Ao (K:=3) (N:=1) Tryz.func43 hI) ?_
 rintro r4 _ _ _ ⟨v6,g8,vH5,rfl,rfl⟩
 refine Av [1,2] hI J J J ?_
 refine Ap<|Z<|Aj ?_
 refine Y<|O<|Ac 1 [0] [(21,(.q ids 1 g1))] ?_
 refine C8 (e:=rS) (L:=[[118,105,97]]) (st:=1) (rows:=[[(.str [118,105,97])]]) J Do Cl J J J J J (.cons (RowSim.refl _) .nil) (fun x=>F2 x) J J<|Ak [1,2] hI J J (Bt [[118,105,97]] r4.1 r4.2 _ (ix ids 1) (ix ids 2) g1 v6 g8 vH5 (by exact hI.sub' J J)) J J J J J J (fun v _=>Ao (K:=3) (N:=1) Tryz.func43 hI) ?_
 rintro r5 _ _ _ ⟨v7,g9,vH6,rfl,rfl⟩
 refine Av [1,2] hI J J J ?_
 refine Ap<|Z<|Aj ?_
 refine O<|Ac 5 [0,3,0] [(28,(.func (.func 30) [(.q ids 1 g1)] [])),(26,(.sl 1 (List.map rS a.Names))),(24,(.q ids 1 g1))] ?_
 refine Ak [1,2] hI J J (Li a.Names 8 r5.1 r5.2 _ (ix ids 1) (ix ids 2) g1 v7 g9 vH6 (by exact hI.sub' J J)) J J J J J J (fun v _=>Ao (K:=3) (N:=1) Tryz.func43 hI) ?_
 rintro r6 _ _ _ ⟨v8,g10,vH7,rfl,rfl⟩
 refine Av [1,2] hI J J J ?_
 refine Ap<|Z<|Aj ?_
 exact B3 (K:=3) (N:=1) (a:=(r6.1,r6.2)) (vs:=[]) [some (.rows g 1 [[(.q ids 1 g1)]]),some (.rows g1 2 [[v8,(.bool r6.1)]]),Ai v8 g10 4 (List.map Ab r6.2)] Tryz.func43 hI J J J (.keep (.keep (.keep (.drop .nil)))) (.same _) ⟨v8,g10,vH7,J,J⟩
theorem Tj (text:Aw)(l:List Route)(most:Int)(s0_bad:Bool)(l1:List Token)(h0:Ae)(o0:Nat)(o1:Nat)(o2:Nat)(g:Nat)(v1:AV)(g1:Nat)(g2:Nat)(vH:A0 v1 o1 g1 l1.length)(hI0:Ids h0 [o0,o1,o2] 3):Kt text l most s0_bad l1≠.bad→Bi Tryz.prog 42 [(.ptr o0 g 0 0),(.str text),(.sl 7 (List.map Bs l)),(.int .i64 most),(.func (.func 43) [] [(.ptr o2 g2 0 0)])] (hp h0 [o0,o1,o2] [some (.rows g 2 [[v1,(.bool s0_bad)]]),Ai v1 g1 4 (List.map Ab l1),some (.rows g2 1 [[(.ptr o0 g 0 0)]])]) (Cf (fun a_ v h' => ∃ (v7:AV),∃ (g9:Nat),A0 v7 o1 g9 a_.2.length∧v=(.tup [])∧h'=hp h0 [o0,o1,o2] [some (.rows g 2 [[v7,(.bool a_.1)]]),Ai v7 g9 4 (List.map Ab a_.2),some (.rows g2 1 [[(.ptr o0 g 0 0)]])]) h0 (Kt text l most s0_bad l1)):=by
 refine A6 (n:=44) 1 Tryz.func42 J (by decide) J J hI0 J fun ids he hI=>?_
 clear hI0
 obtain rfl:ix ids 0=o0:=he 0 rfl
 obtain rfl:ix ids 1=o1:=he 1 rfl
 obtain rfl:ix ids 2=o2:=he 2 rfl
 clear he
 refine Bl (Al (Kt.eq_1 _ _ _ _ _) ?_)
 refine Aj ?_
 refine Y<|O<|Ac 6 [0] [(17,(.bool s0_bad)),(12,(.q ids 0 g))] ?_
 refine By 5 [(0,(.q ids 0 g)),(1,(.str text)),(2,(.sl 7 (List.map Bs l))),(4,(.func (.func 43) [] [(.q ids 2 g2)])),(12,(.q ids 0 g)),(22,(.bool (s0_bad||(decide ((l.length:Int) > most)))))] ?_ fun hJ=>Bq s0_bad (fun hb1=>?_) (fun hb1=>?_)
 ·refine Ac 2 [] [(24,(.ptr (ix ids 0) g 0 1))] ?_
  refine Ar (Ax (v:=(.bool (s0_bad||(decide ((l.length:Int) > most))))) hI J J J J Oz J J J J J)<|Z<|Aj ?_
  refine Y<|O<|Aa (.sl 7 (List.map Bs l)) J Ad<|Aa (.I (l.length:Int)) J (A4 (Bf Mx))<|Aa (.I 0) J Ad<|Z<|Ba ?_
  refine D2 [(0,(.q ids 0 g)),(1,(.str text)),(4,(.func (.func 43) [] [(.q ids 2 g2)])),(25,(.sl 7 (List.map Bs l))),(26,(.I (l.length:Int))),(27,(.I 0))] (FI J)<|Jh (P:=Tryz.prog) l (fun _ a=>Cy fun fBad l2=>I5 text a fBad l2) (((Cy fun fBad l2=>.ok (fBad,l2))):(Bool×(List Token))→R (Bool×(List Token))) (fun j=>Cy fun fBad l2=>fun(fr:Nat→AV) (h:Ae) => ∃ (v2:AV),∃ (g3:Nat),A0 v2 (ix ids 1) g3 l2.length∧fr=A2 [(0,(.q ids 0 g)),(1,(.str text)),(4,(.func (.func 43) [] [(.q ids 2 g2)])),(25,(.sl 7 (List.map Bs l))),(26,(.I (l.length:Int))),(27,(.I (j:Int)))]∧h=hp h0 ids [(some (.rows g 2 [[v2,(.bool fBad)]])),(Ai v2 g3 4 (List.map Ab l2)),(some (.rows g2 1 [[(.q ids 0 g)]])),none]) ((s0_bad||(decide ((l.length:Int) > most))),l1) ?_ ?_ ?_
  ·exact⟨v1,g1,vH,J,J⟩
  ·rintro j a ha W hW ⟨fBad,l2⟩ fr h ⟨v2,g3,vH1,rfl,rfl⟩
   refine Al (m':=I5 text a fBad l2) J (Al (I5.eq_1 _ _ _ _) ?_)
   refine Y<|O<|Aa (.bool (decide ((j:Int)<(l.length:Int)))) J (Bd J J J)<|Z<|Y<|D3 (t:=25) (L:=l) J fun hlim=>C1 J (Int.ofNat_lt.2 (A8 ha)) ?_
   refine Az<|Y<|Ba<|Y<|O<|Aa (.cp (Bs a) 0) J (Bu (Dh Mx Ie J ha))<|Aa (.agg (Bs a)) J (Au (Cg Ie J)) ?_
   refine Bb (j:=3) hI J J J J Ie J fun g4=>Ar (Ax (v:=(.agg (Bs a))) hI J J J J Ie J J J J J)<|Z<|Aj ?_
   refine Y<|Y<|O<|Ac 2 [] [(32,(.bool (!(text==[]))))] ?_
   refine Z<|Dx (Cy fun fBad1 l3=>Jb a fBad1 l3) (Cy fun fBad1 l3=>fun(fr:Nat→AV) (h:Ae) => ∃ (v4:AV),∃ (g6:Nat),A0 v4 (ix ids 1) g6 l3.length∧fr=A2 [(0,(.q ids 0 g)),(1,(.str text)),(4,(.func (.func 43) [] [(.q ids 2 g2)])),(11,(.q ids 3 g4)),(25,(.sl 7 (List.map Bs l))),(26,(.I (l.length:Int))),(27,(.I (j:Int)))]∧h=hp h0 ids [(some (.rows g 2 [[v4,(.bool fBad1)]])),(Ai v4 g6 4 (List.map Ab l3)),(some (.rows g2 1 [[(.q ids 0 g)]])),(some (.rows g4 7 [(Bs a)]))]) ?_ fun hJ1=>?_
   ·rintro⟨fBad1,l3⟩ fr h ⟨v4,g6,vH3,rfl,rfl⟩
    refine Al (Jb.eq_1 _ _ _)<|Y<|O<|Ac 2 [3] [(38,(.agg (Bs a))),(37,(.func (.func 43) [] [(.q ids 2 g2)]))] ?_
    refine Ak [2,0,1] hI J J (W6 a fBad1 l3 _ (ix ids 2) (ix ids 0) (ix ids 1) g2 g v4 g6 vH3 (by exact hI.sub' J J)) J J J J J J (fun v _=>Ao (K:=3) (N:=1) Tryz.func42 hI) ?_
    rintro r1 _ _ _ ⟨v5,g7,vH4,rfl,rfl⟩
    refine Av [2,0,1] hI J J J ?_
    refine Ap<|Z<|Aj ?_
    refine O<|Aa (.q ids 0 g) J Ad<|C8 (e:=rS) (L:=[[59]]) (st:=1) (rows:=[[(.str [59])]]) J Do Cl J J J J J (.cons (RowSim.refl _) .nil) (fun x=>F2 x) J J<|Ak [0,1] hI J J (Cx [[59]] r1.1 r1.2 _ (ix ids 0) (ix ids 1) g v5 g7 vH4 (by exact hI.sub' J J)) J J J J J J (fun v _=>Ao (K:=3) (N:=1) Tryz.func42 hI) ?_
    rintro r2 _ _ _ ⟨v6,g8,vH5,rfl,rfl⟩
    refine Av [0,1] hI J J J ?_
    refine Ap<|Z<|Aj ?_
    refine Bo<|O<|Ac 2 [] [(27,(.I (IntKind.wrap .i64 ((j:Int)+1))))] ?_
    refine Z<|Ef [(some (.rows g 2 [[v6,(.bool r2.1)]])),(Ai v6 g8 4 (List.map Ab r2.2)),(some (.rows g2 1 [[(.q ids 0 g)]])),none] hI J (.keep (.keep (.keep (.drop .nil))))<|Bp (Rx (hW (r2.1,r2.2) _ _ ⟨v6,g8,vH5,J,J⟩)) (.cons J (.cons J (.cons J (.cons J (.cons J (.cons (D0 (A8 ha) hlim) .nil))))))
   refine Dy J (fun hc=>?_) (fun hc=>?_)
   ·refine Az<|Bp (hJ1 (fBad,l2) _ _ ⟨v2,g3,vH1,J,J⟩)
   refine O<|Ac 2 [] [(34,(.str text)),(33,(.q ids 0 g))] ?_
   refine C8 (e:=rS) (L:=[text]) (st:=1) (rows:=[[(.str text)]]) J Do Cl J J J J J (.cons (RowSim.refl _) .nil) (fun x=>F2 x) J J<|Ak [0,1] hI J J (Bt [text] fBad l2 _ (ix ids 0) (ix ids 1) g v2 g3 vH1 (by exact hI.sub' J J)) J J J J J J (fun v _=>Ao (K:=3) (N:=1) Tryz.func42 hI) ?_
   rintro r _ _ _ ⟨v3,g5,vH2,rfl,rfl⟩
   refine Av [0,1] hI J J J ?_
   refine Ap<|Z<|Aj ?_
   exact Bp (hJ1 (r.1,r.2) _ _ ⟨v3,g5,vH2,J,J⟩)
  rintro⟨fBad,l2⟩ fr h ⟨v2,g3,vH1,rfl,rfl⟩
  refine Al (N4 _ _ _)<|Y<|O<|Aa (.bool (decide ((l.length:Int)<(l.length:Int)))) J (Bd J J J)<|Z<|Y<|C2 J (Int.lt_irrefl _) ?_
  refine C6 J<|B3 (K:=3) (N:=1) (a:=(fBad,l2)) (vs:=[]) [some (.rows g 2 [[v2,(.bool fBad)]]),Ai v2 g3 4 (List.map Ab l2),some (.rows g2 1 [[(.q ids 0 g)]])] Tryz.func42 hI J J J (.keep (.keep (.keep (.keep .nil)))) (.same _) ⟨v2,g3,vH1,J,J⟩
 ·refine A3 (t:=17) hb1 J<|Ac 5 [] [(22,(.bool true))] ?_
  exact Be hJ (.cons J (.cons J (.cons J (.cons J (.cons J (.cons (E0 hb1) .nil))))))
 refine A3 (t:=17) hb1 J<|Bz (tj:=17) (.sl 7 (List.map Bs l)) J J J Ad<|Bz (tj:=17) (.I (l.length:Int)) J J J (A4 (Bf Mx))<|Ac 3 [] [(22,(.bool (decide ((l.length:Int) > most))))] ?_
 exact Be hJ (.cons J (.cons J (.cons J (.cons J (.cons J (.cons (Ey hb1) .nil))))))
theorem Vb (m:Mode)(s1_bad:Bool)(l:List Token)(h0:Ae)(o0:Nat)(o1:Nat)(o2:Nat)(g:Nat)(g1:Nat)(v1:AV)(g2:Nat)(vH:A0 v1 o2 g2 l.length)(hI0:Ids h0 [o0,o1,o2] 3):Mg m s1_bad l≠.bad→Bi Tryz.prog 47 [(.agg (Db m)),(.ptr o0 g 0 0)] (hp h0 [o0,o1,o2] [some (.rows g 1 [[(.ptr o1 g1 0 0)]]),some (.rows g1 2 [[v1,(.bool s1_bad)]]),Ai v1 g2 4 (List.map Ab l)]) (Cf (fun a_ v h' => ∃ (v5:AV),∃ (g7:Nat),A0 v5 o2 g7 a_.2.length∧v=(.tup [])∧h'=hp h0 [o0,o1,o2] [some (.rows g 1 [[(.ptr o1 g1 0 0)]]),some (.rows g1 2 [[v5,(.bool a_.1)]]),Ai v5 g7 4 (List.map Ab a_.2)]) h0 (Mg m s1_bad l)):=by
 refine A6 (n:=14) 1 Tryz.func47 J (by decide) J J hI0 J fun ids he hI=>?_
 clear hI0
 obtain rfl:ix ids 0=o0:=he 0 rfl
 obtain rfl:ix ids 1=o1:=he 1 rfl
 obtain rfl:ix ids 2=o2:=he 2 rfl
 clear he
 refine Bl (Al (Mg.eq_1 _ _ _) ?_)
 refine Aj ?_
 refine Y<|O<|Ck (v:=(.agg (Db m))) (j:=3) hI J J J J J J J fun g3=>Z<|Aj ?_
 refine Y<|O<|Ac 1 [0] [(3,(.q ids 1 g1))] ?_
 refine C8 (e:=rS) (L:=[[109,111,100,101]]) (st:=1) (rows:=[[(.str [109,111,100,101])]]) J Do Cl J J J J J (.cons (RowSim.refl _) .nil) (fun x=>F2 x) J J<|Ak [1,2] hI J J (Bt [[109,111,100,101]] s1_bad l _ (ix ids 1) (ix ids 2) g1 v1 g2 vH (by exact hI.sub' J J)) J J J J J J (fun v _=>Ao (K:=3) (N:=1) Tryz.func47 hI) ?_
 rintro r _ _ _ ⟨v2,g4,vH1,rfl,rfl⟩
 refine Av [1,2] hI J J J ?_
 refine Ap<|Z<|Aj ?_
 refine Y<|O<|Ac 3 [0,3] [(8,(.str m.Name)),(6,(.q ids 1 g1))] ?_
 refine Ak [1,2] hI J J (Cr m.Name r.1 r.2 _ (ix ids 1) (ix ids 2) g1 v2 g4 vH1 (by exact hI.sub' J J)) J J J J J J (fun v _=>Ao (K:=3) (N:=1) Tryz.func47 hI) ?_
 rintro r1 _ _ _ ⟨v3,g5,vH2,rfl,rfl⟩
 refine Av [1,2] hI J J J ?_
 refine Ap<|Z<|Aj ?_
 refine O<|Ac 3 [0,3] [(12,(.I m.Places)),(10,(.q ids 1 g1))] ?_
 refine Ak [1,2] hI J J (C9 m.Places 0 64 r1.1 r1.2 _ (ix ids 1) (ix ids 2) g1 v3 g5 vH2 (by exact hI.sub' J J)) J J J J J J (fun v _=>Ao (K:=3) (N:=1) Tryz.func47 hI) ?_
 rintro r2 _ _ _ ⟨v4,g6,vH3,rfl,rfl⟩
 refine Av [1,2] hI J J J ?_
 refine Ap<|Z<|Aj ?_
 exact B3 (K:=3) (N:=1) (a:=((r1.1||(!((decide (m.Places≥0))&&(decide (m.Places≤64))))),r2)) (vs:=[]) [some (.rows g 1 [[(.q ids 1 g1)]]),some (.rows g1 2 [[v4,(.bool (r1.1||(!((decide (m.Places≥0))&&(decide (m.Places≤64))))))]]),Ai v4 g6 4 (List.map Ab r2)] Tryz.func47 hI J J J (.keep (.keep (.keep (.drop .nil)))) (.same _) ⟨v4,g6,vH3,J,J⟩
theorem Va (l:List Mode)(most:Int)(s0_bad:Bool)(l1:List Token)(h0:Ae)(o0:Nat)(o1:Nat)(o2:Nat)(g:Nat)(v1:AV)(g1:Nat)(g2:Nat)(vH:A0 v1 o1 g1 l1.length)(hI0:Ids h0 [o0,o1,o2] 3):Mk l most s0_bad l1≠.bad→Bi Tryz.prog 46 [(.ptr o0 g 0 0),(.sl 2 (List.map Db l)),(.int .i64 most),(.func (.func 47) [] [(.ptr o2 g2 0 0)])] (hp h0 [o0,o1,o2] [some (.rows g 2 [[v1,(.bool s0_bad)]]),Ai v1 g1 4 (List.map Ab l1),some (.rows g2 1 [[(.ptr o0 g 0 0)]])]) (Cf (fun a_ v h' => ∃ (v6:AV),∃ (g8:Nat),A0 v6 o1 g8 a_.2.length∧v=(.tup [])∧h'=hp h0 [o0,o1,o2] [some (.rows g 2 [[v6,(.bool a_.1)]]),Ai v6 g8 4 (List.map Ab a_.2),some (.rows g2 1 [[(.ptr o0 g 0 0)]])]) h0 (Mk l most s0_bad l1)):=by
 refine A6 (n:=44) 1 Tryz.func46 J (by decide) J J hI0 J fun ids he hI=>?_
 clear hI0
 obtain rfl:ix ids 0=o0:=he 0 rfl
 obtain rfl:ix ids 1=o1:=he 1 rfl
 obtain rfl:ix ids 2=o2:=he 2 rfl
 clear he
 refine Bl (Al (Mk.eq_1 _ _ _ _) ?_)
 refine Aj ?_
 refine Y<|O<|Ac 6 [0] [(15,(.bool s0_bad)),(10,(.q ids 0 g))] ?_
 refine By 4 [(0,(.q ids 0 g)),(1,(.sl 2 (List.map Db l))),(2,(.I most)),(3,(.func (.func 47) [] [(.q ids 2 g2)])),(10,(.q ids 0 g)),(19,(.bool (s0_bad||((l.length:Int)==0))))] ?_ fun hJ=>Bq s0_bad (fun hb1=>?_) (fun hb1=>?_)
 ·refine Aa (.bool (s0_bad||((l.length:Int)==0))) J Ad<|By 5 [(0,(.q ids 0 g)),(1,(.sl 2 (List.map Db l))),(3,(.func (.func 47) [] [(.q ids 2 g2)])),(10,(.q ids 0 g)),(25,(.bool ((s0_bad||((l.length:Int)==0))||(decide ((l.length:Int) > most)))))] ?_ fun hJ1=>Bq (s0_bad||((l.length:Int)==0)) (fun hb3=>?_) (fun hb3=>?_)
  ·refine Ac 2 [] [(27,(.ptr (ix ids 0) g 0 1))] ?_
   refine Ar (Ax (v:=(.bool ((s0_bad||((l.length:Int)==0))||(decide ((l.length:Int) > most))))) hI J J J J Oz J J J J J)<|Z<|Aj ?_
   refine Y<|O<|Aa (.sl 2 (List.map Db l)) J Ad<|Aa (.I (l.length:Int)) J (A4 (Bf Mq))<|Aa (.I 0) J Ad<|Z<|Ba ?_
   refine D2 [(0,(.q ids 0 g)),(3,(.func (.func 47) [] [(.q ids 2 g2)])),(28,(.sl 2 (List.map Db l))),(29,(.I (l.length:Int))),(30,(.I 0))] (FI J)<|Jh (P:=Tryz.prog) l (fun j a=>Cy fun fBad l2=>Kn j a fBad l2) (((Cy fun fBad l2=>.ok (fBad,l2))):(Bool×(List Token))→R (Bool×(List Token))) (fun j=>Cy fun fBad l2=>fun(fr:Nat→AV) (h:Ae) => ∃ (v2:AV),∃ (g3:Nat),A0 v2 (ix ids 1) g3 l2.length∧fr=A2 [(0,(.q ids 0 g)),(3,(.func (.func 47) [] [(.q ids 2 g2)])),(28,(.sl 2 (List.map Db l))),(29,(.I (l.length:Int))),(30,(.I (j:Int)))]∧h=hp h0 ids [(some (.rows g 2 [[v2,(.bool fBad)]])),(Ai v2 g3 4 (List.map Ab l2)),(some (.rows g2 1 [[(.q ids 0 g)]])),none]) (((s0_bad||((l.length:Int)==0))||(decide ((l.length:Int) > most))),l1) ?_ ?_ ?_
   ·exact⟨v1,g1,vH,J,J⟩
   ·rintro j a ha W hW ⟨fBad,l2⟩ fr h ⟨v2,g3,vH1,rfl,rfl⟩
    refine Al (m':=Kn j a fBad l2) J (Al (Kn.eq_1 _ _ _ _) ?_)
    refine Y<|O<|Aa (.bool (decide ((j:Int)<(l.length:Int)))) J (Bd J J J)<|Z<|Y<|D3 (t:=28) (L:=l) J fun hlim=>C1 J (Int.ofNat_lt.2 (A8 ha)) ?_
    refine Az<|Y<|Ba<|Y<|O<|Aa (.I (j:Int)) J Ad<|Aa (.cp (Db a) 0) J (Bu (Dh Mq N8 J ha)) ?_
    refine Aa (.agg (Db a)) J (Au (Cg N8 J))<|Bb (j:=3) hI J J J J N8 J fun g4=>Aa (.I (j:Int)) J An<|Ar (Ax (v:=(.agg (Db a))) hI J J J J N8 J J J J J)<|Z<|Aj ?_
    refine Y<|Y<|O<|Ac 2 [] [(36,(.bool (decide ((j:Int) > 0))))] ?_
    refine Z<|Dx (Cy fun fBad1 l3=>Ks a fBad1 l3) (Cy fun fBad1 l3=>fun(fr:Nat→AV) (h:Ae) => ∃ (v4:AV),∃ (g6:Nat),A0 v4 (ix ids 1) g6 l3.length∧fr=A2 [(0,(.q ids 0 g)),(3,(.func (.func 47) [] [(.q ids 2 g2)])),(9,(.q ids 3 g4)),(28,(.sl 2 (List.map Db l))),(29,(.I (l.length:Int))),(30,(.I (j:Int)))]∧h=hp h0 ids [(some (.rows g 2 [[v4,(.bool fBad1)]])),(Ai v4 g6 4 (List.map Ab l3)),(some (.rows g2 1 [[(.q ids 0 g)]])),(some (.rows g4 2 [(Db a)]))]) ?_ fun hJ2=>?_
    ·rintro⟨fBad1,l3⟩ fr h ⟨v4,g6,vH3,rfl,rfl⟩
     refine Al (Ks.eq_1 _ _ _)<|O<|Ac 2 [3] [(41,(.agg (Db a))),(40,(.func (.func 47) [] [(.q ids 2 g2)]))] ?_
     refine Ak [2,0,1] hI J J (Vb a fBad1 l3 _ (ix ids 2) (ix ids 0) (ix ids 1) g2 g v4 g6 vH3 (by exact hI.sub' J J)) J J J J J J (fun v _=>Ao (K:=3) (N:=1) Tryz.func46 hI) ?_
     rintro r1 _ _ _ ⟨v5,g7,vH4,rfl,rfl⟩
     refine Av [2,0,1] hI J J J ?_
     refine Ap<|Z<|Aj ?_
     refine Bo<|O<|Ac 2 [] [(30,(.I (IntKind.wrap .i64 ((j:Int)+1))))] ?_
     refine Z<|Ef [(some (.rows g 2 [[v5,(.bool r1.1)]])),(Ai v5 g7 4 (List.map Ab r1.2)),(some (.rows g2 1 [[(.q ids 0 g)]])),none] hI J (.keep (.keep (.keep (.drop .nil))))<|Bp (Rx (hW (r1.1,r1.2) _ _ ⟨v5,g7,vH4,J,J⟩)) (.cons J (.cons J (.cons J (.cons J (.cons (D0 (A8 ha) hlim) .nil)))))
    refine Ot J (fun hc=>?_) (fun hc=>?_)
    ·refine O<|Aa (.q ids 0 g) J Ad<|C8 (e:=rS) (L:=[[44]]) (st:=1) (rows:=[[(.str [44])]]) J Do Cl J J J J J (.cons (RowSim.refl _) .nil) (fun x=>F2 x) J J<|Ak [0,1] hI J J (Cx [[44]] fBad l2 _ (ix ids 0) (ix ids 1) g v2 g3 vH1 (by exact hI.sub' J J)) J J J J J J (fun v _=>Ao (K:=3) (N:=1) Tryz.func46 hI) ?_
     rintro r _ _ _ ⟨v3,g5,vH2,rfl,rfl⟩
     refine Av [0,1] hI J J J ?_
     refine Ap<|Z<|Aj ?_
     exact Bp (hJ2 (r.1,r.2) _ _ ⟨v3,g5,vH2,J,J⟩)
    refine Az<|Bp (hJ2 (fBad,l2) _ _ ⟨v2,g3,vH1,J,J⟩)
   rintro⟨fBad,l2⟩ fr h ⟨v2,g3,vH1,rfl,rfl⟩
   refine Al (N4 _ _ _)<|Y<|O<|Aa (.bool (decide ((l.length:Int)<(l.length:Int)))) J (Bd J J J)<|Z<|Y<|C2 J (Int.lt_irrefl _) ?_
   refine C6 J<|B3 (K:=3) (N:=1) (a:=(fBad,l2)) (vs:=[]) [some (.rows g 2 [[v2,(.bool fBad)]]),Ai v2 g3 4 (List.map Ab l2),some (.rows g2 1 [[(.q ids 0 g)]])] Tryz.func46 hI J J J (.keep (.keep (.keep (.keep .nil)))) (.same _) ⟨v2,g3,vH1,J,J⟩
  ·refine A3 (t:=20) hb3 J<|Ac 5 [] [(25,(.bool true))] ?_
   exact Be hJ1 (.cons J (.cons J (.cons J (.cons J (.cons (E0 hb3) .nil)))))
  refine A3 (t:=20) hb3 J<|Bz (tj:=20) (.sl 2 (List.map Db l)) J J J Ad<|Bz (tj:=20) (.I (l.length:Int)) J J J (A4 (Bf Mq))<|Ac 3 [] [(25,(.bool (decide ((l.length:Int) > most))))] ?_
  exact Be hJ1 (.cons J (.cons J (.cons J (.cons J (.cons (Ey hb3) .nil)))))
 ·refine A3 (t:=15) hb1 J<|Ac 4 [] [(19,(.bool true))] ?_
  exact Be hJ (.cons J (.cons J (.cons J (.cons J (.cons J (.cons (E0 hb1) .nil))))))
 refine A3 (t:=15) hb1 J<|Bz (tj:=15) (.sl 2 (List.map Db l)) J J J Ad<|Bz (tj:=15) (.I (l.length:Int)) J J J (A4 (Bf Mq))<|Ac 2 [] [(19,(.bool ((l.length:Int)==0)))] ?_
 exact Be hJ (.cons J (.cons J (.cons J (.cons J (.cons J (.cons (Ey hb1) .nil))))))
theorem Xd (a:Airport)(s1_bad:Bool)(l:List Token)(h0:Ae)(o0:Nat)(o1:Nat)(o2:Nat)(g:Nat)(g1:Nat)(v1:AV)(g2:Nat)(vH:A0 v1 o2 g2 l.length)(hI0:Ids h0 [o0,o1,o2] 3):Nr a s1_bad l≠.bad→Bi Tryz.prog 45 [(.agg (Bc a)),(.ptr o0 g 0 0)] (hp h0 [o0,o1,o2] [some (.rows g 1 [[(.ptr o1 g1 0 0)]]),some (.rows g1 2 [[v1,(.bool s1_bad)]]),Ai v1 g2 4 (List.map Ab l)]) (Cf (fun a_ v h' => ∃ (v4:AV),∃ (g6:Nat),A0 v4 o2 g6 a_.2.length∧v=(.tup [])∧h'=hp h0 [o0,o1,o2] [some (.rows g 1 [[(.ptr o1 g1 0 0)]]),some (.rows g1 2 [[v4,(.bool a_.1)]]),Ai v4 g6 4 (List.map Ab a_.2)]) h0 (Nr a s1_bad l)):=by
 refine A6 (n:=12) 1 Tryz.func45 J (by decide) J J hI0 J fun ids he hI=>?_
 clear hI0
 obtain rfl:ix ids 0=o0:=he 0 rfl
 obtain rfl:ix ids 1=o1:=he 1 rfl
 obtain rfl:ix ids 2=o2:=he 2 rfl
 clear he
 refine Bl (Al (Nr.eq_1 _ _ _) ?_)
 refine Aj ?_
 refine Y<|O<|Ck (v:=(.agg (Bc a))) (j:=3) hI J J J J J J J fun g3=>Z<|Aj ?_
 refine Y<|O<|Ac 3 [0,3] [(5,(.str a.Name)),(3,(.q ids 1 g1))] ?_
 refine Ak [1,2] hI J J (Cr a.Name s1_bad l _ (ix ids 1) (ix ids 2) g1 v1 g2 vH (by exact hI.sub' J J)) J J J J J J (fun v _=>Ao (K:=3) (N:=1) Tryz.func45 hI) ?_
 rintro r _ _ _ ⟨v2,g4,vH1,rfl,rfl⟩
 refine Av [1,2] hI J J J ?_
 refine Ap<|Z<|Aj ?_
 refine O<|Ac 4 [0,3] [(10,(.func (.func 47) [] [(.q ids 0 g)])),(9,(.sl 2 (List.map Db a.Modes))),(7,(.q ids 1 g1))] ?_
 refine Ak [1,2,0] hI J J (Va a.Modes 16 r.1 r.2 _ (ix ids 1) (ix ids 2) (ix ids 0) g1 v2 g4 g vH1 (by exact hI.sub' J J)) J J J J J J (fun v _=>Ao (K:=3) (N:=1) Tryz.func45 hI) ?_
 rintro r1 _ _ _ ⟨v3,g5,vH2,rfl,rfl⟩
 refine Av [1,2,0] hI J J J ?_
 refine Ap<|Z<|Aj ?_
 exact B3 (K:=3) (N:=1) (a:=(r1.1,r1.2)) (vs:=[]) [some (.rows g 1 [[(.q ids 1 g1)]]),some (.rows g1 2 [[v3,(.bool r1.1)]]),Ai v3 g5 4 (List.map Ab r1.2)] Tryz.func45 hI J J J (.keep (.keep (.keep (.drop .nil)))) (.same _) ⟨v3,g5,vH2,J,J⟩
theorem Se (text:Aw)(l:List Airport)(most:Int)(s0_bad:Bool)(l1:List Token)(h0:Ae)(o0:Nat)(o1:Nat)(o2:Nat)(g:Nat)(v1:AV)(g1:Nat)(g2:Nat)(vH:A0 v1 o1 g1 l1.length)(hI0:Ids h0 [o0,o1,o2] 3):Jp text l most s0_bad l1≠.bad→Bi Tryz.prog 44 [(.ptr o0 g 0 0),(.str text),(.sl 2 (List.map Bc l)),(.int .i64 most),(.func (.func 45) [] [(.ptr o2 g2 0 0)])] (hp h0 [o0,o1,o2] [some (.rows g 2 [[v1,(.bool s0_bad)]]),Ai v1 g1 4 (List.map Ab l1),some (.rows g2 1 [[(.ptr o0 g 0 0)]])]) (Cf (fun a_ v h' => ∃ (v7:AV),∃ (g9:Nat),A0 v7 o1 g9 a_.2.length∧v=(.tup [])∧h'=hp h0 [o0,o1,o2] [some (.rows g 2 [[v7,(.bool a_.1)]]),Ai v7 g9 4 (List.map Ab a_.2),some (.rows g2 1 [[(.ptr o0 g 0 0)]])]) h0 (Jp text l most s0_bad l1)):=by
 refine A6 (n:=44) 1 Tryz.func44 J (by decide) J J hI0 J fun ids he hI=>?_
 clear hI0
 obtain rfl:ix ids 0=o0:=he 0 rfl
 obtain rfl:ix ids 1=o1:=he 1 rfl
 obtain rfl:ix ids 2=o2:=he 2 rfl
 clear he
 refine Bl (Al (Jp.eq_1 _ _ _ _ _) ?_)
 refine Aj ?_
 refine Y<|O<|Ac 6 [0] [(17,(.bool s0_bad)),(12,(.q ids 0 g))] ?_
 refine By 5 [(0,(.q ids 0 g)),(1,(.str text)),(2,(.sl 2 (List.map Bc l))),(4,(.func (.func 45) [] [(.q ids 2 g2)])),(12,(.q ids 0 g)),(22,(.bool (s0_bad||(decide ((l.length:Int) > most)))))] ?_ fun hJ=>Bq s0_bad (fun hb1=>?_) (fun hb1=>?_)
 ·refine Ac 2 [] [(24,(.ptr (ix ids 0) g 0 1))] ?_
  refine Ar (Ax (v:=(.bool (s0_bad||(decide ((l.length:Int) > most))))) hI J J J J Oz J J J J J)<|Z<|Aj ?_
  refine Y<|O<|Aa (.sl 2 (List.map Bc l)) J Ad<|Aa (.I (l.length:Int)) J (A4 (Bf Mp))<|Aa (.I 0) J Ad<|Z<|Ba ?_
  refine D2 [(0,(.q ids 0 g)),(1,(.str text)),(4,(.func (.func 45) [] [(.q ids 2 g2)])),(25,(.sl 2 (List.map Bc l))),(26,(.I (l.length:Int))),(27,(.I 0))] (FI J)<|Jh (P:=Tryz.prog) l (fun _ a=>Cy fun fBad l2=>Hx text a fBad l2) (((Cy fun fBad l2=>.ok (fBad,l2))):(Bool×(List Token))→R (Bool×(List Token))) (fun j=>Cy fun fBad l2=>fun(fr:Nat→AV) (h:Ae) => ∃ (v2:AV),∃ (g3:Nat),A0 v2 (ix ids 1) g3 l2.length∧fr=A2 [(0,(.q ids 0 g)),(1,(.str text)),(4,(.func (.func 45) [] [(.q ids 2 g2)])),(25,(.sl 2 (List.map Bc l))),(26,(.I (l.length:Int))),(27,(.I (j:Int)))]∧h=hp h0 ids [(some (.rows g 2 [[v2,(.bool fBad)]])),(Ai v2 g3 4 (List.map Ab l2)),(some (.rows g2 1 [[(.q ids 0 g)]])),none]) ((s0_bad||(decide ((l.length:Int) > most))),l1) ?_ ?_ ?_
  ·exact⟨v1,g1,vH,J,J⟩
  ·rintro j a ha W hW ⟨fBad,l2⟩ fr h ⟨v2,g3,vH1,rfl,rfl⟩
   refine Al (m':=Hx text a fBad l2) J (Al (Hx.eq_1 _ _ _ _) ?_)
   refine Y<|O<|Aa (.bool (decide ((j:Int)<(l.length:Int)))) J (Bd J J J)<|Z<|Y<|D3 (t:=25) (L:=l) J fun hlim=>C1 J (Int.ofNat_lt.2 (A8 ha)) ?_
   refine Az<|Y<|Ba<|Y<|O<|Aa (.cp (Bc a) 0) J (Bu (Dh Mp If J ha))<|Aa (.agg (Bc a)) J (Au (Cg If J)) ?_
   refine Bb (j:=3) hI J J J J If J fun g4=>Ar (Ax (v:=(.agg (Bc a))) hI J J J J If J J J J J)<|Z<|Aj ?_
   refine Y<|Y<|O<|Ac 2 [] [(32,(.bool (!(text==[]))))] ?_
   refine Z<|Dx (Cy fun fBad1 l3=>Hr a fBad1 l3) (Cy fun fBad1 l3=>fun(fr:Nat→AV) (h:Ae) => ∃ (v4:AV),∃ (g6:Nat),A0 v4 (ix ids 1) g6 l3.length∧fr=A2 [(0,(.q ids 0 g)),(1,(.str text)),(4,(.func (.func 45) [] [(.q ids 2 g2)])),(11,(.q ids 3 g4)),(25,(.sl 2 (List.map Bc l))),(26,(.I (l.length:Int))),(27,(.I (j:Int)))]∧h=hp h0 ids [(some (.rows g 2 [[v4,(.bool fBad1)]])),(Ai v4 g6 4 (List.map Ab l3)),(some (.rows g2 1 [[(.q ids 0 g)]])),(some (.rows g4 2 [(Bc a)]))]) ?_ fun hJ1=>?_
   ·rintro⟨fBad1,l3⟩ fr h ⟨v4,g6,vH3,rfl,rfl⟩
    refine Al (Hr.eq_1 _ _ _)<|Y<|O<|Ac 2 [3] [(38,(.agg (Bc a))),(37,(.func (.func 45) [] [(.q ids 2 g2)]))] ?_
    refine Ak [2,0,1] hI J J (Xd a fBad1 l3 _ (ix ids 2) (ix ids 0) (ix ids 1) g2 g v4 g6 vH3 (by exact hI.sub' J J)) J J J J J J (fun v _=>Ao (K:=3) (N:=1) Tryz.func44 hI) ?_
    rintro r1 _ _ _ ⟨v5,g7,vH4,rfl,rfl⟩
    refine Av [2,0,1] hI J J J ?_
    refine Ap<|Z<|Aj ?_
    refine O<|Aa (.q ids 0 g) J Ad<|C8 (e:=rS) (L:=[[59]]) (st:=1) (rows:=[[(.str [59])]]) J Do Cl J J J J J (.cons (RowSim.refl _) .nil) (fun x=>F2 x) J J<|Ak [0,1] hI J J (Cx [[59]] r1.1 r1.2 _ (ix ids 0) (ix ids 1) g v5 g7 vH4 (by exact hI.sub' J J)) J J J J J J (fun v _=>Ao (K:=3) (N:=1) Tryz.func44 hI) ?_
    rintro r2 _ _ _ ⟨v6,g8,vH5,rfl,rfl⟩
    refine Av [0,1] hI J J J ?_
    refine Ap<|Z<|Aj ?_
    refine Bo<|O<|Ac 2 [] [(27,(.I (IntKind.wrap .i64 ((j:Int)+1))))] ?_
    refine Z<|Ef [(some (.rows g 2 [[v6,(.bool r2.1)]])),(Ai v6 g8 4 (List.map Ab r2.2)),(some (.rows g2 1 [[(.q ids 0 g)]])),none] hI J (.keep (.keep (.keep (.drop .nil))))<|Bp (Rx (hW (r2.1,r2.2) _ _ ⟨v6,g8,vH5,J,J⟩)) (.cons J (.cons J (.cons J (.cons J (.cons J (.cons (D0 (A8 ha) hlim) .nil))))))
   refine Dy J (fun hc=>?_) (fun hc=>?_)
   ·refine Az<|Bp (hJ1 (fBad,l2) _ _ ⟨v2,g3,vH1,J,J⟩)
   refine O<|Ac 2 [] [(34,(.str text)),(33,(.q ids 0 g))] ?_
   refine C8 (e:=rS) (L:=[text]) (st:=1) (rows:=[[(.str text)]]) J Do Cl J J J J J (.cons (RowSim.refl _) .nil) (fun x=>F2 x) J J<|Ak [0,1] hI J J (Bt [text] fBad l2 _ (ix ids 0) (ix ids 1) g v2 g3 vH1 (by exact hI.sub' J J)) J J J J J J (fun v _=>Ao (K:=3) (N:=1) Tryz.func44 hI) ?_
   rintro r _ _ _ ⟨v3,g5,vH2,rfl,rfl⟩
   refine Av [0,1] hI J J J ?_
   refine Ap<|Z<|Aj ?_
   exact Bp (hJ1 (r.1,r.2) _ _ ⟨v3,g5,vH2,J,J⟩)
  rintro⟨fBad,l2⟩ fr h ⟨v2,g3,vH1,rfl,rfl⟩
  refine Al (N4 _ _ _)<|Y<|O<|Aa (.bool (decide ((l.length:Int)<(l.length:Int)))) J (Bd J J J)<|Z<|Y<|C2 J (Int.lt_irrefl _) ?_
  refine C6 J<|B3 (K:=3) (N:=1) (a:=(fBad,l2)) (vs:=[]) [some (.rows g 2 [[v2,(.bool fBad)]]),Ai v2 g3 4 (List.map Ab l2),some (.rows g2 1 [[(.q ids 0 g)]])] Tryz.func44 hI J J J (.keep (.keep (.keep (.keep .nil)))) (.same _) ⟨v2,g3,vH1,J,J⟩
 ·refine A3 (t:=17) hb1 J<|Ac 5 [] [(22,(.bool true))] ?_
  exact Be hJ (.cons J (.cons J (.cons J (.cons J (.cons J (.cons (E0 hb1) .nil))))))
 refine A3 (t:=17) hb1 J<|Bz (tj:=17) (.sl 2 (List.map Bc l)) J J J Ad<|Bz (tj:=17) (.I (l.length:Int)) J J J (A4 (Bf Mp))<|Ac 3 [] [(22,(.bool (decide ((l.length:Int) > most))))] ?_
 exact Be hJ (.cons J (.cons J (.cons J (.cons J (.cons J (.cons (Ey hb1) .nil))))))
theorem Xj (a:Class)(s1_bad:Bool)(l:List Token)(h0:Ae)(o0:Nat)(o1:Nat)(o2:Nat)(g:Nat)(g1:Nat)(v1:AV)(g2:Nat)(vH:A0 v1 o2 g2 l.length)(hI0:Ids h0 [o0,o1,o2] 3):Nt a s1_bad l≠.bad→Bi Tryz.prog 49 [(.agg (B7 a)),(.ptr o0 g 0 0)] (hp h0 [o0,o1,o2] [some (.rows g 1 [[(.ptr o1 g1 0 0)]]),some (.rows g1 2 [[v1,(.bool s1_bad)]]),Ai v1 g2 4 (List.map Ab l)]) (Cf (fun a_ v h' => ∃ (v9:AV),∃ (g11:Nat),A0 v9 o2 g11 a_.2.length∧v=(.tup [])∧h'=hp h0 [o0,o1,o2] [some (.rows g 1 [[(.ptr o1 g1 0 0)]]),some (.rows g1 2 [[v9,(.bool a_.1)]]),Ai v9 g11 4 (List.map Ab a_.2)]) h0 (Nt a s1_bad l)):=by
 refine A6 (n:=30) 1 Tryz.func49 J (by decide) J J hI0 J fun ids he hI=>?_
 clear hI0
 obtain rfl:ix ids 0=o0:=he 0 rfl
 obtain rfl:ix ids 1=o1:=he 1 rfl
 obtain rfl:ix ids 2=o2:=he 2 rfl
 clear he
 refine Bl (Al (Nt.eq_1 _ _ _) ?_)
 refine Aj ?_
 refine Y<|O<|Ck (v:=(.agg (B7 a))) (j:=3) hI J J J J J J J fun g3=>Z<|Aj ?_
 refine Y<|O<|Ac 3 [0,3] [(5,(.str a.Name)),(3,(.q ids 1 g1))] ?_
 refine Ak [1,2] hI J J (Cr a.Name s1_bad l _ (ix ids 1) (ix ids 2) g1 v1 g2 vH (by exact hI.sub' J J)) J J J J J J (fun v _=>Ao (K:=3) (N:=1) Tryz.func49 hI) ?_
 rintro r _ _ _ ⟨v2,g4,vH1,rfl,rfl⟩
 refine Av [1,2] hI J J J ?_
 refine Ap<|Z<|Aj ?_
 refine Y<|O<|Ac 1 [0] [(7,(.q ids 1 g1))] ?_
 refine C8 (e:=rS) (L:=[[115,108,111,119]]) (st:=1) (rows:=[[(.str [115,108,111,119])]]) J Do Cl J J J J J (.cons (RowSim.refl _) .nil) (fun x=>F2 x) J J<|Ak [1,2] hI J J (Bt [[115,108,111,119]] r.1 r.2 _ (ix ids 1) (ix ids 2) g1 v2 g4 vH1 (by exact hI.sub' J J)) J J J J J J (fun v _=>Ao (K:=3) (N:=1) Tryz.func49 hI) ?_
 rintro r1 _ _ _ ⟨v3,g5,vH2,rfl,rfl⟩
 refine Av [1,2] hI J J J ?_
 refine Ap<|Z<|Aj ?_
 refine Y<|O<|Ac 3 [0,3] [(12,(.I a.Slow)),(10,(.q ids 1 g1))] ?_
 refine Ak [1,2] hI J J (C9 a.Slow 1 64 r1.1 r1.2 _ (ix ids 1) (ix ids 2) g1 v3 g5 vH2 (by exact hI.sub' J J)) J J J J J J (fun v _=>Ao (K:=3) (N:=1) Tryz.func49 hI) ?_
 rintro r2 _ _ _ ⟨v4,g6,vH3,rfl,rfl⟩
 refine Av [1,2] hI J J J ?_
 refine Ap<|Z<|Aj ?_
 refine Y<|O<|Ac 1 [0] [(14,(.q ids 1 g1))] ?_
 refine C8 (e:=rS) (L:=[[102,97,115,116]]) (st:=1) (rows:=[[(.str [102,97,115,116])]]) J Do Cl J J J J J (.cons (RowSim.refl _) .nil) (fun x=>F2 x) J J<|Ak [1,2] hI J J (Bt [[102,97,115,116]] (r1.1||(!((decide (a.Slow≥1))&&(decide (a.Slow≤64))))) r2 _ (ix ids 1) (ix ids 2) g1 v4 g6 vH3 (by exact hI.sub' J J)) J J J J J J (fun v _=>Ao (K:=3) (N:=1) Tryz.func49 hI) ?_
 rintro r3 _ _ _ ⟨v5,g7,vH4,rfl,rfl⟩
 refine Av [1,2] hI J J J ?_
 refine Ap<|Z<|Aj ?_
 refine Y<|O<|Ac 5 [0,3,3] [(21,(.I a.Slow)),(19,(.I a.Fast)),(17,(.q ids 1 g1))] ?_
 refine Ak [1,2] hI J J (C9 a.Fast a.Slow 64 r3.1 r3.2 _ (ix ids 1) (ix ids 2) g1 v5 g7 vH4 (by exact hI.sub' J J)) J J J J J J (fun v _=>Ao (K:=3) (N:=1) Tryz.func49 hI) ?_
 rintro r4 _ _ _ ⟨v6,g8,vH5,rfl,rfl⟩
 refine Av [1,2] hI J J J ?_
 refine Ap<|Z<|Aj ?_
 refine Y<|O<|Ac 1 [0] [(23,(.q ids 1 g1))] ?_
 refine C8 (e:=rS) (L:=[[112,108,97,99,101,115]]) (st:=1) (rows:=[[(.str [112,108,97,99,101,115])]]) J Do Cl J J J J J (.cons (RowSim.refl _) .nil) (fun x=>F2 x) J J<|Ak [1,2] hI J J (Bt [[112,108,97,99,101,115]] (r3.1||(!((decide (a.Fast≥a.Slow))&&(decide (a.Fast≤64))))) r4 _ (ix ids 1) (ix ids 2) g1 v6 g8 vH5 (by exact hI.sub' J J)) J J J J J J (fun v _=>Ao (K:=3) (N:=1) Tryz.func49 hI) ?_
 rintro r5 _ _ _ ⟨v7,g9,vH6,rfl,rfl⟩
 refine Av [1,2] hI J J J ?_
 refine Ap<|Z<|Aj ?_
 refine O<|Ac 3 [0,3] [(28,(.I a.Places)),(26,(.q ids 1 g1))] ?_
 refine Ak [1,2] hI J J (C9 a.Places 1 8 r5.1 r5.2 _ (ix ids 1) (ix ids 2) g1 v7 g9 vH6 (by exact hI.sub' J J)) J J J J J J (fun v _=>Ao (K:=3) (N:=1) Tryz.func49 hI) ?_
 rintro r6 _ _ _ ⟨v8,g10,vH7,rfl,rfl⟩
 refine Av [1,2] hI J J J ?_
 refine Ap<|Z<|Aj ?_
 exact B3 (K:=3) (N:=1) (a:=((r5.1||(!((decide (a.Places≥1))&&(decide (a.Places≤8))))),r6)) (vs:=[]) [some (.rows g 1 [[(.q ids 1 g1)]]),some (.rows g1 2 [[v8,(.bool (r5.1||(!((decide (a.Places≥1))&&(decide (a.Places≤8))))))]]),Ai v8 g10 4 (List.map Ab r6)] Tryz.func49 hI J J J (.keep (.keep (.keep (.drop .nil)))) (.same _) ⟨v8,g10,vH7,J,J⟩
theorem Ta (text:Aw)(l:List Class)(most:Int)(s0_bad:Bool)(l1:List Token)(h0:Ae)(o0:Nat)(o1:Nat)(o2:Nat)(g:Nat)(v1:AV)(g1:Nat)(g2:Nat)(vH:A0 v1 o1 g1 l1.length)(hI0:Ids h0 [o0,o1,o2] 3):Ko text l most s0_bad l1≠.bad→Bi Tryz.prog 48 [(.ptr o0 g 0 0),(.str text),(.sl 4 (List.map B7 l)),(.int .i64 most),(.func (.func 49) [] [(.ptr o2 g2 0 0)])] (hp h0 [o0,o1,o2] [some (.rows g 2 [[v1,(.bool s0_bad)]]),Ai v1 g1 4 (List.map Ab l1),some (.rows g2 1 [[(.ptr o0 g 0 0)]])]) (Cf (fun a_ v h' => ∃ (v7:AV),∃ (g9:Nat),A0 v7 o1 g9 a_.2.length∧v=(.tup [])∧h'=hp h0 [o0,o1,o2] [some (.rows g 2 [[v7,(.bool a_.1)]]),Ai v7 g9 4 (List.map Ab a_.2),some (.rows g2 1 [[(.ptr o0 g 0 0)]])]) h0 (Ko text l most s0_bad l1)):=by
 refine A6 (n:=44) 1 Tryz.func48 J (by decide) J J hI0 J fun ids he hI=>?_
 clear hI0
 obtain rfl:ix ids 0=o0:=he 0 rfl
 obtain rfl:ix ids 1=o1:=he 1 rfl
 obtain rfl:ix ids 2=o2:=he 2 rfl
 clear he
 refine Bl (Al (Ko.eq_1 _ _ _ _ _) ?_)
 refine Aj ?_
 refine Y<|O<|Ac 6 [0] [(17,(.bool s0_bad)),(12,(.q ids 0 g))] ?_
 refine By 5 [(0,(.q ids 0 g)),(1,(.str text)),(2,(.sl 4 (List.map B7 l))),(4,(.func (.func 49) [] [(.q ids 2 g2)])),(12,(.q ids 0 g)),(22,(.bool (s0_bad||(decide ((l.length:Int) > most)))))] ?_ fun hJ=>Bq s0_bad (fun hb1=>?_) (fun hb1=>?_)
 ·refine Ac 2 [] [(24,(.ptr (ix ids 0) g 0 1))] ?_
  refine Ar (Ax (v:=(.bool (s0_bad||(decide ((l.length:Int) > most))))) hI J J J J Oz J J J J J)<|Z<|Aj ?_
  refine Y<|O<|Aa (.sl 4 (List.map B7 l)) J Ad<|Aa (.I (l.length:Int)) J (A4 (Bf Lq))<|Aa (.I 0) J Ad<|Z<|Ba ?_
  refine D2 [(0,(.q ids 0 g)),(1,(.str text)),(4,(.func (.func 49) [] [(.q ids 2 g2)])),(25,(.sl 4 (List.map B7 l))),(26,(.I (l.length:Int))),(27,(.I 0))] (FI J)<|Jh (P:=Tryz.prog) l (fun _ a=>Cy fun fBad l2=>I3 text a fBad l2) (((Cy fun fBad l2=>.ok (fBad,l2))):(Bool×(List Token))→R (Bool×(List Token))) (fun j=>Cy fun fBad l2=>fun(fr:Nat→AV) (h:Ae) => ∃ (v2:AV),∃ (g3:Nat),A0 v2 (ix ids 1) g3 l2.length∧fr=A2 [(0,(.q ids 0 g)),(1,(.str text)),(4,(.func (.func 49) [] [(.q ids 2 g2)])),(25,(.sl 4 (List.map B7 l))),(26,(.I (l.length:Int))),(27,(.I (j:Int)))]∧h=hp h0 ids [(some (.rows g 2 [[v2,(.bool fBad)]])),(Ai v2 g3 4 (List.map Ab l2)),(some (.rows g2 1 [[(.q ids 0 g)]])),none]) ((s0_bad||(decide ((l.length:Int) > most))),l1) ?_ ?_ ?_
  ·exact⟨v1,g1,vH,J,J⟩
  ·rintro j a ha W hW ⟨fBad,l2⟩ fr h ⟨v2,g3,vH1,rfl,rfl⟩
   refine Al (m':=I3 text a fBad l2) J (Al (I3.eq_1 _ _ _ _) ?_)
   refine Y<|O<|Aa (.bool (decide ((j:Int)<(l.length:Int)))) J (Bd J J J)<|Z<|Y<|D3 (t:=25) (L:=l) J fun hlim=>C1 J (Int.ofNat_lt.2 (A8 ha)) ?_
   refine Az<|Y<|Ba<|Y<|O<|Aa (.cp (B7 a) 0) J (Bu (Dh Lq Ls J ha))<|Aa (.agg (B7 a)) J (Au (Cg Ls J)) ?_
   refine Bb (j:=3) hI J J J J Ls J fun g4=>Ar (Ax (v:=(.agg (B7 a))) hI J J J J Ls J J J J J)<|Z<|Aj ?_
   refine Y<|Y<|O<|Ac 2 [] [(32,(.bool (!(text==[]))))] ?_
   refine Z<|Dx (Cy fun fBad1 l3=>Ja a fBad1 l3) (Cy fun fBad1 l3=>fun(fr:Nat→AV) (h:Ae) => ∃ (v4:AV),∃ (g6:Nat),A0 v4 (ix ids 1) g6 l3.length∧fr=A2 [(0,(.q ids 0 g)),(1,(.str text)),(4,(.func (.func 49) [] [(.q ids 2 g2)])),(11,(.q ids 3 g4)),(25,(.sl 4 (List.map B7 l))),(26,(.I (l.length:Int))),(27,(.I (j:Int)))]∧h=hp h0 ids [(some (.rows g 2 [[v4,(.bool fBad1)]])),(Ai v4 g6 4 (List.map Ab l3)),(some (.rows g2 1 [[(.q ids 0 g)]])),(some (.rows g4 4 [(B7 a)]))]) ?_ fun hJ1=>?_
   ·rintro⟨fBad1,l3⟩ fr h ⟨v4,g6,vH3,rfl,rfl⟩
    refine Al (Ja.eq_1 _ _ _)<|Y<|O<|Ac 2 [3] [(38,(.agg (B7 a))),(37,(.func (.func 49) [] [(.q ids 2 g2)]))] ?_
    refine Ak [2,0,1] hI J J (Xj a fBad1 l3 _ (ix ids 2) (ix ids 0) (ix ids 1) g2 g v4 g6 vH3 (by exact hI.sub' J J)) J J J J J J (fun v _=>Ao (K:=3) (N:=1) Tryz.func48 hI) ?_
    rintro r1 _ _ _ ⟨v5,g7,vH4,rfl,rfl⟩
    refine Av [2,0,1] hI J J J ?_
    refine Ap<|Z<|Aj ?_
    refine O<|Aa (.q ids 0 g) J Ad<|C8 (e:=rS) (L:=[[59]]) (st:=1) (rows:=[[(.str [59])]]) J Do Cl J J J J J (.cons (RowSim.refl _) .nil) (fun x=>F2 x) J J<|Ak [0,1] hI J J (Cx [[59]] r1.1 r1.2 _ (ix ids 0) (ix ids 1) g v5 g7 vH4 (by exact hI.sub' J J)) J J J J J J (fun v _=>Ao (K:=3) (N:=1) Tryz.func48 hI) ?_
    rintro r2 _ _ _ ⟨v6,g8,vH5,rfl,rfl⟩
    refine Av [0,1] hI J J J ?_
    refine Ap<|Z<|Aj ?_
    refine Bo<|O<|Ac 2 [] [(27,(.I (IntKind.wrap .i64 ((j:Int)+1))))] ?_
    refine Z<|Ef [(some (.rows g 2 [[v6,(.bool r2.1)]])),(Ai v6 g8 4 (List.map Ab r2.2)),(some (.rows g2 1 [[(.q ids 0 g)]])),none] hI J (.keep (.keep (.keep (.drop .nil))))<|Bp (Rx (hW (r2.1,r2.2) _ _ ⟨v6,g8,vH5,J,J⟩)) (.cons J (.cons J (.cons J (.cons J (.cons J (.cons (D0 (A8 ha) hlim) .nil))))))
   refine Dy J (fun hc=>?_) (fun hc=>?_)
   ·refine Az<|Bp (hJ1 (fBad,l2) _ _ ⟨v2,g3,vH1,J,J⟩)
   refine O<|Ac 2 [] [(34,(.str text)),(33,(.q ids 0 g))] ?_
   refine C8 (e:=rS) (L:=[text]) (st:=1) (rows:=[[(.str text)]]) J Do Cl J J J J J (.cons (RowSim.refl _) .nil) (fun x=>F2 x) J J<|Ak [0,1] hI J J (Bt [text] fBad l2 _ (ix ids 0) (ix ids 1) g v2 g3 vH1 (by exact hI.sub' J J)) J J J J J J (fun v _=>Ao (K:=3) (N:=1) Tryz.func48 hI) ?_
   rintro r _ _ _ ⟨v3,g5,vH2,rfl,rfl⟩
   refine Av [0,1] hI J J J ?_
   refine Ap<|Z<|Aj ?_
   exact Bp (hJ1 (r.1,r.2) _ _ ⟨v3,g5,vH2,J,J⟩)
  rintro⟨fBad,l2⟩ fr h ⟨v2,g3,vH1,rfl,rfl⟩
  refine Al (N4 _ _ _)<|Y<|O<|Aa (.bool (decide ((l.length:Int)<(l.length:Int)))) J (Bd J J J)<|Z<|Y<|C2 J (Int.lt_irrefl _) ?_
  refine C6 J<|B3 (K:=3) (N:=1) (a:=(fBad,l2)) (vs:=[]) [some (.rows g 2 [[v2,(.bool fBad)]]),Ai v2 g3 4 (List.map Ab l2),some (.rows g2 1 [[(.q ids 0 g)]])] Tryz.func48 hI J J J (.keep (.keep (.keep (.keep .nil)))) (.same _) ⟨v2,g3,vH1,J,J⟩
 ·refine A3 (t:=17) hb1 J<|Ac 5 [] [(22,(.bool true))] ?_
  exact Be hJ (.cons J (.cons J (.cons J (.cons J (.cons J (.cons (E0 hb1) .nil))))))
 refine A3 (t:=17) hb1 J<|Bz (tj:=17) (.sl 4 (List.map B7 l)) J J J Ad<|Bz (tj:=17) (.I (l.length:Int)) J J J (A4 (Bf Lq))<|Ac 3 [] [(22,(.bool (decide ((l.length:Int) > most))))] ?_
 exact Be hJ (.cons J (.cons J (.cons J (.cons J (.cons J (.cons (Ey hb1) .nil))))))
theorem I2 (text:Aw)(s1_bad:Bool)(l:List Token)(s3:Rule)(h0:Ae)(o0:Nat)(o1:Nat)(o2:Nat)(o3:Nat)(g:Nat)(g1:Nat)(v1:AV)(g2:Nat)(g3:Nat)(vH:A0 v1 o2 g2 l.length)(hI0:Ids h0 [o0,o1,o2,o3] 4):Ff text s1_bad l s3≠.bad→Bi Tryz.prog 103 [(.str text),(.ptr o0 g 0 0),(.ptr o3 g3 0 0)] (hp h0 [o0,o1,o2,o3] [some (.rows g 1 [[(.ptr o1 g1 0 0)]]),some (.rows g1 2 [[v1,(.bool s1_bad)]]),Ai v1 g2 4 (List.map Ab l),some (.rows g3 8 [(A5 s3)])]) (Cf (fun a_ v h' => ∃ (v4:AV),∃ (g6:Nat),A0 v4 o2 g6 a_.2.length∧v=(.tup [])∧h'=hp h0 [o0,o1,o2,o3] [some (.rows g 1 [[(.ptr o1 g1 0 0)]]),some (.rows g1 2 [[v4,(.bool a_.1)]]),Ai v4 g6 4 (List.map Ab a_.2),some (.rows g3 8 [(A5 s3)])]) h0 (Ff text s1_bad l s3)):=by
 refine A6 (n:=12) 0 Tryz.func103 J (by decide) J J hI0 J fun ids he hI=>?_
 clear hI0
 obtain rfl:ix ids 0=o0:=he 0 rfl
 obtain rfl:ix ids 1=o1:=he 1 rfl
 obtain rfl:ix ids 2=o2:=he 2 rfl
 obtain rfl:ix ids 3=o3:=he 3 rfl
 clear he
 refine Bl (Al (Ff.eq_1 _ _ _ _) ?_)
 refine Y<|O<|Ac 2 [0] [(5,(.str text)),(4,(.q ids 1 g1))] ?_
 refine C8 (e:=rS) (L:=[text]) (st:=1) (rows:=[[(.str text)]]) J Do Cl J J J J J (.cons (RowSim.refl _) .nil) (fun x=>F2 x) J J<|Ak [1,2] hI J J (Bt [text] s1_bad l _ (ix ids 1) (ix ids 2) g1 v1 g2 vH (by exact hI.sub' J J)) J J J J J J (fun v _=>Ao (K:=4) (N:=0) Tryz.func103 hI) ?_
 rintro r _ _ _ ⟨v2,g4,vH1,rfl,rfl⟩
 refine Av [1,2] hI J J J ?_
 refine Ap<|Z<|Aj ?_
 refine O<|Ac 3 [0,3] [(10,(.str s3.C)),(8,(.q ids 1 g1))] ?_
 refine Ak [1,2] hI J J (Cr s3.C r.1 r.2 _ (ix ids 1) (ix ids 2) g1 v2 g4 vH1 (by exact hI.sub' J J)) J J J J J J (fun v _=>Ao (K:=4) (N:=0) Tryz.func103 hI) ?_
 rintro r1 _ _ _ ⟨v3,g5,vH2,rfl,rfl⟩
 refine Av [1,2] hI J J J ?_
 refine Ap<|Z<|Aj ?_
 exact B3 (K:=4) (N:=0) (a:=(r1.1,r1.2)) (vs:=[]) [some (.rows g 1 [[(.q ids 1 g1)]]),some (.rows g1 2 [[v3,(.bool r1.1)]]),Ai v3 g5 4 (List.map Ab r1.2),some (.rows g3 8 [(A5 s3)])] Tryz.func103 hI J J J (.keep (.keep (.keep (.keep .nil)))) (.same _) ⟨v3,g5,vH2,J,J⟩
theorem U9 (b:Rule)(s0_bad:Bool)(l:List Token)(h0:Ae)(o0:Nat)(o1:Nat)(g:Nat)(v1:AV)(g1:Nat)(vH:A0 v1 o1 g1 l.length)(hI0:Ids h0 [o0,o1] 2):Mj b s0_bad l≠.bad→Bi Tryz.prog 51 [(.ptr o0 g 0 0),(.agg (A5 b))] (hp h0 [o0,o1] [some (.rows g 2 [[v1,(.bool s0_bad)]]),Ai v1 g1 4 (List.map Ab l)]) (Cf (fun a_ v h' => ∃ (v12:AV),∃ (g16:Nat),A0 v12 o1 g16 a_.2.length∧v=(.tup [])∧h'=hp h0 [o0,o1] [some (.rows g 2 [[v12,(.bool a_.1)]]),Ai v12 g16 4 (List.map Ab a_.2)]) h0 (Mj b s0_bad l)):=by
 refine A6 (n:=93) 4 Tryz.func51 J (by decide) J J hI0 J fun ids he hI=>?_
 clear hI0
 obtain rfl:ix ids 0=o0:=he 0 rfl
 obtain rfl:ix ids 1=o1:=he 1 rfl
 clear he
 refine Bl (Al (Mj.eq_1 _ _ _) ?_)
 refine Aj ?_
 refine Y<|O<|Ck (v:=(.q ids 0 g)) (j:=2) hI J J J J J J J fun g2=>Ck (v:=(.agg (A5 b))) (j:=3) hI J J J J J J J fun g3=>Z<|Aj ?_
 refine Y<|O<|Ac 1 [3] [(7,(.agg (A5 b)))] ?_
 refine Bb (j:=4) hI J J J J Dn J fun g4=>Ar (Ax (v:=(.agg (A5 b))) hI J J J J Dn J J J J J)<|Z<|Aj ?_
 refine Y<|O<|Aa (.ptr (ix ids 4) g4 0 3) J (Cc (B2 (c:=0) (off:=3) (i:=3) Dn J Ds J))<|Ar (Ax (v:=(.I 0)) hI J J J J Ds J J J J J)<|Aa (.ptr (ix ids 4) g4 0 4) J (Cc (B2 (c:=0) (off:=4) (i:=4) Dn J Ds J))<|Ar (Ax (v:=(.I 0)) hI J J J J Ds J J J J J)<|Z ?_
 refine Aj ?_
 refine Y<|O<|Ac 5 [3,3] [(14,(.agg [(.I b.Kind),(.str b.C),(.str []),(.I 0),(.I 0),(.I 0),(.I 0),(.I 0)]))] ?_
 refine Bb (j:=5) hI J J J J Dn J fun g5=>Ar (Ax (v:=(.agg [(.I b.Kind),(.str b.C),(.str []),(.I 0),(.I 0),(.I 0),(.I 0),(.I 0)])) hI J J J J Dn J J J J J)<|Z<|Aj ?_
 refine Y<|O<|Ac 2 [] [(6,(.func (.func 103) [] [(.q ids 2 g2),(.q ids 3 g3)]))] ?_
 refine Z<|Y<|Y<|O<|Ac 2 [3] [(17,(.I b.Kind))] ?_
 refine Z<|Dx (un3 fun fBad l1 o=>Ew b fBad l1 o) (un3 fun fBad l1 o=>fun(fr:Nat→AV) (h:Ae) => ∃ (v11:AV),∃ (g15:Nat),A0 v11 (ix ids 1) g15 l1.length∧fr=A2 [(2,(.q ids 2 g2)),(4,(.q ids 4 g4)),(5,(.q ids 5 g5))]∧h=hp h0 ids [(some (.rows g 2 [[v11,(.bool fBad)]])),(Ai v11 g15 4 (List.map Ab l1)),(some (.rows g2 1 [[(.q ids 0 g)]])),none,(some (.rows g4 8 [[(.I b.Kind),(.str b.C),(.str b.A),(.I 0),(.I 0),(.I b.N),(.I b.Hours.From),(.I b.Hours.To)]])),(some (.rows g5 8 [(A5 o)]))]) ?_ fun hJ=>?_
 ·rintro⟨fBad,l1,o⟩ fr h ⟨v11,g15,vH10,rfl,rfl⟩
  refine Al (Ew.eq_1 _ _ _ _)<|C3 Fg [[],[],[1],[1,2],[1,2,3],[1,2,3,4],[1,2,3,4,5],[1,2,3,4,5],[1,2,3,4,5,6,7],[1,2,3,4,5,6,7,8],[0,0,1,2,3,4,5,6,7,8,9],[0,1,2,3,4,5,6,7,8,9,10],[0,1,2,3,4,5,6,7,8,9,10,11]] [(false,0),(false,1),(false,2),(false,3),(false,4),(false,5),(false,6),(false,7),(false,8),(false,9),(false,10),(false,11),(true,12)] (by kernel_rfl)<|Ag (.q ids 0 g) J J (Au (A9 hI J J J Aa2 J))<|Ag (.q ids 0 g) J J (Au (A9 hI J J J Aa2 J))<|Ag (.q ids 0 g) J J (Bh J)<|Ag (.ptr (ix ids 0) g 0 1) J J (Cc (B2 (c:=0) (off:=1) (i:=1) Vp J Oz J))<|Ag (.bool fBad) J J (Au (A9 hI J J J Oz J)) ?_
  refine Ag (.bool fBad) J J Ad<|L5 (fun hb1=>?_) (fun hb1=>?_)
  ·refine Jo (tj:=86) (b:=true) J J (congrArg AV.bool hb1) J J<|Jo (tj:=86) (b:=true) J J (congrArg AV.bool hb1) J J<|Jo (tj:=86) (b:=true) J J (congrArg AV.bool hb1) J J<|Ag (.bool true) J J (Fd (t:=true) (congrArg AV.bool hb1) J)<|Ag (.q ids 0 g) J J (Bh J)<|Ag (.ptr (ix ids 0) g 0 1) J J (Cc (B2 (c:=0) (off:=1) (i:=1) Vp J Oz J))<|Fl J (fun _ _=>J) (fun K hK=>Dm (Ax (v:=(.bool true)) hI J J J J Oz J J J J J) (hK _ _ (Af J (Af J (Af J (Af J (Af J (Af J (Af J (Af J (Af J (Af J (Af J (Af J Bx)))))))))))) ?_))
   clear hK K
   refine Cm<|Aj ?_
   exact B3 (K:=2) (N:=4) (a:=(true,l1)) (vs:=[]) [some (.rows g 2 [[v11,(.bool true)]]),Ai v11 g15 4 (List.map Ab l1)] Tryz.func51 hI J J J (.keep (.keep (.drop (.keep (.drop (.drop .nil)))))) (.same _) ⟨v11,g15,vH10,J,J⟩
  refine G9 (tj:=86) (.agg [(.I b.Kind),(.str b.C),(.str b.A),(.I 0),(.I 0),(.I b.N),(.I b.Hours.From),(.I b.Hours.To)]) J J (congrArg AV.bool hb1) J (Au (A9 hI J J J Dn J))<|G9 (tj:=86) (.agg (A5 o)) J J (congrArg AV.bool hb1) J (Au (A9 hI J J J Dn J))<|G9 (tj:=86) (.bool (!((b.Kind==o.Kind)&&((b.C==o.C)&&((b.A==o.A)&&((0==o.Class)&&((0==o.Airport)&&((b.N==o.N)&&((b.Hours.From==o.Hours.From)&&(b.Hours.To==o.Hours.To)))))))))) J J (congrArg AV.bool hb1) J (Bd (Ad5 J J) J Ad4)<|Ag (.bool (!((b.Kind==o.Kind)&&((b.C==o.C)&&((b.A==o.A)&&((0==o.Class)&&((0==o.Airport)&&((b.N==o.N)&&((b.Hours.From==o.Hours.From)&&(b.Hours.To==o.Hours.To)))))))))) J J (Fd (t:=false) (congrArg AV.bool hb1) J)<|Ag (.q ids 0 g) J J (Bh J)<|Ag (.ptr (ix ids 0) g 0 1) J J (Cc (B2 (c:=0) (off:=1) (i:=1) Vp J Oz J))<|Fl J (fun _ _=>J) (fun K hK=>Dm (Ax (v:=(.bool (!((b.Kind==o.Kind)&&((b.C==o.C)&&((b.A==o.A)&&((0==o.Class)&&((0==o.Airport)&&((b.N==o.N)&&((b.Hours.From==o.Hours.From)&&(b.Hours.To==o.Hours.To))))))))))) hI J J J J Oz J J J J J) (hK _ _ (Af J (Af J (Af J (Af J (Af J (Af J (Af J (Af J (Af J (Af J (Af J (Af J Bx)))))))))))) ?_))
  clear hK K
  refine Cm<|Aj ?_
  exact B3 (K:=2) (N:=4) (a:=((!((b.Kind==o.Kind)&&((b.C==o.C)&&((b.A==o.A)&&((0==o.Class)&&((0==o.Airport)&&((b.N==o.N)&&((b.Hours.From==o.Hours.From)&&(b.Hours.To==o.Hours.To))))))))),l1)) (vs:=[]) [some (.rows g 2 [[v11,(.bool (!((b.Kind==o.Kind)&&((b.C==o.C)&&((b.A==o.A)&&((0==o.Class)&&((0==o.Airport)&&((b.N==o.N)&&((b.Hours.From==o.Hours.From)&&(b.Hours.To==o.Hours.To))))))))))]]),Ai v11 g15 4 (List.map Ab l1)] Tryz.func51 hI J J J (.keep (.keep (.drop (.keep (.drop (.drop .nil)))))) (.same _) ⟨v11,g15,vH10,J,J⟩
 refine Ba<|Y<|O<|Ac 2 [] [(21,(.bool (b.Kind==1)))] ?_
 refine Z<|B4 J (fun hc=>?_) (fun hc=>?_)
 ·refine Y<|C3 Fg [[],[0],[],[2],[0,1],[0,1,1,4],[0,1,2,3,4,5],[0,1,2,3,3,4,5,5,6]] [(false,0),(false,1),(false,2),(false,3),(false,4),(true,5),(false,6),(true,7)] (by kernel_rfl)<|Ag (.ptr (ix ids 3) g3 0 2) J J (Cc (B2 (c:=0) (off:=2) (i:=2) Dn J Cl J))<|Ag (.str b.A) J J (Au (A9 hI J J J Cl J))<|Ag (.ptr (ix ids 3) g3 0 6) J J (Cc (B2 (c:=0) (off:=6) (i:=6) Dn J Kl J))<|Ag (.agg (B5 b.Hours)) J J (Au (A9 hI J J J Kl J))<|Ag (.ptr (ix ids 5) g5 0 2) J J (Cc (B2 (c:=0) (off:=2) (i:=2) Dn J Cl J)) ?_
  refine Fl J (fun _ _=>J) (fun K hK=>Dm (Ax (v:=(.str b.A)) hI J J J J Cl J J J J J) (hK _ _ (Af J (Bn J (Au (A9 hI J J J Kl J)) (Bn J (Cc (B2 (c:=0) (off:=6) (i:=6) Dn J Kl J)) (Af J (Af J Bx))))) ?_))
  clear hK K
  refine Ag (.ptr (ix ids 5) g5 0 6) J J (Cc (B2 (c:=0) (off:=6) (i:=6) Dn J Kl J))<|Fl J (fun _ _=>J) (fun K hK=>Dm (Ax (v:=(.agg (B5 b.Hours))) hI J J J J Kl J J J J J) (hK _ _ (Af J (Af J (Af J (Af J (Af J (Af J Bx)))))) ?_))
  clear hK K
  refine Cm<|Aj ?_
  refine Y<|O<|Aa (.func (.func 103) [] [(.q ids 2 g2),(.q ids 3 g3)]) J Ad<|Ak [2,0,1,3] hI J J (I2 [99,117,114,102,101,119] s0_bad l b _ (ix ids 2) (ix ids 0) (ix ids 1) (ix ids 3) g2 g v1 g1 g3 vH (by exact hI.sub' J J)) J J J J J J (fun v _=>Ao (K:=2) (N:=4) Tryz.func51 hI) ?_
  rintro r _ _ _ ⟨v2,g6,vH1,rfl,rfl⟩
  refine Av [2,0,1,3] hI J J J ?_
  refine Ap<|Z<|Aj ?_
  refine Y<|O<|Ac 1 [2] [(31,(.q ids 0 g))] ?_
  refine C8 (e:=rS) (L:=[[97,116]]) (st:=1) (rows:=[[(.str [97,116])]]) J Do Cl J J J J J (.cons (RowSim.refl _) .nil) (fun x=>F2 x) J J<|Ak [0,1] hI J J (Bt [[97,116]] r.1 r.2 _ (ix ids 0) (ix ids 1) g v2 g6 vH1 (by exact hI.sub' J J)) J J J J J J (fun v _=>Ao (K:=2) (N:=4) Tryz.func51 hI) ?_
  rintro r1 _ _ _ ⟨v3,g7,vH2,rfl,rfl⟩
  refine Av [0,1] hI J J J ?_
  refine Ap<|Z<|Aj ?_
  refine Y<|O<|Ac 3 [2,3] [(36,(.str b.A)),(34,(.q ids 0 g))] ?_
  refine Ak [0,1] hI J J (Cr b.A r1.1 r1.2 _ (ix ids 0) (ix ids 1) g v3 g7 vH2 (by exact hI.sub' J J)) J J J J J J (fun v _=>Ao (K:=2) (N:=4) Tryz.func51 hI) ?_
  rintro r2 _ _ _ ⟨v4,g8,vH3,rfl,rfl⟩
  refine Av [0,1] hI J J J ?_
  refine Ap<|Z<|Aj ?_
  refine O<|Ac 3 [2,3] [(40,(.agg (B5 b.Hours))),(38,(.q ids 0 g))] ?_
  refine Ak [0,1] hI J J (Pb b.Hours r2.1 r2.2 _ (ix ids 0) (ix ids 1) g v4 g8 vH3 (by exact hI.sub' J J)) J J J J J J (fun v _=>Ao (K:=2) (N:=4) Tryz.func51 hI) ?_
  rintro r3 _ _ _ ⟨v5,g9,vH4,rfl,rfl⟩
  refine Av [0,1] hI J J J ?_
  refine Ap<|Z<|Aj ?_
  refine Bo<|Ef [(some (.rows g 2 [[v5,(.bool r3.1)]])),(Ai v5 g9 4 (List.map Ab r3.2)),(some (.rows g2 1 [[(.q ids 0 g)]])),none,(some (.rows g4 8 [[(.I b.Kind),(.str b.C),(.str b.A),(.I 0),(.I 0),(.I b.N),(.I b.Hours.From),(.I b.Hours.To)]])),(some (.rows g5 8 [[(.I b.Kind),(.str b.C),(.str b.A),(.I 0),(.I 0),(.I 0),(.I b.Hours.From),(.I b.Hours.To)]]))] hI J (.keep (.keep (.keep (.drop (.keep (.keep .nil))))))<|Bp (hJ (r3.1,r3.2,({ Kind:=b.Kind,C:=b.C,A:=b.A,Class:=0,Airport:=0,N:=0,Hours:=b.Hours }:Rule)) _ _ ⟨v5,g9,vH4,J,J⟩)
 refine Y<|O<|Ac 2 [] [(42,(.bool (b.Kind==2)))] ?_
 refine Z<|B4 J (fun hc1=>?_) (fun hc1=>?_)
 ·refine O<|Aa (.func (.func 103) [] [(.q ids 2 g2),(.q ids 3 g3)]) J Ad<|Ak [2,0,1,3] hI J J (I2 [101,120,101,109,112,116] s0_bad l b _ (ix ids 2) (ix ids 0) (ix ids 1) (ix ids 3) g2 g v1 g1 g3 vH (by exact hI.sub' J J)) J J J J J J (fun v _=>Ao (K:=2) (N:=4) Tryz.func51 hI) ?_
  rintro r4 _ _ _ ⟨v6,g10,vH5,rfl,rfl⟩
  refine Av [2,0,1,3] hI J J J ?_
  refine Ap<|Z<|Aj ?_
  refine Bo<|Ef [(some (.rows g 2 [[v6,(.bool r4.1)]])),(Ai v6 g10 4 (List.map Ab r4.2)),(some (.rows g2 1 [[(.q ids 0 g)]])),none,(some (.rows g4 8 [[(.I b.Kind),(.str b.C),(.str b.A),(.I 0),(.I 0),(.I b.N),(.I b.Hours.From),(.I b.Hours.To)]])),(some (.rows g5 8 [[(.I b.Kind),(.str b.C),(.str []),(.I 0),(.I 0),(.I 0),(.I 0),(.I 0)]]))] hI J (.keep (.keep (.keep (.drop (.keep (.keep .nil))))))<|Bp (hJ (r4.1,r4.2,({ Kind:=b.Kind,C:=b.C,A:=[],Class:=0,Airport:=0,N:=0,Hours:=({ From:=0,To:=0 }:Span) }:Rule)) _ _ ⟨v6,g10,vH5,J,J⟩)
 refine Y<|O<|Ac 2 [] [(46,(.bool (b.Kind==3)))] ?_
 refine Z<|B4 J (fun hc2=>?_) (fun hc2=>?_)
 ·refine Y<|O<|Ac 3 [3] [(50,(.ptr (ix ids 5) g5 0 5)),(49,(.I b.N))] ?_
  refine Ar (Ax (v:=(.I b.N)) hI J J J J Ds J J J J J)<|Z<|Aj ?_
  refine Y<|O<|Aa (.func (.func 103) [] [(.q ids 2 g2),(.q ids 3 g3)]) J Ad<|Ak [2,0,1,3] hI J J (I2 [119,101,105,103,104,116] s0_bad l b _ (ix ids 2) (ix ids 0) (ix ids 1) (ix ids 3) g2 g v1 g1 g3 vH (by exact hI.sub' J J)) J J J J J J (fun v _=>Ao (K:=2) (N:=4) Tryz.func51 hI) ?_
  rintro r5 _ _ _ ⟨v7,g11,vH6,rfl,rfl⟩
  refine Av [2,0,1,3] hI J J J ?_
  refine Ap<|Z<|Aj ?_
  refine O<|Ac 3 [2,3] [(55,(.I b.N)),(53,(.q ids 0 g))] ?_
  refine Ak [0,1] hI J J (C9 b.N 1 8 r5.1 r5.2 _ (ix ids 0) (ix ids 1) g v7 g11 vH6 (by exact hI.sub' J J)) J J J J J J (fun v _=>Ao (K:=2) (N:=4) Tryz.func51 hI) ?_
  rintro r6 _ _ _ ⟨v8,g12,vH7,rfl,rfl⟩
  refine Av [0,1] hI J J J ?_
  refine Ap<|Z<|Aj ?_
  refine Bo<|Ef [(some (.rows g 2 [[v8,(.bool (r5.1||(!((decide (b.N≥1))&&(decide (b.N≤8))))))]])),(Ai v8 g12 4 (List.map Ab r6)),(some (.rows g2 1 [[(.q ids 0 g)]])),none,(some (.rows g4 8 [[(.I b.Kind),(.str b.C),(.str b.A),(.I 0),(.I 0),(.I b.N),(.I b.Hours.From),(.I b.Hours.To)]])),(some (.rows g5 8 [[(.I b.Kind),(.str b.C),(.str []),(.I 0),(.I 0),(.I b.N),(.I 0),(.I 0)]]))] hI J (.keep (.keep (.keep (.drop (.keep (.keep .nil))))))<|Bp (hJ ((r5.1||(!((decide (b.N≥1))&&(decide (b.N≤8))))),r6,({ Kind:=b.Kind,C:=b.C,A:=[],Class:=0,Airport:=0,N:=b.N,Hours:=({ From:=0,To:=0 }:Span) }:Rule)) _ _ ⟨v8,g12,vH7,J,J⟩)
 refine Y<|O<|Ac 2 [] [(57,(.bool (b.Kind==4)))] ?_
 refine Z<|B4 J (fun hc3=>?_) (fun hc3=>?_)
 ·refine Y<|O<|Ac 3 [3] [(61,(.ptr (ix ids 5) g5 0 5)),(60,(.I b.N))] ?_
  refine Ar (Ax (v:=(.I b.N)) hI J J J J Ds J J J J J)<|Z<|Aj ?_
  refine Y<|O<|Aa (.func (.func 103) [] [(.q ids 2 g2),(.q ids 3 g3)]) J Ad<|Ak [2,0,1,3] hI J J (I2 [108,111,110,103,101,115,116] s0_bad l b _ (ix ids 2) (ix ids 0) (ix ids 1) (ix ids 3) g2 g v1 g1 g3 vH (by exact hI.sub' J J)) J J J J J J (fun v _=>Ao (K:=2) (N:=4) Tryz.func51 hI) ?_
  rintro r7 _ _ _ ⟨v9,g13,vH8,rfl,rfl⟩
  refine Av [2,0,1,3] hI J J J ?_
  refine Ap<|Z<|Aj ?_
  refine Y<|O<|Ac 3 [2,3] [(66,(.I b.N)),(64,(.q ids 0 g))] ?_
  refine Ak [0,1] hI J J (C9 b.N 0 60 r7.1 r7.2 _ (ix ids 0) (ix ids 1) g v9 g13 vH8 (by exact hI.sub' J J)) J J J J J J (fun v _=>Ao (K:=2) (N:=4) Tryz.func51 hI) ?_
  rintro r8 _ _ _ ⟨v10,g14,vH9,rfl,rfl⟩
  refine Av [0,1] hI J J J ?_
  refine Ap<|Z<|Aj ?_
  refine C3 Fg [[],[],[1],[1,2],[1,2,3],[1,2,3,4],[1,2,3,4,5],[1,2,3,4,5,6],[1,2,3,4,5,6,7],[1,2,3,4,5,6,7,8],[1,2,3,4,5,6,7,8,9],[0,0,1,2,3,4,5,6,7,8,9,10],[0,1,2,3,4,5,6,7,8,9,10,11],[0,1,2,3,4,5,6,7,8,9,10,11,12]] [(false,0),(false,1),(false,2),(false,3),(false,4),(false,5),(false,6),(false,7),(false,8),(false,9),(false,10),(false,11),(false,12),(true,13)] (by kernel_rfl)<|Ag (.q ids 0 g) J J (Au (A9 hI J J J Aa2 J))<|Ag (.q ids 0 g) J J (Au (A9 hI J J J Aa2 J))<|Ag (.q ids 0 g) J J (Bh J)<|Ag (.ptr (ix ids 0) g 0 1) J J (Cc (B2 (c:=0) (off:=1) (i:=1) Vp J Oz J))<|Ag (.bool (r7.1||(!((decide (b.N≥0))&&(decide (b.N≤60)))))) J J (Au (A9 hI J J J Oz J))<|Ag (.bool (r7.1||(!((decide (b.N≥0))&&(decide (b.N≤60)))))) J J Ad ?_
  refine L5 (fun hb=>?_) (fun hb=>?_)
  ·refine Jo (tj:=73) (b:=true) J J (congrArg AV.bool hb) J J<|Jo (tj:=73) (b:=true) J J (congrArg AV.bool hb) J J<|Jo (tj:=73) (b:=true) J J (congrArg AV.bool hb) J J<|Jo (tj:=73) (b:=true) J J (congrArg AV.bool hb) J J<|Ag (.bool true) J J (Fd (t:=true) (congrArg AV.bool hb) J)<|Ag (.q ids 0 g) J J (Bh J)<|Ag (.ptr (ix ids 0) g 0 1) J J (Cc (B2 (c:=0) (off:=1) (i:=1) Vp J Oz J)) ?_
   refine Fl J (fun _ _=>J) (fun K hK=>Dm (Ax (v:=(.bool true)) hI J J J J Oz J J J J J) (hK _ _ (Af J (Af J (Af J (Af J (Af J (Af J (Af J (Af J (Af J (Af J (Af J (Af J (Af J Bx))))))))))))) ?_))
   clear hK K
   refine Cm<|Aj ?_
   refine Bo<|Ef [(some (.rows g 2 [[v10,(.bool true)]])),(Ai v10 g14 4 (List.map Ab r8)),(some (.rows g2 1 [[(.q ids 0 g)]])),none,(some (.rows g4 8 [[(.I b.Kind),(.str b.C),(.str b.A),(.I 0),(.I 0),(.I b.N),(.I b.Hours.From),(.I b.Hours.To)]])),(some (.rows g5 8 [[(.I b.Kind),(.str b.C),(.str []),(.I 0),(.I 0),(.I b.N),(.I 0),(.I 0)]]))] hI J (.keep (.keep (.keep (.drop (.keep (.keep .nil))))))<|Bp (hJ (true,r8,({ Kind:=b.Kind,C:=b.C,A:=[],Class:=0,Airport:=0,N:=b.N,Hours:=({ From:=0,To:=0 }:Span) }:Rule)) _ _ ⟨v10,g14,vH9,J,J⟩)
  refine G9 (tj:=73) (.ptr (ix ids 3) g3 0 5) J J (congrArg AV.bool hb) J (Cc (B2 (c:=0) (off:=5) (i:=5) Dn J Ds J))<|G9 (tj:=73) (.I b.N) J J (congrArg AV.bool hb) J (Au (A9 hI J J J Ds J))<|G9 (tj:=73) (.I (Int.tmod b.N 10)) J J (congrArg AV.bool hb) J (Bd J J (Afq J (by decide)))<|G9 (tj:=73) (.bool ((Int.tmod b.N 10) != 0)) J J (congrArg AV.bool hb) J (Bd J J J)<|Ag (.bool ((Int.tmod b.N 10) != 0)) J J (Fd (t:=false) (congrArg AV.bool hb) J)<|Ag (.q ids 0 g) J J (Bh J)<|Ag (.ptr (ix ids 0) g 0 1) J J (Cc (B2 (c:=0) (off:=1) (i:=1) Vp J Oz J)) ?_
  refine Fl J (fun _ _=>J) (fun K hK=>Dm (Ax (v:=(.bool ((Int.tmod b.N 10) != 0))) hI J J J J Oz J J J J J) (hK _ _ (Af J (Af J (Af J (Af J (Af J (Af J (Af J (Af J (Af J (Af J (Af J (Af J (Af J Bx))))))))))))) ?_))
  clear hK K
  refine Cm<|Aj ?_
  refine Bo<|Ef [(some (.rows g 2 [[v10,(.bool ((Int.tmod b.N 10) != 0))]])),(Ai v10 g14 4 (List.map Ab r8)),(some (.rows g2 1 [[(.q ids 0 g)]])),none,(some (.rows g4 8 [[(.I b.Kind),(.str b.C),(.str b.A),(.I 0),(.I 0),(.I b.N),(.I b.Hours.From),(.I b.Hours.To)]])),(some (.rows g5 8 [[(.I b.Kind),(.str b.C),(.str []),(.I 0),(.I 0),(.I b.N),(.I 0),(.I 0)]]))] hI J (.keep (.keep (.keep (.drop (.keep (.keep .nil))))))<|Bp (hJ (((Int.tmod b.N 10) != 0),r8,({ Kind:=b.Kind,C:=b.C,A:=[],Class:=0,Airport:=0,N:=b.N,Hours:=({ From:=0,To:=0 }:Span) }:Rule)) _ _ ⟨v10,g14,vH9,J,J⟩)
 refine O<|Ac 3 [2] [(20,(.ptr (ix ids 0) g 0 1))] ?_
 refine Ar (Ax (v:=(.bool true)) hI J J J J Oz J J J J J)<|Z<|Aj ?_
 refine Bo<|Ef [(some (.rows g 2 [[v1,(.bool true)]])),(Ai v1 g1 4 (List.map Ab l)),(some (.rows g2 1 [[(.q ids 0 g)]])),none,(some (.rows g4 8 [[(.I b.Kind),(.str b.C),(.str b.A),(.I 0),(.I 0),(.I b.N),(.I b.Hours.From),(.I b.Hours.To)]])),(some (.rows g5 8 [[(.I b.Kind),(.str b.C),(.str []),(.I 0),(.I 0),(.I 0),(.I 0),(.I 0)]]))] hI J (.keep (.keep (.keep (.drop (.keep (.keep .nil))))))<|Bp (hJ (true,l,({ Kind:=b.Kind,C:=b.C,A:=[],Class:=0,Airport:=0,N:=0,Hours:=({ From:=0,To:=0 }:Span) }:Rule)) _ _ ⟨v1,g1,vH,J,J⟩)
theorem Sz (text:Aw)(l:List Rule)(most:Int)(s0_bad:Bool)(l1:List Token)(h0:Ae)(o0:Nat)(o1:Nat)(g:Nat)(v1:AV)(g1:Nat)(vH:A0 v1 o1 g1 l1.length)(hI0:Ids h0 [o0,o1] 2):Jv text l most s0_bad l1≠.bad→Bi Tryz.prog 50 [(.ptr o0 g 0 0),(.str text),(.sl 8 (List.map A5 l)),(.int .i64 most),(.func (.func 51) [(.ptr o0 g 0 0)] [])] (hp h0 [o0,o1] [some (.rows g 2 [[v1,(.bool s0_bad)]]),Ai v1 g1 4 (List.map Ab l1)]) (Cf (fun a_ v h' => ∃ (v7:AV),∃ (g8:Nat),A0 v7 o1 g8 a_.2.length∧v=(.tup [])∧h'=hp h0 [o0,o1] [some (.rows g 2 [[v7,(.bool a_.1)]]),Ai v7 g8 4 (List.map Ab a_.2)]) h0 (Jv text l most s0_bad l1)):=by
 refine A6 (n:=44) 1 Tryz.func50 J (by decide) J J hI0 J fun ids he hI=>?_
 clear hI0
 obtain rfl:ix ids 0=o0:=he 0 rfl
 obtain rfl:ix ids 1=o1:=he 1 rfl
 clear he
 refine Bl (Al (Jv.eq_1 _ _ _ _ _) ?_)
 refine Aj ?_
 refine Y<|O<|Ac 6 [0] [(17,(.bool s0_bad)),(12,(.q ids 0 g))] ?_
 refine By 5 [(0,(.q ids 0 g)),(1,(.str text)),(2,(.sl 8 (List.map A5 l))),(4,(.func (.func 51) [(.q ids 0 g)] [])),(12,(.q ids 0 g)),(22,(.bool (s0_bad||(decide ((l.length:Int) > most)))))] ?_ fun hJ=>Bq s0_bad (fun hb1=>?_) (fun hb1=>?_)
 ·refine Ac 2 [] [(24,(.ptr (ix ids 0) g 0 1))] ?_
  refine Ar (Ax (v:=(.bool (s0_bad||(decide ((l.length:Int) > most))))) hI J J J J Oz J J J J J)<|Z<|Aj ?_
  refine Y<|O<|Aa (.sl 8 (List.map A5 l)) J Ad<|Aa (.I (l.length:Int)) J (A4 (Bf E9))<|Aa (.I 0) J Ad<|Z<|Ba ?_
  refine D2 [(0,(.q ids 0 g)),(1,(.str text)),(4,(.func (.func 51) [(.q ids 0 g)] [])),(25,(.sl 8 (List.map A5 l))),(26,(.I (l.length:Int))),(27,(.I 0))] (FI J)<|Jh (P:=Tryz.prog) l (fun _ a=>Cy fun fBad l2=>Iq text a fBad l2) (((Cy fun fBad l2=>.ok (fBad,l2))):(Bool×(List Token))→R (Bool×(List Token))) (fun j=>Cy fun fBad l2=>fun(fr:Nat→AV) (h:Ae) => ∃ (v2:AV),∃ (g2:Nat),A0 v2 (ix ids 1) g2 l2.length∧fr=A2 [(0,(.q ids 0 g)),(1,(.str text)),(4,(.func (.func 51) [(.q ids 0 g)] [])),(25,(.sl 8 (List.map A5 l))),(26,(.I (l.length:Int))),(27,(.I (j:Int)))]∧h=hp h0 ids [(some (.rows g 2 [[v2,(.bool fBad)]])),(Ai v2 g2 4 (List.map Ab l2)),none]) ((s0_bad||(decide ((l.length:Int) > most))),l1) ?_ ?_ ?_
  ·exact⟨v1,g1,vH,J,J⟩
  ·rintro j a ha W hW ⟨fBad,l2⟩ fr h ⟨v2,g2,vH1,rfl,rfl⟩
   refine Al (m':=Iq text a fBad l2) J (Al (Iq.eq_1 _ _ _ _) ?_)
   refine Y<|O<|Aa (.bool (decide ((j:Int)<(l.length:Int)))) J (Bd J J J)<|Z<|Y<|D3 (t:=25) (L:=l) J fun hlim=>C1 J (Int.ofNat_lt.2 (A8 ha)) ?_
   refine Az<|Y<|Ba<|Y<|O<|Aa (.cp (A5 a) 0) J (Bu (Dh E9 Dn J ha))<|Aa (.agg (A5 a)) J (Au (Cg Dn J)) ?_
   refine Bb (j:=2) hI J J J J Dn J fun g3=>Ar (Ax (v:=(.agg (A5 a))) hI J J J J Dn J J J J J)<|Z<|Aj ?_
   refine Y<|Y<|O<|Ac 2 [] [(32,(.bool (!(text==[]))))] ?_
   refine Z<|Dx (Cy fun fBad1 l3=>Ik a fBad1 l3) (Cy fun fBad1 l3=>fun(fr:Nat→AV) (h:Ae) => ∃ (v4:AV),∃ (g5:Nat),A0 v4 (ix ids 1) g5 l3.length∧fr=A2 [(0,(.q ids 0 g)),(1,(.str text)),(4,(.func (.func 51) [(.q ids 0 g)] [])),(11,(.q ids 2 g3)),(25,(.sl 8 (List.map A5 l))),(26,(.I (l.length:Int))),(27,(.I (j:Int)))]∧h=hp h0 ids [(some (.rows g 2 [[v4,(.bool fBad1)]])),(Ai v4 g5 4 (List.map Ab l3)),(some (.rows g3 8 [(A5 a)]))]) ?_ fun hJ1=>?_
   ·rintro⟨fBad1,l3⟩ fr h ⟨v4,g5,vH3,rfl,rfl⟩
    refine Al (Ik.eq_1 _ _ _)<|Y<|O<|Ac 2 [2] [(38,(.agg (A5 a))),(37,(.func (.func 51) [(.q ids 0 g)] []))] ?_
    refine Ak [0,1] hI J J (U9 a fBad1 l3 _ (ix ids 0) (ix ids 1) g v4 g5 vH3 (by exact hI.sub' J J)) J J J J J J (fun v _=>Ao (K:=2) (N:=1) Tryz.func50 hI) ?_
    rintro r1 _ _ _ ⟨v5,g6,vH4,rfl,rfl⟩
    refine Av [0,1] hI J J J ?_
    refine Ap<|Z<|Aj ?_
    refine O<|Aa (.q ids 0 g) J Ad<|C8 (e:=rS) (L:=[[59]]) (st:=1) (rows:=[[(.str [59])]]) J Do Cl J J J J J (.cons (RowSim.refl _) .nil) (fun x=>F2 x) J J<|Ak [0,1] hI J J (Cx [[59]] r1.1 r1.2 _ (ix ids 0) (ix ids 1) g v5 g6 vH4 (by exact hI.sub' J J)) J J J J J J (fun v _=>Ao (K:=2) (N:=1) Tryz.func50 hI) ?_
    rintro r2 _ _ _ ⟨v6,g7,vH5,rfl,rfl⟩
    refine Av [0,1] hI J J J ?_
    refine Ap<|Z<|Aj ?_
    refine Bo<|O<|Ac 2 [] [(27,(.I (IntKind.wrap .i64 ((j:Int)+1))))] ?_
    refine Z<|Ef [(some (.rows g 2 [[v6,(.bool r2.1)]])),(Ai v6 g7 4 (List.map Ab r2.2)),none] hI J (.keep (.keep (.drop .nil)))<|Bp (Rx (hW (r2.1,r2.2) _ _ ⟨v6,g7,vH5,J,J⟩)) (.cons J (.cons J (.cons J (.cons J (.cons J (.cons (D0 (A8 ha) hlim) .nil))))))
   refine Dy J (fun hc=>?_) (fun hc=>?_)
   ·refine Az<|Bp (hJ1 (fBad,l2) _ _ ⟨v2,g2,vH1,J,J⟩)
   refine O<|Ac 2 [] [(34,(.str text)),(33,(.q ids 0 g))] ?_
   refine C8 (e:=rS) (L:=[text]) (st:=1) (rows:=[[(.str text)]]) J Do Cl J J J J J (.cons (RowSim.refl _) .nil) (fun x=>F2 x) J J<|Ak [0,1] hI J J (Bt [text] fBad l2 _ (ix ids 0) (ix ids 1) g v2 g2 vH1 (by exact hI.sub' J J)) J J J J J J (fun v _=>Ao (K:=2) (N:=1) Tryz.func50 hI) ?_
   rintro r _ _ _ ⟨v3,g4,vH2,rfl,rfl⟩
   refine Av [0,1] hI J J J ?_
   refine Ap<|Z<|Aj ?_
   exact Bp (hJ1 (r.1,r.2) _ _ ⟨v3,g4,vH2,J,J⟩)
  rintro⟨fBad,l2⟩ fr h ⟨v2,g2,vH1,rfl,rfl⟩
  refine Al (N4 _ _ _)<|Y<|O<|Aa (.bool (decide ((l.length:Int)<(l.length:Int)))) J (Bd J J J)<|Z<|Y<|C2 J (Int.lt_irrefl _) ?_
  refine C6 J<|B3 (K:=2) (N:=1) (a:=(fBad,l2)) (vs:=[]) [some (.rows g 2 [[v2,(.bool fBad)]]),Ai v2 g2 4 (List.map Ab l2)] Tryz.func50 hI J J J (.keep (.keep (.keep .nil))) (.same _) ⟨v2,g2,vH1,J,J⟩
 ·refine A3 (t:=17) hb1 J<|Ac 5 [] [(22,(.bool true))] ?_
  exact Be hJ (.cons J (.cons J (.cons J (.cons J (.cons J (.cons (E0 hb1) .nil))))))
 refine A3 (t:=17) hb1 J<|Bz (tj:=17) (.sl 8 (List.map A5 l)) J J J Ad<|Bz (tj:=17) (.I (l.length:Int)) J J J (A4 (Bf E9))<|Ac 3 [] [(22,(.bool (decide ((l.length:Int) > most))))] ?_
 exact Be hJ (.cons J (.cons J (.cons J (.cons J (.cons J (.cons (Ey hb1) .nil))))))
theorem Aau (l:List Aw)(sep:Aw):CP Tryz.prog 61 [.sl 1 (l.map rS),.str sep] (strings_Join l sep) (fun x=>AV.str x):=
 Ac6 (.mk Tryz.func61 rfl (by decide)) (fun p h=>by unfold strings_Join at h; split at h <;> cases h) fun a ha B mu h w cargs hs hl=>by
  obtain⟨c1,c2,rfl,h1,h2⟩:=Afs hl
  obtain rfl:=Z5 h2
  unfold strings_Join at ha
  split at ha
  ·rename_i hn
   cases ha
   have key:l=[] ∨ ∃ bk o cap,c1=.slice (some ⟨bk,o,none⟩) l.length cap∧bk<w.heap.size∧l.length≤Ek∧l.length≤cap ∧ ∀ j x,l[j]? = some x→w.cell? ⟨bk,o+j,none⟩=some (.string ⟨x.toArray⟩):=Alz h1
   rcases key with rfl | ⟨bk,o,cap,rfl,hb,hlim,hcap,hc⟩
   ·obtain⟨a,cap,rfl⟩:=Amz h1
    refine(Go.Proofs.Tryz.strings_Join_none a cap ⟨sep.toArray⟩ w).mono ?_
    rintro e w' ⟨rfl,rfl⟩
    exact⟨Go.RowKit.Below.refl _ _,_,J,.str _⟩
   ·have em:(l.map fun x=>(⟨x.toArray⟩:ByteArray)).map (·.data.toList)=l:=by simp [Function.comp_def]
    have:=Go.Proofs.Tryz.strings_Join bk o cap (l.map fun x=>⟨x.toArray⟩) ⟨sep.toArray⟩ w (fun j x hx=>by
     rw [List.getElem?_map] at hx
     cases hq:l[j]? with
     | none=>rw [hq] at hx; cases hx
     | some y=>rw [hq] at hx; cases hx; exact hc j y hq) hb (by rw [List.length_map]; exact hlim) (by simpa using hcap) (by rw [em]; exact hn)
    rw [em,List.length_map] at this
    refine this.mono ?_
    rintro e w' ⟨rfl,hbel⟩
    exact⟨hbel,_,J,.str _⟩
  ·cases ha
theorem Zd (l:List Token):CP Tryz.prog 17 [(.sl 4 (List.map Ab l))] (Qf l) (fun(p:(Aw×Int))=>AV.tup [(.str p.1),(.int .i64 p.2)]):=by
 refine Cq (n:=39) 2 Tryz.func17 J (by decide) J J fun h0 ids hI=>Bl (Al (Qf.eq_1 _) ?_)
 refine Y<|O<|Ac 2 [] [] ?_
 refine Z<|Y<|O<|Aa (.sl 4 (List.map Ab l)) J Ad<|Aa (.I (l.length:Int)) J (A4 (Bf Cj))<|Gp fun hl=>Aks (y:=([]:Aw)) (e:=rS) (st:=1) (j:=0) hI J J J J Do Cl J J hl.1 hl.2.1 hl.2.2 J J J J J fun v g vH=>?_
 refine Aa v J An<|Z<|Aj ?_
 refine Y<|Y<|O<|Aa (.sl 4 (List.map Ab l)) J Ad<|Aa (.I (l.length:Int)) J (A4 (Bf Cj))<|Aa (.I 0) J Ad<|Z ?_
 refine Ba<|D2 [(4,v),(10,(.sl 4 (List.map Ab l))),(11,(.I (l.length:Int))),(12,(.I 0))] (FI J)<|Ee (P:=Tryz.prog) l (fun j a=>fun words=>O1 j a words) ((De (fun words=>(strings_Join words [32]).bind fun src=>.ok (src,0)) (fun r=>.ok r)):((List Aw) ⊕ (Aw×Int))→R (Aw×Int)) (fun j=>fun words=>fun(fr:Nat→AV) (h:Ae) => ∃ (v1:AV),∃ (g1:Nat),A0 v1 (ix ids 0) g1 words.length∧fr=A2 [(4,v1),(10,(.sl 4 (List.map Ab l))),(11,(.I (l.length:Int))),(12,(.I (j:Int)))]∧h=hp h0 ids [(Ai v1 g1 1 (List.map rS words)),none]) (List.replicate (Int.toNat (l.length:Int)) []) ?_ ?_ ?_
 ·exact⟨v,g,vH,J,J⟩
 ·rintro j a ha W hW words fr h ⟨v1,g1,vH1,rfl,rfl⟩
  refine Al (m':=O1 j a words) J (Al (O1.eq_1 _ _ _) ?_)
  refine Y<|O<|Aa (.bool (decide ((j:Int)<(l.length:Int)))) J (Bd J J J)<|Z<|Y<|D3 (t:=10) (L:=l) J fun hlim=>C1 J (Int.ofNat_lt.2 (A8 ha)) ?_
  refine Az<|Y<|Ba<|Y<|O<|Aa (.I (j:Int)) J Ad<|Aa (.cp (Ab a) 0) J (Bu (Dh Cj Cw J ha)) ?_
  refine Aa (.agg (Ab a)) J (Au (Cg Cw J))<|Bb (j:=1) hI J J J J Cw J fun g2=>Aa (.I (j:Int)) J An<|Ar (Ax (v:=(.agg (Ab a))) hI J J J J Cw J J J J J)<|Z<|Aj ?_
  refine Ba<|Y<|O<|Ac 1 [1] [(23,(.agg (Ab a)))] ?_
  refine Bw [(.agg (Ab a))] J J J J ((Xu a) _) (fun v _=>B9 Tryz.func17 hI) fun r _=>Ac 2 [] [(22,(.bool (!r)))] ?_
  refine Z<|Dy J (fun hc=>?_) (fun hc=>?_)
  ·refine Y<|O<|Ac 4 [1] [(26,(.bool (a.Kind==2)))] ?_
   refine Z<|B4 J (fun hc1=>?_) (fun hc1=>?_)
   ·refine O<|Ac 4 [1] [(33,(.I a.N)),(31,(.I (j:Int))),(30,v1)] ?_
    refine Bw [(.I a.N)] J J J J ((Vd a.N) _) (fun v _=>B9 Tryz.func17 hI) fun r1 _=>Eb fun a1 hz hx1=>Aa (.ptr (ix ids 0) g1 (j:Int).toNat 0) J (Bu (Afk hI J vH1 J Do Cl J hz hx1))<|Ar (Ahw (y:=r1) hI J J vH1 J hx1 Cl J J J J J J) ?_
    have vH2:=A0.set (i:=(j:Int).toNat) (y:=r1) vH1
    have hx2:=List.getElem?_set_self (a:=r1) (A8 hx1)
    refine Z<|Aj ?_
    refine Bo<|Bo<|O<|Ac 2 [] [(12,(.I (IntKind.wrap .i64 ((j:Int)+1))))] ?_
    refine Z<|Ef [(Ai v1 g1 1 (List.map rS (words.set (j:Int).toNat r1))),none] hI J (.keep (.drop .nil))<|Bp (E3 (hW (words.set (j:Int).toNat r1) _ _ ⟨v1,g1,vH2,J,J⟩)) (.cons J (.cons J (.cons J (.cons (D0 (A8 ha) hlim) .nil))))
   refine O<|Ac 4 [1] [(20,(.str a.Text)),(18,(.I (j:Int))),(17,v1)] ?_
   refine Eb fun a2 hz1 hx3=>Aa (.ptr (ix ids 0) g1 (j:Int).toNat 0) J (Bu (Afk hI J vH1 J Do Cl J hz1 hx3))<|Ar (Ahw (y:=a.Text) hI J J vH1 J hx3 Cl J J J J J J) ?_
   have vH3:=A0.set (i:=(j:Int).toNat) (y:=a.Text) vH1
   have hx4:=List.getElem?_set_self (a:=a.Text) (A8 hx3)
   refine Z<|Aj ?_
   refine Bo<|Bo<|O<|Ac 2 [] [(12,(.I (IntKind.wrap .i64 ((j:Int)+1))))] ?_
   refine Z<|Ef [(Ai v1 g1 1 (List.map rS (words.set (j:Int).toNat a.Text))),none] hI J (.keep (.drop .nil))<|Bp (E3 (hW (words.set (j:Int).toNat a.Text) _ _ ⟨v1,g1,vH3,J,J⟩)) (.cons J (.cons J (.cons J (.cons (D0 (A8 ha) hlim) .nil))))
  refine Y<|O<|Ac 2 [] [(3,(.I 70)),(2,(.str []))] ?_
  refine Z<|E1<|Fu<|Br (a:=([],70)) (vs:=[(.str []),(.I 70)]) Tryz.func17 hI J (.tupL (.cons (.same _) (.cons (.same _) .nil)))
 rintro words fr h ⟨v1,g1,vH1,rfl,rfl⟩
 refine Al (E6 _ _ _)<|Y<|O<|Aa (.bool (decide ((l.length:Int)<(l.length:Int)))) J (Bd J J J)<|Z<|Y<|C2 J (Int.lt_irrefl _) ?_
 refine C6 J<|Y<|O<|Aa v1 J Ad<|Bw [v1,(.str [32])] J J J J (CP.lend (Aau words [32]) (LF.lfz (.cons (Ft vH1 (hI.at J J) J (fun x=>F2 x)) (.cons (.same _) .nil))) (fun _ _=>(.str _))) (fun v _=>B9 Tryz.func17 hI) fun src _=>Ac 2 [] [(3,(.I 0)),(2,(.str src))] ?_
 refine Z<|Br (a:=(src,0)) (vs:=[(.str src),(.I 0)]) Tryz.func17 hI J (.tupL (.cons (.same _) (.cons (.same _) .nil)))
theorem Re (a:Airspace):CP Tryz.prog 14 [(.agg (Ay a))] (Pm a) (fun(p:(Aw×Int))=>AV.tup [(.str p.1),(.int .i64 p.2)]):=by
 refine Cq (n:=59) 4 Tryz.func14 J (by decide) J J fun h0 ids hI=>Bl (Al (Pm.eq_1 _) ?_)
 refine Y<|O<|Ck (v:=(.agg (Ay a))) (j:=0) hI J J J J J J J fun g=>Ac 2 [] [] ?_
 refine Z<|Aj ?_
 refine Y<|O<|Aa (.agg [.emp,(.bool false)]) J (K6 (Po Vp An8 J))<|Ck (v:=(.agg [.emp,(.bool false)])) (j:=1) hI J J J J J J J fun g1=>Bb (j:=2) hI J J J J Aa2 J fun g2=>Ar (Ax (v:=(.q ids 1 g1)) hI J J J J Aa2 J J J J J)<|Z ?_
 refine Aj ?_
 refine Y<|O<|Ac 4 [2,0] [(10,(.func (.func 29) [] [(.q ids 2 g2)])),(9,(.sl 2 (List.map As a.Volumes))),(7,(.q ids 1 g1))] ?_
 refine Ak [1,2,3] hI J J (Sw [118,111,108,117,109,101] a.Volumes 64 false _ (ix ids 1) (ix ids 2) (ix ids 3) g1 g2 (by exact hI.sub' J J)) J J J J J J (fun v _=>B9 Tryz.func14 hI) ?_
 rintro r _ _ _ ⟨v,g3,vH,rfl,rfl⟩
 refine Av [1,2,3] hI J J J ?_
 refine Ap<|Z<|Aj ?_
 refine Y<|O<|Ac 4 [2,0] [(15,(.func (.func 33) [] [(.q ids 2 g2)])),(14,(.sl 5 (List.map A7 a.Sectors))),(12,(.q ids 1 g1))] ?_
 refine Ak [1,3,2] hI J J (Sn [115,101,99,116,111,114] a.Sectors 64 r.1 r.2 _ (ix ids 1) (ix ids 3) (ix ids 2) g1 v g3 g2 vH (by exact hI.sub' J J)) J J J J J J (fun v _=>B9 Tryz.func14 hI) ?_
 rintro r1 _ _ _ ⟨v1,g4,vH1,rfl,rfl⟩
 refine Av [1,3,2] hI J J J ?_
 refine Ap<|Z<|Aj ?_
 refine Y<|O<|Ac 4 [2,0] [(20,(.func (.func 39) [] [(.q ids 2 g2)])),(19,(.sl 3 (List.map Bm a.Configs))),(17,(.q ids 1 g1))] ?_
 refine Ak [1,3,2] hI J J (Sx [99,111,110,102,105,103] a.Configs 32 r1.1 r1.2 _ (ix ids 1) (ix ids 3) (ix ids 2) g1 v1 g4 g2 vH1 (by exact hI.sub' J J)) J J J J J J (fun v _=>B9 Tryz.func14 hI) ?_
 rintro r2 _ _ _ ⟨v2,g5,vH2,rfl,rfl⟩
 refine Av [1,3,2] hI J J J ?_
 refine Ap<|Z<|Aj ?_
 refine Y<|O<|Ac 4 [2,0] [(25,(.func (.func 41) [] [(.q ids 2 g2)])),(24,(.sl 5 (List.map Bg a.Segments))),(22,(.q ids 1 g1))] ?_
 refine Ak [1,3,2] hI J J (Sg [115,101,103,109,101,110,116] a.Segments 128 r2.1 r2.2 _ (ix ids 1) (ix ids 3) (ix ids 2) g1 v2 g5 g2 vH2 (by exact hI.sub' J J)) J J J J J J (fun v _=>B9 Tryz.func14 hI) ?_
 rintro r3 _ _ _ ⟨v3,g6,vH3,rfl,rfl⟩
 refine Av [1,3,2] hI J J J ?_
 refine Ap<|Z<|Aj ?_
 refine Y<|O<|Ac 4 [2,0] [(30,(.func (.func 43) [] [(.q ids 2 g2)])),(29,(.sl 7 (List.map Bs a.Routes))),(27,(.q ids 1 g1))] ?_
 refine Ak [1,3,2] hI J J (Tj [114,111,117,116,101] a.Routes 64 r3.1 r3.2 _ (ix ids 1) (ix ids 3) (ix ids 2) g1 v3 g6 g2 vH3 (by exact hI.sub' J J)) J J J J J J (fun v _=>B9 Tryz.func14 hI) ?_
 rintro r4 _ _ _ ⟨v4,g7,vH4,rfl,rfl⟩
 refine Av [1,3,2] hI J J J ?_
 refine Ap<|Z<|Aj ?_
 refine Y<|O<|Ac 4 [2,0] [(35,(.func (.func 45) [] [(.q ids 2 g2)])),(34,(.sl 2 (List.map Bc a.Airports))),(32,(.q ids 1 g1))] ?_
 refine Ak [1,3,2] hI J J (Se [97,105,114,112,111,114,116] a.Airports 16 r4.1 r4.2 _ (ix ids 1) (ix ids 3) (ix ids 2) g1 v4 g7 g2 vH4 (by exact hI.sub' J J)) J J J J J J (fun v _=>B9 Tryz.func14 hI) ?_
 rintro r5 _ _ _ ⟨v5,g8,vH5,rfl,rfl⟩
 refine Av [1,3,2] hI J J J ?_
 refine Ap<|Z<|Aj ?_
 refine Y<|O<|Ac 4 [2,0] [(40,(.func (.func 49) [] [(.q ids 2 g2)])),(39,(.sl 4 (List.map B7 a.Classes))),(37,(.q ids 1 g1))] ?_
 refine Ak [1,3,2] hI J J (Ta [99,108,97,115,115] a.Classes 8 r5.1 r5.2 _ (ix ids 1) (ix ids 3) (ix ids 2) g1 v5 g8 g2 vH5 (by exact hI.sub' J J)) J J J J J J (fun v _=>B9 Tryz.func14 hI) ?_
 rintro r6 _ _ _ ⟨v6,g9,vH6,rfl,rfl⟩
 refine Av [1,3,2] hI J J J ?_
 refine Ap<|Z<|Aj ?_
 refine Y<|O<|Ac 5 [2,0,2] [(46,(.func (.func 51) [(.q ids 1 g1)] [])),(44,(.sl 8 (List.map A5 a.Rules))),(42,(.q ids 1 g1))] ?_
 refine Ak [1,3] hI J J (Sz [] a.Rules 64 r6.1 r6.2 _ (ix ids 1) (ix ids 3) g1 v6 g9 vH6 (by exact hI.sub' J J)) J J J J J J (fun v _=>B9 Tryz.func14 hI) ?_
 rintro r7 _ _ _ ⟨v7,g10,vH7,rfl,rfl⟩
 refine Av [1,3] hI J J J ?_
 refine Ap<|Z<|Aj ?_
 refine Y<|Y<|O<|Ac 4 [2,1] [(51,(.bool r7.1))] ?_
 refine Z<|B4 J (fun hc=>?_) (fun hc=>?_)
 ·refine Y<|O<|Ac 2 [] [(3,(.I 80)),(2,(.str []))] ?_
  refine Z<|Br (a:=([],80)) (vs:=[(.str []),(.I 80)]) Tryz.func14 hI J (.tupL (.cons (.same _) (.cons (.same _) .nil)))
 refine Az<|Y<|O<|Ac 4 [2,1] [(55,v7)] ?_
 refine Bw [v7] J J J J (CP.lend (Zd r7.2) (LF.lfz (.cons (Ft vH7 (hI.at J J) J (fun x=>Ol x)) .nil)) (fun _ _=>(.tup2 (.str _) (.int _ _)))) (fun v _=>B9 Tryz.func14 hI) fun r8 _=>Ac 4 [] [(3,(.I r8.2)),(2,(.str r8.1))] ?_
 refine Z<|Br (a:=(r8.1,r8.2)) (vs:=[(.str r8.1),(.I r8.2)]) Tryz.func14 hI J (.tupL (.cons (.same _) (.cons (.same _) .nil)))
theorem S4 (a:List Span)(b:List Span):CP Tryz.prog 24 [(.sl 2 (List.map B5 a)),(.sl 2 (List.map B5 b))] (L3 a b) (fun(x:Bool)=>(AV.bool x)):=by
 refine Cq (n:=26) 0 Tryz.func24 J (by decide) J J fun h0 ids hI=>Bl (Al (L3.eq_1 _ _) ?_)
 refine Y<|O<|Aa (.bool false) J An<|Z<|Y<|Y<|O ?_
 refine Aa (.sl 2 (List.map B5 a)) J Ad<|Aa (.I (a.length:Int)) J (A4 (Bf Lj))<|Aa (.sl 2 (List.map B5 b)) J Ad<|Aa (.I (b.length:Int)) J (A4 (Bf Lj))<|Aa (.bool ((a.length:Int) != (b.length:Int))) J (Bd J J J)<|Z<|B4 J (fun hc=>?_) (fun hc=>?_)
 ·refine Y<|O<|Aa (.bool false) J An<|Z<|Br (a:=false) (vs:=[(.bool false)]) Tryz.func24 hI J (.same _)
 refine Az<|Y<|Y<|O<|Aa (.I 0) J An<|Z<|Ba ?_
 refine D2 [(0,(.sl 2 (List.map B5 a))),(1,(.sl 2 (List.map B5 b))),(5,(.I 0))] (FI J)<|Ee (P:=Tryz.prog) a (fun j a1=>fun _=>Ln b j a1) ((De (fun _=>.ok true) (fun r=>.ok r)):(Unit ⊕ Bool)→R Bool) (fun j=>fun _=>fun(fr:Nat→AV) (h:Ae)=>fr=A2 [(0,(.sl 2 (List.map B5 a))),(1,(.sl 2 (List.map B5 b))),(5,(.I (j:Int)))]∧h=hp h0 ids []) () ?_ ?_ ?_
 ·exact⟨J,J⟩
 ·rintro j a1 ha1 W hW _ fr h ⟨rfl,rfl⟩
  refine Al (m':=Ln b j a1) J (Al (Ln.eq_1 _ _ _) ?_)
  refine Y<|Y<|O<|Ac 2 [] [(12,(.sl 2 (List.map B5 a))),(11,(.I (j:Int)))] ?_
  refine Aa (.I (a.length:Int)) J (A4 (Bf Lj))<|Aa (.bool (decide ((j:Int)<(a.length:Int)))) J (Bd J J J)<|Z<|D3 (t:=0) (L:=a) J fun hlim=>C1 J (Int.ofNat_lt.2 (A8 ha1))<|Az<|Y ?_
  refine Ba<|Y<|C3 Fg [[],[],[0,1],[0,1,2],[],[],[4,5],[4,5,6],[0,1,2,3,4,5,6,7]] [(false,0),(false,1),(false,2),(false,3),(false,4),(false,5),(false,6),(false,7),(false,8)] (by kernel_rfl)<|Ag (.sl 2 (List.map B5 a)) J J Ad<|Ag (.I (j:Int)) J J Ad<|Ag (.cp (B5 a1) 0) J J (Bu (Dh Lj Kl J ha1))<|Ag (.agg (B5 a1)) J J (Au (Cg Kl J)) ?_
  refine Ag (.sl 2 (List.map B5 b)) J J Ad<|Ag (.I (j:Int)) J J Ad<|Ny fun a2 hz hx1=>Ag (.cp (B5 a2) 0) J J (Bu (Dg Lj Kl J hz hx1))<|Ag (.agg (B5 a2)) J J (Au (Cg Kl J))<|Ag (.bool (!((a1.From==a2.From)&&(a1.To==a2.To)))) J J (Bd (Aii J J) J Ahe)<|Cm ?_
  refine Dy J (fun hc1=>?_) (fun hc1=>?_)
  ·refine Az<|Bo<|O<|Ac 3 [] [(5,(.I (IntKind.wrap .i64 ((j:Int)+1))))] ?_
   refine Z<|Bp (E3 (hW () _ _ ⟨J,J⟩)) (.cons J (.cons J (.cons (D0 (A8 ha1) hlim) .nil)))
  refine Y<|O<|Aa (.bool false) J An<|Z<|E1<|Fu<|Br (a:=false) (vs:=[(.bool false)]) Tryz.func24 hI J (.same _)
 rintro _ fr h ⟨rfl,rfl⟩
 refine Al (E6 _ _ _)<|Y<|Y<|O<|Ac 2 [] [(12,(.sl 2 (List.map B5 a))),(11,(.I (a.length:Int)))] ?_
 refine Aa (.I (a.length:Int)) J (A4 (Bf Lj))<|Aa (.bool (decide ((a.length:Int)<(a.length:Int)))) J (Bd J J J)<|Z<|C2 J (Int.lt_irrefl _)<|C6 J<|Y<|O ?_
 refine Aa (.bool true) J An<|Z<|Br (a:=true) (vs:=[(.bool true)]) Tryz.func24 hI J (.same _)
theorem Pc (a:List Aw)(b:List Aw):CP Tryz.prog 25 [(.sl 1 (List.map rS a)),(.sl 1 (List.map rS b))] (Jz a b) (fun(x:Bool)=>(AV.bool x)):=by
 refine Cq (n:=26) 0 Tryz.func25 J (by decide) J J fun h0 ids hI=>Bl (Al (Jz.eq_1 _ _) ?_)
 refine Y<|O<|Aa (.bool false) J An<|Z<|Y<|Y<|O ?_
 refine Aa (.sl 1 (List.map rS a)) J Ad<|Aa (.I (a.length:Int)) J (A4 (Bf Do))<|Aa (.sl 1 (List.map rS b)) J Ad<|Aa (.I (b.length:Int)) J (A4 (Bf Do))<|Aa (.bool ((a.length:Int) != (b.length:Int))) J (Bd J J J)<|Z<|B4 J (fun hc=>?_) (fun hc=>?_)
 ·refine Y<|O<|Aa (.bool false) J An<|Z<|Br (a:=false) (vs:=[(.bool false)]) Tryz.func25 hI J (.same _)
 refine Az<|Y<|Y<|O<|Aa (.I 0) J An<|Z<|Ba ?_
 refine D2 [(0,(.sl 1 (List.map rS a))),(1,(.sl 1 (List.map rS b))),(5,(.I 0))] (FI J)<|Ee (P:=Tryz.prog) a (fun j a1=>fun _=>Lf b j a1) ((De (fun _=>.ok true) (fun r=>.ok r)):(Unit ⊕ Bool)→R Bool) (fun j=>fun _=>fun(fr:Nat→AV) (h:Ae)=>fr=A2 [(0,(.sl 1 (List.map rS a))),(1,(.sl 1 (List.map rS b))),(5,(.I (j:Int)))]∧h=hp h0 ids []) () ?_ ?_ ?_
 ·exact⟨J,J⟩
 ·rintro j a1 ha1 W hW _ fr h ⟨rfl,rfl⟩
  refine Al (m':=Lf b j a1) J (Al (Lf.eq_1 _ _ _) ?_)
  refine Y<|Y<|O<|Ac 2 [] [(12,(.sl 1 (List.map rS a))),(11,(.I (j:Int)))] ?_
  refine Aa (.I (a.length:Int)) J (A4 (Bf Do))<|Aa (.bool (decide ((j:Int)<(a.length:Int)))) J (Bd J J J)<|Z<|D3 (t:=0) (L:=a) J fun hlim=>C1 J (Int.ofNat_lt.2 (A8 ha1))<|Az<|Y ?_
  refine Ba<|Y<|C3 Fg [[],[],[0,1],[0,1,2],[],[],[4,5],[4,5,6],[0,1,2,3,4,5,6,7]] [(false,0),(false,1),(false,2),(false,3),(false,4),(false,5),(false,6),(false,7),(false,8)] (by kernel_rfl)<|Ag (.sl 1 (List.map rS a)) J J Ad<|Ag (.I (j:Int)) J J Ad<|Ag (.cp [(.str a1)] 0) J J (Bu (Dh Do Cl J ha1))<|Ag (.str a1) J J (Au (Cg Cl J)) ?_
  refine Ag (.sl 1 (List.map rS b)) J J Ad<|Ag (.I (j:Int)) J J Ad<|Ny fun a2 hz hx1=>Ag (.cp [(.str a2)] 0) J J (Bu (Dg Do Cl J hz hx1))<|Ag (.str a2) J J (Au (Cg Cl J))<|Ag (.bool (!(a1==a2))) J J (Bd J J J)<|Cm ?_
  refine Dy J (fun hc1=>?_) (fun hc1=>?_)
  ·refine Az<|Bo<|O<|Ac 3 [] [(5,(.I (IntKind.wrap .i64 ((j:Int)+1))))] ?_
   refine Z<|Bp (E3 (hW () _ _ ⟨J,J⟩)) (.cons J (.cons J (.cons (D0 (A8 ha1) hlim) .nil)))
  refine Y<|O<|Aa (.bool false) J An<|Z<|E1<|Fu<|Br (a:=false) (vs:=[(.bool false)]) Tryz.func25 hI J (.same _)
 rintro _ fr h ⟨rfl,rfl⟩
 refine Al (E6 _ _ _)<|Y<|Y<|O<|Ac 2 [] [(12,(.sl 1 (List.map rS a))),(11,(.I (a.length:Int)))] ?_
 refine Aa (.I (a.length:Int)) J (A4 (Bf Do))<|Aa (.bool (decide ((a.length:Int)<(a.length:Int)))) J (Bd J J J)<|Z<|C2 J (Int.lt_irrefl _)<|C6 J<|Y<|O ?_
 refine Aa (.bool true) J An<|Z<|Br (a:=true) (vs:=[(.bool true)]) Tryz.func25 hI J (.same _)
theorem P2 (a:List Int)(b:List Int):CP Tryz.prog 26 [(.sl 1 (List.map (rI .i64) a)),(.sl 1 (List.map (rI .i64) b))] (Gr a b) (fun(x:Bool)=>(AV.bool x)):=by
 refine Cq (n:=26) 0 Tryz.func26 J (by decide) J J fun h0 ids hI=>Bl (Al (Gr.eq_1 _ _) ?_)
 refine Y<|O<|Aa (.bool false) J An<|Z<|Y<|Y<|O ?_
 refine Aa (.sl 1 (List.map (rI .i64) a)) J Ad<|Aa (.I (a.length:Int)) J (A4 (Bf O9))<|Aa (.sl 1 (List.map (rI .i64) b)) J Ad<|Aa (.I (b.length:Int)) J (A4 (Bf O9))<|Aa (.bool ((a.length:Int) != (b.length:Int))) J (Bd J J J)<|Z<|B4 J (fun hc=>?_) (fun hc=>?_)
 ·refine Y<|O<|Aa (.bool false) J An<|Z<|Br (a:=false) (vs:=[(.bool false)]) Tryz.func26 hI J (.same _)
 refine Az<|Y<|Y<|O<|Aa (.I 0) J An<|Z<|Ba ?_
 refine D2 [(0,(.sl 1 (List.map (rI .i64) a))),(1,(.sl 1 (List.map (rI .i64) b))),(5,(.I 0))] (FI J)<|Ee (P:=Tryz.prog) a (fun j a1=>fun _=>Mc b j a1) ((De (fun _=>.ok true) (fun r=>.ok r)):(Unit ⊕ Bool)→R Bool) (fun j=>fun _=>fun(fr:Nat→AV) (h:Ae)=>fr=A2 [(0,(.sl 1 (List.map (rI .i64) a))),(1,(.sl 1 (List.map (rI .i64) b))),(5,(.I (j:Int)))]∧h=hp h0 ids []) () ?_ ?_ ?_
 ·exact⟨J,J⟩
 ·rintro j a1 ha1 W hW _ fr h ⟨rfl,rfl⟩
  refine Al (m':=Mc b j a1) J (Al (Mc.eq_1 _ _ _) ?_)
  refine Y<|Y<|O<|Ac 2 [] [(12,(.sl 1 (List.map (rI .i64) a))),(11,(.I (j:Int)))] ?_
  refine Aa (.I (a.length:Int)) J (A4 (Bf O9))<|Aa (.bool (decide ((j:Int)<(a.length:Int)))) J (Bd J J J)<|Z<|D3 (t:=0) (L:=a) J fun hlim=>C1 J (Int.ofNat_lt.2 (A8 ha1))<|Az<|Y ?_
  refine Ba<|Y<|C3 Fg [[],[],[0,1],[0,1,2],[],[],[4,5],[4,5,6],[0,1,2,3,4,5,6,7]] [(false,0),(false,1),(false,2),(false,3),(false,4),(false,5),(false,6),(false,7),(false,8)] (by kernel_rfl)<|Ag (.sl 1 (List.map (rI .i64) a)) J J Ad<|Ag (.I (j:Int)) J J Ad<|Ag (.cp [(.I a1)] 0) J J (Bu (Dh O9 Ds J ha1))<|Ag (.I a1) J J (Au (Cg Ds J)) ?_
  refine Ag (.sl 1 (List.map (rI .i64) b)) J J Ad<|Ag (.I (j:Int)) J J Ad<|Ny fun a2 hz hx1=>Ag (.cp [(.I a2)] 0) J J (Bu (Dg O9 Ds J hz hx1))<|Ag (.I a2) J J (Au (Cg Ds J))<|Ag (.bool (a1 != a2)) J J (Bd J J J)<|Cm ?_
  refine B4 J (fun hc1=>?_) (fun hc1=>?_)
  ·refine Y<|O<|Aa (.bool false) J An<|Z<|E1<|Fu<|Br (a:=false) (vs:=[(.bool false)]) Tryz.func26 hI J (.same _)
  refine Az<|Bo<|O<|Ac 3 [] [(5,(.I (IntKind.wrap .i64 ((j:Int)+1))))] ?_
  refine Z<|Bp (E3 (hW () _ _ ⟨J,J⟩)) (.cons J (.cons J (.cons (D0 (A8 ha1) hlim) .nil)))
 rintro _ fr h ⟨rfl,rfl⟩
 refine Al (E6 _ _ _)<|Y<|Y<|O<|Ac 2 [] [(12,(.sl 1 (List.map (rI .i64) a))),(11,(.I (a.length:Int)))] ?_
 refine Aa (.I (a.length:Int)) J (A4 (Bf O9))<|Aa (.bool (decide ((a.length:Int)<(a.length:Int)))) J (Bd J J J)<|Z<|C2 J (Int.lt_irrefl _)<|C6 J<|Y<|O ?_
 refine Aa (.bool true) J An<|Z<|Br (a:=true) (vs:=[(.bool true)]) Tryz.func26 hI J (.same _)
theorem Ti (a:Airspace)(b:Airspace):CP Tryz.prog 12 [(.agg (Ay a)),(.agg (Ay b))] (Oj a b) (fun(x:Bool)=>(AV.bool x)):=by
 refine Cq (n:=422) 12 Tryz.func12 J (by decide) J J fun h0 ids hI=>Bl (Al (Oj.eq_1 _ _) ?_)
 refine Y<|O<|Ck (v:=(.agg (Ay a))) (j:=0) hI J J J J J J J fun g=>Ck (v:=(.agg (Ay b))) (j:=1) hI J J J J J J J fun g1=>Aa (.bool false) J An<|Z<|Aj ?_
 refine Y<|Y<|O<|Ac 2 [0] [(25,(.sl 2 (List.map As a.Volumes)))] ?_
 refine Aa (.I (a.Volumes.length:Int)) J (A4 (Bf Ii))<|Ac 2 [1] [(28,(.sl 2 (List.map As b.Volumes)))] ?_
 refine Aa (.I (b.Volumes.length:Int)) J (A4 (Bf Ii))<|Ac 2 [] [(31,(.bool ((a.Volumes.length:Int) != (b.Volumes.length:Int))))] ?_
 refine By 8 [(2,(.q ids 0 g)),(3,(.q ids 1 g1)),(39,(.bool (((a.Volumes.length:Int) != (b.Volumes.length:Int))||((a.Sectors.length:Int) != (b.Sectors.length:Int)))))] ?_ fun hJ=>Bq ((a.Volumes.length:Int) != (b.Volumes.length:Int)) (fun hb1=>?_) (fun hb1=>?_)
 ·refine Aa (.bool (((a.Volumes.length:Int) != (b.Volumes.length:Int))||((a.Sectors.length:Int) != (b.Sectors.length:Int)))) J Ad<|By 8 [(2,(.q ids 0 g)),(3,(.q ids 1 g1)),(48,(.bool ((((a.Volumes.length:Int) != (b.Volumes.length:Int))||((a.Sectors.length:Int) != (b.Sectors.length:Int)))||((a.Configs.length:Int) != (b.Configs.length:Int)))))] ?_ fun hJ1=>Bq (((a.Volumes.length:Int) != (b.Volumes.length:Int))||((a.Sectors.length:Int) != (b.Sectors.length:Int))) (fun hb3=>?_) (fun hb3=>?_)
  ·refine Aa (.bool ((((a.Volumes.length:Int) != (b.Volumes.length:Int))||((a.Sectors.length:Int) != (b.Sectors.length:Int)))||((a.Configs.length:Int) != (b.Configs.length:Int)))) J Ad<|By 8 [(2,(.q ids 0 g)),(3,(.q ids 1 g1)),(57,(.bool (((((a.Volumes.length:Int) != (b.Volumes.length:Int))||((a.Sectors.length:Int) != (b.Sectors.length:Int)))||((a.Configs.length:Int) != (b.Configs.length:Int)))||((a.Segments.length:Int) != (b.Segments.length:Int)))))] ?_ fun hJ2=>Bq ((((a.Volumes.length:Int) != (b.Volumes.length:Int))||((a.Sectors.length:Int) != (b.Sectors.length:Int)))||((a.Configs.length:Int) != (b.Configs.length:Int))) (fun hb5=>?_) (fun hb5=>?_)
   ·refine Aa (.bool (((((a.Volumes.length:Int) != (b.Volumes.length:Int))||((a.Sectors.length:Int) != (b.Sectors.length:Int)))||((a.Configs.length:Int) != (b.Configs.length:Int)))||((a.Segments.length:Int) != (b.Segments.length:Int)))) J Ad<|By 8 [(2,(.q ids 0 g)),(3,(.q ids 1 g1)),(66,(.bool ((((((a.Volumes.length:Int) != (b.Volumes.length:Int))||((a.Sectors.length:Int) != (b.Sectors.length:Int)))||((a.Configs.length:Int) != (b.Configs.length:Int)))||((a.Segments.length:Int) != (b.Segments.length:Int)))||((a.Routes.length:Int) != (b.Routes.length:Int)))))] ?_ fun hJ3=>Bq (((((a.Volumes.length:Int) != (b.Volumes.length:Int))||((a.Sectors.length:Int) != (b.Sectors.length:Int)))||((a.Configs.length:Int) != (b.Configs.length:Int)))||((a.Segments.length:Int) != (b.Segments.length:Int))) (fun hb7=>?_) (fun hb7=>?_)
    ·refine Aa (.bool ((((((a.Volumes.length:Int) != (b.Volumes.length:Int))||((a.Sectors.length:Int) != (b.Sectors.length:Int)))||((a.Configs.length:Int) != (b.Configs.length:Int)))||((a.Segments.length:Int) != (b.Segments.length:Int)))||((a.Routes.length:Int) != (b.Routes.length:Int)))) J Ad<|By 8 [(2,(.q ids 0 g)),(3,(.q ids 1 g1)),(75,(.bool (((((((a.Volumes.length:Int) != (b.Volumes.length:Int))||((a.Sectors.length:Int) != (b.Sectors.length:Int)))||((a.Configs.length:Int) != (b.Configs.length:Int)))||((a.Segments.length:Int) != (b.Segments.length:Int)))||((a.Routes.length:Int) != (b.Routes.length:Int)))||((a.Airports.length:Int) != (b.Airports.length:Int)))))] ?_ fun hJ4=>Bq ((((((a.Volumes.length:Int) != (b.Volumes.length:Int))||((a.Sectors.length:Int) != (b.Sectors.length:Int)))||((a.Configs.length:Int) != (b.Configs.length:Int)))||((a.Segments.length:Int) != (b.Segments.length:Int)))||((a.Routes.length:Int) != (b.Routes.length:Int))) (fun hb9=>?_) (fun hb9=>?_)
     ·refine Aa (.bool (((((((a.Volumes.length:Int) != (b.Volumes.length:Int))||((a.Sectors.length:Int) != (b.Sectors.length:Int)))||((a.Configs.length:Int) != (b.Configs.length:Int)))||((a.Segments.length:Int) != (b.Segments.length:Int)))||((a.Routes.length:Int) != (b.Routes.length:Int)))||((a.Airports.length:Int) != (b.Airports.length:Int)))) J Ad<|By 8 [(2,(.q ids 0 g)),(3,(.q ids 1 g1)),(84,(.bool ((((((((a.Volumes.length:Int) != (b.Volumes.length:Int))||((a.Sectors.length:Int) != (b.Sectors.length:Int)))||((a.Configs.length:Int) != (b.Configs.length:Int)))||((a.Segments.length:Int) != (b.Segments.length:Int)))||((a.Routes.length:Int) != (b.Routes.length:Int)))||((a.Airports.length:Int) != (b.Airports.length:Int)))||((a.Classes.length:Int) != (b.Classes.length:Int)))))] ?_ fun hJ5=>Bq (((((((a.Volumes.length:Int) != (b.Volumes.length:Int))||((a.Sectors.length:Int) != (b.Sectors.length:Int)))||((a.Configs.length:Int) != (b.Configs.length:Int)))||((a.Segments.length:Int) != (b.Segments.length:Int)))||((a.Routes.length:Int) != (b.Routes.length:Int)))||((a.Airports.length:Int) != (b.Airports.length:Int))) (fun hb11=>?_) (fun hb11=>?_)
      ·refine Aa (.bool ((((((((a.Volumes.length:Int) != (b.Volumes.length:Int))||((a.Sectors.length:Int) != (b.Sectors.length:Int)))||((a.Configs.length:Int) != (b.Configs.length:Int)))||((a.Segments.length:Int) != (b.Segments.length:Int)))||((a.Routes.length:Int) != (b.Routes.length:Int)))||((a.Airports.length:Int) != (b.Airports.length:Int)))||((a.Classes.length:Int) != (b.Classes.length:Int)))) J Ad<|By 8 [(2,(.q ids 0 g)),(3,(.q ids 1 g1)),(93,(.bool (((((((((a.Volumes.length:Int) != (b.Volumes.length:Int))||((a.Sectors.length:Int) != (b.Sectors.length:Int)))||((a.Configs.length:Int) != (b.Configs.length:Int)))||((a.Segments.length:Int) != (b.Segments.length:Int)))||((a.Routes.length:Int) != (b.Routes.length:Int)))||((a.Airports.length:Int) != (b.Airports.length:Int)))||((a.Classes.length:Int) != (b.Classes.length:Int)))||((a.Rules.length:Int) != (b.Rules.length:Int)))))] ?_ fun hJ6=>Bq ((((((((a.Volumes.length:Int) != (b.Volumes.length:Int))||((a.Sectors.length:Int) != (b.Sectors.length:Int)))||((a.Configs.length:Int) != (b.Configs.length:Int)))||((a.Segments.length:Int) != (b.Segments.length:Int)))||((a.Routes.length:Int) != (b.Routes.length:Int)))||((a.Airports.length:Int) != (b.Airports.length:Int)))||((a.Classes.length:Int) != (b.Classes.length:Int))) (fun hb13=>?_) (fun hb13=>?_)
       ·refine Z<|B4 J (fun hc=>?_) (fun hc=>?_)
        ·refine Y<|O<|Aa (.bool false) J An<|Z<|Br (a:=false) (vs:=[(.bool false)]) Tryz.func12 hI J (.same _)
        refine Az<|Y<|Y<|O<|Aa (.I 0) J An<|Z<|Ba ?_
        refine D2 [(2,(.q ids 0 g)),(3,(.q ids 1 g1)),(5,(.I 0))] (FI J)<|Ee (P:=Tryz.prog) a.Volumes (fun j a1=>fun _=>Oy b j a1) ((De (fun _=>(each (fun j1 a3=>fun _=>M6 b j1 a3) 0 a.Sectors ()).bind (De (fun _=>(each (fun j2 a5=>fun _=>L7 b j2 a5) 0 a.Configs ()).bind (De (fun _=>(each (fun j3 a7=>fun _=>Kh b j3 a7) 0 a.Segments ()).bind (De (fun _=>(each (fun j4 a9=>fun _=>I4 b j4 a9) 0 a.Routes ()).bind (De (fun _=>(each (fun j5 a11=>fun _=>Hm b j5 a11) 0 a.Airports ()).bind (De (fun _=>(each (fun j7 a15=>fun _=>Gk b j7 a15) 0 a.Classes ()).bind (De (fun _=>(each (fun j8 a17=>fun _=>F1 b j8 a17) 0 a.Rules ()).bind (De (fun _=>.ok true) (fun r=>.ok r))) (fun r=>.ok r))) (fun r=>.ok r))) (fun r=>.ok r))) (fun r=>.ok r))) (fun r=>.ok r))) (fun r=>.ok r))) (fun r=>.ok r)):(Unit ⊕ Bool)→R Bool) (fun j=>fun _=>fun(fr:Nat→AV) (h:Ae)=>fr=A2 [(2,(.q ids 0 g)),(3,(.q ids 1 g1)),(5,(.I (j:Int)))]∧h=hp h0 ids [(some (.rows g 8 [(Ay a)])),(some (.rows g1 8 [(Ay b)])),none,none,none,none,none,none,none,none,none,none]) () ?_ ?_ ?_
        ·exact⟨J,J⟩
        ·rintro j a1 ha1 W hW _ fr h ⟨rfl,rfl⟩
         refine Al (m':=Oy b j a1) J (Al (Oy.eq_1 _ _ _) ?_)
         refine Y<|Y<|O<|Ac 3 [0] [(96,(.sl 2 (List.map As a.Volumes))),(94,(.I (j:Int)))] ?_
         refine Aa (.I (a.Volumes.length:Int)) J (A4 (Bf Ii))<|Aa (.bool (decide ((j:Int)<(a.Volumes.length:Int)))) J (Bd J J J)<|Z<|D3 (t:=96) (L:=a.Volumes) J fun hlim1=>C1 J (Int.ofNat_lt.2 (A8 ha1))<|Az<|Y ?_
         refine Ba<|Y<|Dx (fun x1=>Oo x1) (fun x1=>fun(fr:Nat→AV) (h:Ae)=>fr=A2 [(2,(.q ids 0 g)),(3,(.q ids 1 g1)),(5,(.I (j:Int))),(129,(.bool x1))]∧h=hp h0 ids [(some (.rows g 8 [(Ay a)])),(some (.rows g1 8 [(Ay b)])),none,none,none,none,none,none,none,none,none,none]) ?_ fun hJ7=>?_
         ·rintro x1 fr h ⟨rfl,rfl⟩
          refine Al (Oo.eq_1 _)<|B4 J (fun hc1=>?_) (fun hc1=>?_)
          ·refine Y<|O<|Aa (.bool false) J An<|Z<|E1<|Fu<|Br (a:=false) (vs:=[(.bool false)]) Tryz.func12 hI J (.same _)
          refine Az<|Bo<|O<|Ac 3 [] [(5,(.I (IntKind.wrap .i64 ((j:Int)+1))))] ?_
          refine Z<|Bp (E3 (hW () _ _ ⟨J,J⟩)) (.cons J (.cons J (.cons (D0 (A8 ha1) hlim1) .nil)))
         refine C3 Fg [[],[0],[],[0,1,2],[0,1,2,3],[0,1,2,3,4],[],[6],[],[6,7,8],[6,7,8,9],[6,7,8,9,10],[0,1,2,3,4,5,6,7,8,9,10,11],[0,1,2,3,4,5,6,7,8,9,10,11,12],[0,1,2,3,4,5,6,7,8,9,10,11,12,13],[0,1,2,3,4,5,6,7,8,9,10,11,12,13,14],[0,1,2,3,4,5,6,7,8,9,10,11,12,13],[0,1,2,3,4,5,6,7,8,9,10,11,12,13,14,15,16],[0,1,2,3,4,5,6,7,8,9,10,11,12,13,14,15,16,17],[0,1,2,3,4,5,6,7,8,9,10,11,12,13,14,15,16,17,18],[0,1,2,3,4,5,6,7,8,9,10,11,12,13],[0,1,2,3,4,5,6,7,8,9,10,11,12,13,20],[0,1,2,3,4,5,6,7,8,9,10,11,12,13],[0,1,2,3,4,5,6,7,8,9,10,11,12,13,20,21,22],[0,1,2,3,4,5,6,7,8,9,10,11,12,13,20,21,22,23],[0,1,2,3,4,5,6,7,8,9,10,11,12,13,20,21,22,23,24],[0,1,2,3,4,5,6,7,8,9,10,11,12,13,14,15,16,17,18,19,20,21,22,23,24,25],[0,1,2,3,4,5,6,7,8,9,10,11,12,13,14,15,16,17,18,19,20,21,22,23,24,25,26],[0,1,2,3,4,5,6,7,8,9,10,11,12,13,14,15,16,17,18,19,20,21,22,23,24,25,26,27]] [(false,0),(false,1),(false,2),(false,3),(false,4),(false,5),(false,6),(false,7),(false,8),(false,9),(false,10),(false,11),(false,12),(false,13),(false,14),(false,15),(false,16),(false,17),(false,18),(false,19),(false,20),(false,21),(false,22),(false,23),(false,24),(false,25),(true,26),(false,27),(false,28)] (by kernel_rfl)<|Ag (.q ids 0 g) J J (Cc (B2 (c:=0) (off:=0) (i:=0) Ei J Ii J))<|Ag (.sl 2 (List.map As a.Volumes)) J J (Au (A9 hI J J J Ii J))<|Ag (.I (j:Int)) J J Ad<|Ag (.cp (As a1) 0) J J (Bu (Dh Ii Jd J ha1))<|Ag (.cp (As a1) 0) J J (Cc (W2 (c:=0) (off:=0) (i:=0) Jd J Cl J))<|Ag (.str a1.Name) J J (Au (Cg Cl J)) ?_
         refine Ag (.q ids 1 g1) J J (Cc (B2 (c:=0) (off:=0) (i:=0) Ei J Ii J))<|Ag (.sl 2 (List.map As b.Volumes)) J J (Au (A9 hI J J J Ii J))<|Ag (.I (j:Int)) J J Ad<|Ny fun a2 hz hx1=>Ag (.cp (As a2) 0) J J (Bu (Dg Ii Jd J hz hx1))<|Ag (.cp (As a2) 0) J J (Cc (W2 (c:=0) (off:=0) (i:=0) Jd J Cl J))<|Ag (.str a2.Name) J J (Au (Cg Cl J)) ?_
         refine Ag (.bool (!(a1.Name==a2.Name))) J J (Bd J J J)<|Ag (.bool (!(a1.Name==a2.Name))) J J Ad<|L5 (fun hb14=>?_) (fun hb14=>?_)
         ·refine Jo (tj:=114) (b:=true) J J (congrArg AV.bool hb14) J J<|Jo (tj:=114) (b:=true) J J (congrArg AV.bool hb14) J J<|Jo (tj:=114) (b:=true) J J (congrArg AV.bool hb14) J J<|Jo (tj:=114) (b:=true) J J (congrArg AV.bool hb14) J J<|Jo (tj:=114) (b:=true) J J (congrArg AV.bool hb14) J J<|Jo (tj:=114) (b:=true) J J (congrArg AV.bool hb14) J J<|Jo (tj:=114) (b:=true) J J (congrArg AV.bool hb14) J J ?_
          refine Jo (tj:=114) (b:=true) J J (congrArg AV.bool hb14) J J<|Jo (tj:=114) (b:=true) J J (congrArg AV.bool hb14) J J<|Jo (tj:=114) (b:=true) J J (congrArg AV.bool hb14) J J<|Jo (tj:=114) (b:=true) J J (congrArg AV.bool hb14) J J<|Jo (tj:=114) (b:=true) J J (congrArg AV.bool hb14) J J<|Ak9 (tj:=114) (b:=true) J J (congrArg AV.bool hb14) J J<|Jo (tj:=114) (b:=true) J J (congrArg AV.bool hb14) J J ?_
          refine Ag (.bool true) J J (Fd (t:=true) (congrArg AV.bool hb14) J)<|Cm<|Bp (hJ7 true _ _ ⟨J,J⟩)
         refine G9 (tj:=114) (.q ids 0 g) J J (congrArg AV.bool hb14) J (Cc (B2 (c:=0) (off:=0) (i:=0) Ei J Ii J))<|G9 (tj:=114) (.sl 2 (List.map As a.Volumes)) J J (congrArg AV.bool hb14) J (Au (A9 hI J J J Ii J))<|G9 (tj:=114) (.I (j:Int)) J J (congrArg AV.bool hb14) J Ad<|G9 (tj:=114) (.cp (As a1) 0) J J (congrArg AV.bool hb14) J (Bu (Dh Ii Jd J ha1))<|G9 (tj:=114) (.cp (As a1) 1) J J (congrArg AV.bool hb14) J (Cc (W2 (c:=0) (off:=1) (i:=1) Jd J Lj J))<|G9 (tj:=114) (.sl 2 (List.map B5 a1.Closed)) J J (congrArg AV.bool hb14) J (Au (Cg Lj J))<|G9 (tj:=114) (.q ids 1 g1) J J (congrArg AV.bool hb14) J (Cc (B2 (c:=0) (off:=0) (i:=0) Ei J Ii J)) ?_
         refine G9 (tj:=114) (.sl 2 (List.map As b.Volumes)) J J (congrArg AV.bool hb14) J (Au (A9 hI J J J Ii J))<|G9 (tj:=114) (.I (j:Int)) J J (congrArg AV.bool hb14) J Ad<|G9 (tj:=114) (.cp (As a2) 0) J J (congrArg AV.bool hb14) J (Bu (Dg Ii Jd J hz hx1))<|G9 (tj:=114) (.cp (As a2) 1) J J (congrArg AV.bool hb14) J (Cc (W2 (c:=0) (off:=1) (i:=1) Jd J Lj J))<|G9 (tj:=114) (.sl 2 (List.map B5 a2.Closed)) J J (congrArg AV.bool hb14) J (Au (Cg Lj J))<|Yt [(.sl 2 (List.map B5 a1.Closed)),(.sl 2 (List.map B5 a2.Closed))] J (Ch (tj:=114) J (congrArg AV.bool hb14)) J J J ((S4 a1.Closed a2.Closed) _) (fun v _ _ _=>B9 Tryz.func12 hI) (Af J (Af J (Af J (Af J (Af J (Af J (Af J (Af J (Af J (Af J (Af J (Af J (Af J (Af J (Af J (Af J (Af J (Af J (Af J (Af J (Af J (Af J (Af J (Af J (Af J (Af J Bx)))))))))))))))))))))))))) fun r _=>G9 (tj:=114) (.bool (!r)) J J (congrArg AV.bool hb14) J (Ps J) ?_
         refine Ag (.bool (!r)) J J (Fd (t:=false) (congrArg AV.bool hb14) J)<|Cm<|Bp (hJ7 (!r) _ _ ⟨J,J⟩)
        rintro _ fr h ⟨rfl,rfl⟩
        refine Al (E6 _ _ _)<|Y<|Y<|O<|Ac 3 [0] [(96,(.sl 2 (List.map As a.Volumes))),(94,(.I (a.Volumes.length:Int)))] ?_
        refine Aa (.I (a.Volumes.length:Int)) J (A4 (Bf Ii))<|Aa (.bool (decide ((a.Volumes.length:Int)<(a.Volumes.length:Int)))) J (Bd J J J)<|Z<|C2 J (Int.lt_irrefl _)<|C6 J<|Y<|Y ?_
        refine O<|Aa (.I 0) J An<|Z<|Ba<|D2 [(2,(.q ids 0 g)),(3,(.q ids 1 g1)),(6,(.I 0))] (FI J)<|Ee (P:=Tryz.prog) a.Sectors (fun j1 a3=>fun _=>M6 b j1 a3) ((De (fun _=>(each (fun j2 a5=>fun _=>L7 b j2 a5) 0 a.Configs ()).bind (De (fun _=>(each (fun j3 a7=>fun _=>Kh b j3 a7) 0 a.Segments ()).bind (De (fun _=>(each (fun j4 a9=>fun _=>I4 b j4 a9) 0 a.Routes ()).bind (De (fun _=>(each (fun j5 a11=>fun _=>Hm b j5 a11) 0 a.Airports ()).bind (De (fun _=>(each (fun j7 a15=>fun _=>Gk b j7 a15) 0 a.Classes ()).bind (De (fun _=>(each (fun j8 a17=>fun _=>F1 b j8 a17) 0 a.Rules ()).bind (De (fun _=>.ok true) (fun r=>.ok r))) (fun r=>.ok r))) (fun r=>.ok r))) (fun r=>.ok r))) (fun r=>.ok r))) (fun r=>.ok r))) (fun r=>.ok r)):(Unit ⊕ Bool)→R Bool) (fun j1=>fun _=>fun(fr:Nat→AV) (h:Ae)=>fr=A2 [(2,(.q ids 0 g)),(3,(.q ids 1 g1)),(6,(.I (j1:Int)))]∧h=hp h0 ids [(some (.rows g 8 [(Ay a)])),(some (.rows g1 8 [(Ay b)])),none,none,none,none,none,none,none,none,none,none]) () ?_ ?_ ?_
        ·exact⟨J,J⟩
        ·rintro j1 a3 ha3 W hW1 _ fr h ⟨rfl,rfl⟩
         refine Al (m':=M6 b j1 a3) J (Al (M6.eq_1 _ _ _) ?_)
         refine Y<|Y<|O<|Ac 3 [0] [(132,(.sl 5 (List.map A7 a.Sectors))),(130,(.I (j1:Int)))] ?_
         refine Aa (.I (a.Sectors.length:Int)) J (A4 (Bf Lo))<|Aa (.bool (decide ((j1:Int)<(a.Sectors.length:Int)))) J (Bd J J J)<|Z<|D3 (t:=132) (L:=a.Sectors) J fun hlim3=>C1 J (Int.ofNat_lt.2 (A8 ha3))<|Az<|Y ?_
         refine Ba<|Y<|O<|Ac 3 [0] [(139,(.I (j1:Int))),(138,(.sl 5 (List.map A7 a.Sectors)))] ?_
         refine Aa (.cp (A7 a3) 0) J (Bu (Dh Lo Gx J ha3))<|Aa (.agg (A7 a3)) J (Au (Cg Gx J))<|Bb (j:=2) hI J J J J Gx J fun g2=>Ar (Ax (v:=(.agg (A7 a3))) hI J J J J Gx J J J J J)<|Z<|Aj ?_
         refine Y<|O<|Ac 3 [1] [(144,(.I (j1:Int))),(143,(.sl 5 (List.map A7 b.Sectors)))] ?_
         refine Eb fun a4 hz1 hx2=>Aa (.cp (A7 a4) 0) J (Bu (Dg Lo Gx J hz1 hx2))<|Aa (.agg (A7 a4)) J (Au (Cg Gx J))<|Bb (j:=3) hI J J J J Gx J fun g3=>Ar (Ax (v:=(.agg (A7 a4))) hI J J J J Gx J J J J J)<|Z<|Aj ?_
         refine Y<|O<|Ac 6 [2,3] [(152,(.bool (!(a3.Name==a4.Name))))] ?_
         refine C5 7 ((fun(b1:Bool)=>(if b1 then R.ok true else(Gr a3.Volumes a4.Volumes).bind fun r2=>R.ok (!r2)).bind (fun(b2:Bool)=>if((b2||(a3.Radar != a4.Radar))||(a3.Procedural != a4.Procedural)) then(.ok (.inr (false))) else(.ok (.inl ())))):Bool→R (Unit ⊕ Bool)) (fun(b1:Bool) (fr:Nat→AV) (h:Ae)=>fr=A2 [(2,(.q ids 0 g)),(3,(.q ids 1 g1)),(6,(.I (j1:Int))),(7,(.q ids 2 g2)),(8,(.q ids 3 g3)),(159,(.bool b1))]∧h=hp h0 ids [(some (.rows g 8 [(Ay a)])),(some (.rows g1 8 [(Ay b)])),(some (.rows g2 5 [(A7 a3)])),(some (.rows g3 5 [(A7 a4)])),none,none,none,none,none,none,none,none]) ?_ fun hJ8=>Du (fun hb16=>?_) (fun hb16=>?_)
         ·rintro b1 fr h ⟨rfl,rfl⟩
          refine Aa (.bool b1) J Ad<|C5 7 ((fun(b2:Bool)=>if((b2||(a3.Radar != a4.Radar))||(a3.Procedural != a4.Procedural)) then(.ok (.inr (false))) else(.ok (.inl ()))):Bool→R (Unit ⊕ Bool)) (fun(b2:Bool) (fr:Nat→AV) (h:Ae)=>fr=A2 [(2,(.q ids 0 g)),(3,(.q ids 1 g1)),(6,(.I (j1:Int))),(7,(.q ids 2 g2)),(8,(.q ids 3 g3)),(167,(.bool b2))]∧h=hp h0 ids [(some (.rows g 8 [(Ay a)])),(some (.rows g1 8 [(Ay b)])),(some (.rows g2 5 [(A7 a3)])),(some (.rows g3 5 [(A7 a4)])),none,none,none,none,none,none,none,none]) ?_ fun hJ9=>Du (fun hb18=>?_) (fun hb18=>?_)
          ·rintro b2 fr h ⟨rfl,rfl⟩
           refine Aa (.bool b2) J Ad<|By 6 [(2,(.q ids 0 g)),(3,(.q ids 1 g1)),(6,(.I (j1:Int))),(7,(.q ids 2 g2)),(8,(.q ids 3 g3)),(174,(.bool (b2||(a3.Radar != a4.Radar))))] ?_ fun hJ10=>Bq b2 (fun hb20=>?_) (fun hb20=>?_)
           ·refine Aa (.bool (b2||(a3.Radar != a4.Radar))) J Ad<|By 6 [(2,(.q ids 0 g)),(3,(.q ids 1 g1)),(6,(.I (j1:Int))),(181,(.bool ((b2||(a3.Radar != a4.Radar))||(a3.Procedural != a4.Procedural))))] ?_ fun hJ11=>Bq (b2||(a3.Radar != a4.Radar)) (fun hb22=>?_) (fun hb22=>?_)
            ·refine Z<|B4 J (fun hc2=>?_) (fun hc2=>?_)
             ·refine Y<|O<|Aa (.bool false) J An<|Z<|E1<|Fu<|Br (a:=false) (vs:=[(.bool false)]) Tryz.func12 hI J (.same _)
             refine Az<|Bo<|O<|Ac 3 [] [(6,(.I (IntKind.wrap .i64 ((j1:Int)+1))))] ?_
             refine Z<|Ef [(some (.rows g 8 [(Ay a)])),(some (.rows g1 8 [(Ay b)])),none,none,none,none,none,none,none,none,none,none] hI J (.keep (.keep (.drop (.drop (.keep (.keep (.keep (.keep (.keep (.keep (.keep (.keep .nil))))))))))))<|Bp (E3 (hW1 () _ _ ⟨J,J⟩)) (.cons J (.cons J (.cons (D0 (A8 ha3) hlim3) .nil)))
            ·refine A3 (t:=175) hb22 J<|Ac 6 [] [(181,(.bool true)),(180,.und),(179,.und),(178,.und),(177,.und),(176,.und)] ?_
             exact Be hJ11 (.cons J (.cons J (.cons J (.cons (E0 hb22) .nil))))
            refine A3 (t:=175) hb22 J<|Ac 6 [2,3] [(181,(.bool (a3.Procedural != a4.Procedural))),(180,(.bool (a3.Procedural != a4.Procedural))),(179,(.I a4.Procedural)),(178,(.ptr (ix ids 3) g3 0 4)),(177,(.I a3.Procedural)),(176,(.ptr (ix ids 2) g2 0 4))] ?_
            exact Be hJ11 (.cons J (.cons J (.cons J (.cons (Ey hb22) .nil))))
           ·refine A3 (t:=168) hb20 J<|Ac 6 [] [(174,(.bool true)),(173,.und),(172,.und),(171,.und),(170,.und),(169,.und)] ?_
            exact Be hJ10 (.cons J (.cons J (.cons J (.cons J (.cons J (.cons (E0 hb20) .nil))))))
           refine A3 (t:=168) hb20 J<|Ac 6 [2,3] [(174,(.bool (a3.Radar != a4.Radar))),(173,(.bool (a3.Radar != a4.Radar))),(172,(.I a4.Radar)),(171,(.ptr (ix ids 3) g3 0 3)),(170,(.I a3.Radar)),(169,(.ptr (ix ids 2) g2 0 3))] ?_
           exact Be hJ10 (.cons J (.cons J (.cons J (.cons J (.cons J (.cons (Ey hb20) .nil))))))
          ·refine A3 (t:=160) hb18 J<|Ac 7 [] [(167,(.bool true)),(166,.und),(165,.und),(164,.und),(163,.und),(162,.und),(161,.und)] ?_
           refine Bk<|Cb [(2,(.q ids 0 g)),(3,(.q ids 1 g1)),(6,(.I (j1:Int))),(7,(.q ids 2 g2)),(8,(.q ids 3 g3)),(167,(.bool true))] (FI J)<|hJ9 true _ _ ⟨J,J⟩
          refine A3 (t:=160) hb18 J<|Ac 4 [2,3] [(164,(.sl 1 (List.map (rI .i64) a4.Volumes))),(163,(.ptr (ix ids 3) g3 0 2)),(162,(.sl 1 (List.map (rI .i64) a3.Volumes))),(161,(.ptr (ix ids 2) g2 0 2))] ?_
          refine Bw [(.sl 1 (List.map (rI .i64) a3.Volumes)),(.sl 1 (List.map (rI .i64) a4.Volumes))] J (Ch (tj:=160) J J) J J ((P2 a3.Volumes a4.Volumes) _) (fun v _=>B9 Tryz.func12 hI) fun r2 _=>Ac 2 [] [(167,(.bool (!r2))),(166,(.bool (!r2)))] ?_
          refine Bk<|Cb [(2,(.q ids 0 g)),(3,(.q ids 1 g1)),(6,(.I (j1:Int))),(7,(.q ids 2 g2)),(8,(.q ids 3 g3)),(167,(.bool (!r2)))] (FI J)<|hJ9 (!r2) _ _ ⟨J,J⟩
         ·refine A3 (t:=152) hb16 J<|Ac 7 [] [(159,(.bool true)),(158,.und),(157,.und),(156,.und),(155,.und),(154,.und),(153,.und)] ?_
          refine Bk<|Cb [(2,(.q ids 0 g)),(3,(.q ids 1 g1)),(6,(.I (j1:Int))),(7,(.q ids 2 g2)),(8,(.q ids 3 g3)),(159,(.bool true))] (FI J)<|hJ8 true _ _ ⟨J,J⟩
         refine A3 (t:=152) hb16 J<|Ac 4 [2,3] [(156,(.sl 1 (List.map rS a4.Names))),(155,(.ptr (ix ids 3) g3 0 1)),(154,(.sl 1 (List.map rS a3.Names))),(153,(.ptr (ix ids 2) g2 0 1))] ?_
         refine Bw [(.sl 1 (List.map rS a3.Names)),(.sl 1 (List.map rS a4.Names))] J (Ch (tj:=152) J J) J J ((Pc a3.Names a4.Names) _) (fun v _=>B9 Tryz.func12 hI) fun r1 _=>Ac 2 [] [(159,(.bool (!r1))),(158,(.bool (!r1)))] ?_
         refine Bk<|Cb [(2,(.q ids 0 g)),(3,(.q ids 1 g1)),(6,(.I (j1:Int))),(7,(.q ids 2 g2)),(8,(.q ids 3 g3)),(159,(.bool (!r1)))] (FI J)<|hJ8 (!r1) _ _ ⟨J,J⟩
        rintro _ fr h ⟨rfl,rfl⟩
        refine Al (E6 _ _ _)<|Y<|Y<|O<|Ac 3 [0] [(132,(.sl 5 (List.map A7 a.Sectors))),(130,(.I (a.Sectors.length:Int)))] ?_
        refine Aa (.I (a.Sectors.length:Int)) J (A4 (Bf Lo))<|Aa (.bool (decide ((a.Sectors.length:Int)<(a.Sectors.length:Int)))) J (Bd J J J)<|Z<|C2 J (Int.lt_irrefl _)<|C6 J<|Y<|Y ?_
        refine O<|Aa (.I 0) J An<|Z<|Ba<|D2 [(2,(.q ids 0 g)),(3,(.q ids 1 g1)),(9,(.I 0))] (FI J)<|Ee (P:=Tryz.prog) a.Configs (fun j2 a5=>fun _=>L7 b j2 a5) ((De (fun _=>(each (fun j3 a7=>fun _=>Kh b j3 a7) 0 a.Segments ()).bind (De (fun _=>(each (fun j4 a9=>fun _=>I4 b j4 a9) 0 a.Routes ()).bind (De (fun _=>(each (fun j5 a11=>fun _=>Hm b j5 a11) 0 a.Airports ()).bind (De (fun _=>(each (fun j7 a15=>fun _=>Gk b j7 a15) 0 a.Classes ()).bind (De (fun _=>(each (fun j8 a17=>fun _=>F1 b j8 a17) 0 a.Rules ()).bind (De (fun _=>.ok true) (fun r=>.ok r))) (fun r=>.ok r))) (fun r=>.ok r))) (fun r=>.ok r))) (fun r=>.ok r))) (fun r=>.ok r)):(Unit ⊕ Bool)→R Bool) (fun j2=>fun _=>fun(fr:Nat→AV) (h:Ae)=>fr=A2 [(2,(.q ids 0 g)),(3,(.q ids 1 g1)),(9,(.I (j2:Int)))]∧h=hp h0 ids [(some (.rows g 8 [(Ay a)])),(some (.rows g1 8 [(Ay b)])),none,none,none,none,none,none,none,none,none,none]) () ?_ ?_ ?_
        ·exact⟨J,J⟩
        ·rintro j2 a5 ha5 W hW2 _ fr h ⟨rfl,rfl⟩
         refine Al (m':=L7 b j2 a5) J (Al (L7.eq_1 _ _ _) ?_)
         refine Y<|Y<|O<|Ac 3 [0] [(184,(.sl 3 (List.map Bm a.Configs))),(182,(.I (j2:Int)))] ?_
         refine Aa (.I (a.Configs.length:Int)) J (A4 (Bf My))<|Aa (.bool (decide ((j2:Int)<(a.Configs.length:Int)))) J (Bd J J J)<|Z<|D3 (t:=184) (L:=a.Configs) J fun hlim5=>C1 J (Int.ofNat_lt.2 (A8 ha5))<|Az<|Y ?_
         refine Ba<|Y<|O<|Ac 3 [0] [(191,(.I (j2:Int))),(190,(.sl 3 (List.map Bm a.Configs)))] ?_
         refine Aa (.cp (Bm a5) 0) J (Bu (Dh My J0 J ha5))<|Aa (.agg (Bm a5)) J (Au (Cg J0 J))<|Bb (j:=4) hI J J J J J0 J fun g4=>Ar (Ax (v:=(.agg (Bm a5))) hI J J J J J0 J J J J J)<|Z<|Aj ?_
         refine Y<|O<|Ac 3 [1] [(196,(.I (j2:Int))),(195,(.sl 3 (List.map Bm b.Configs)))] ?_
         refine Eb fun a6 hz2 hx3=>Aa (.cp (Bm a6) 0) J (Bu (Dg My J0 J hz2 hx3))<|Aa (.agg (Bm a6)) J (Au (Cg J0 J))<|Bb (j:=5) hI J J J J J0 J fun g5=>Ar (Ax (v:=(.agg (Bm a6))) hI J J J J J0 J J J J J)<|Z<|Aj ?_
         refine Y<|O<|Ac 6 [4,5] [(204,(.bool (!(a5.Name==a6.Name))))] ?_
         refine C5 7 ((fun(b3:Bool)=>(if b3 then R.ok true else(Gr a5.Sectors a6.Sectors).bind fun r4=>R.ok (!r4)).bind (fun(b4:Bool)=>if b4 then(.ok (.inr (false))) else(.ok (.inl ())))):Bool→R (Unit ⊕ Bool)) (fun(b3:Bool) (fr:Nat→AV) (h:Ae)=>fr=A2 [(2,(.q ids 0 g)),(3,(.q ids 1 g1)),(9,(.I (j2:Int))),(10,(.q ids 4 g4)),(11,(.q ids 5 g5)),(211,(.bool b3))]∧h=hp h0 ids [(some (.rows g 8 [(Ay a)])),(some (.rows g1 8 [(Ay b)])),none,none,(some (.rows g4 3 [(Bm a5)])),(some (.rows g5 3 [(Bm a6)])),none,none,none,none,none,none]) ?_ fun hJ12=>Du (fun hb24=>?_) (fun hb24=>?_)
         ·rintro b3 fr h ⟨rfl,rfl⟩
          refine Aa (.bool b3) J Ad<|C5 7 ((fun(b4:Bool)=>if b4 then(.ok (.inr (false))) else(.ok (.inl ()))):Bool→R (Unit ⊕ Bool)) (fun(b4:Bool) (fr:Nat→AV) (h:Ae)=>fr=A2 [(2,(.q ids 0 g)),(3,(.q ids 1 g1)),(9,(.I (j2:Int))),(219,(.bool b4))]∧h=hp h0 ids [(some (.rows g 8 [(Ay a)])),(some (.rows g1 8 [(Ay b)])),none,none,(some (.rows g4 3 [(Bm a5)])),(some (.rows g5 3 [(Bm a6)])),none,none,none,none,none,none]) ?_ fun hJ13=>Du (fun hb26=>?_) (fun hb26=>?_)
          ·rintro b4 fr h ⟨rfl,rfl⟩
           refine Z<|B4 J (fun hc3=>?_) (fun hc3=>?_)
           ·refine Y<|O<|Aa (.bool false) J An<|Z<|E1<|Fu<|Br (a:=false) (vs:=[(.bool false)]) Tryz.func12 hI J (.same _)
           refine Az<|Bo<|O<|Ac 3 [] [(9,(.I (IntKind.wrap .i64 ((j2:Int)+1))))] ?_
           refine Z<|Ef [(some (.rows g 8 [(Ay a)])),(some (.rows g1 8 [(Ay b)])),none,none,none,none,none,none,none,none,none,none] hI J (.keep (.keep (.keep (.keep (.drop (.drop (.keep (.keep (.keep (.keep (.keep (.keep .nil))))))))))))<|Bp (E3 (hW2 () _ _ ⟨J,J⟩)) (.cons J (.cons J (.cons (D0 (A8 ha5) hlim5) .nil)))
          ·refine A3 (t:=212) hb26 J<|Ac 7 [] [(219,(.bool true)),(218,.und),(217,.und),(216,.und),(215,.und),(214,.und),(213,.und)] ?_
           refine Bk<|Cb [(2,(.q ids 0 g)),(3,(.q ids 1 g1)),(9,(.I (j2:Int))),(219,(.bool true))] (FI J)<|hJ13 true _ _ ⟨J,J⟩
          refine A3 (t:=212) hb26 J<|Ac 4 [4,5] [(216,(.sl 1 (List.map (rI .i64) a6.Sectors))),(215,(.ptr (ix ids 5) g5 0 2)),(214,(.sl 1 (List.map (rI .i64) a5.Sectors))),(213,(.ptr (ix ids 4) g4 0 2))] ?_
          refine Bw [(.sl 1 (List.map (rI .i64) a5.Sectors)),(.sl 1 (List.map (rI .i64) a6.Sectors))] J (Ch (tj:=212) J J) J J ((P2 a5.Sectors a6.Sectors) _) (fun v _=>B9 Tryz.func12 hI) fun r4 _=>Ac 2 [] [(219,(.bool (!r4))),(218,(.bool (!r4)))] ?_
          refine Bk<|Cb [(2,(.q ids 0 g)),(3,(.q ids 1 g1)),(9,(.I (j2:Int))),(219,(.bool (!r4)))] (FI J)<|hJ13 (!r4) _ _ ⟨J,J⟩
         ·refine A3 (t:=204) hb24 J<|Ac 7 [] [(211,(.bool true)),(210,.und),(209,.und),(208,.und),(207,.und),(206,.und),(205,.und)] ?_
          refine Bk<|Cb [(2,(.q ids 0 g)),(3,(.q ids 1 g1)),(9,(.I (j2:Int))),(10,(.q ids 4 g4)),(11,(.q ids 5 g5)),(211,(.bool true))] (FI J)<|hJ12 true _ _ ⟨J,J⟩
         refine A3 (t:=204) hb24 J<|Ac 4 [4,5] [(208,(.sl 1 (List.map rS a6.Names))),(207,(.ptr (ix ids 5) g5 0 1)),(206,(.sl 1 (List.map rS a5.Names))),(205,(.ptr (ix ids 4) g4 0 1))] ?_
         refine Bw [(.sl 1 (List.map rS a5.Names)),(.sl 1 (List.map rS a6.Names))] J (Ch (tj:=204) J J) J J ((Pc a5.Names a6.Names) _) (fun v _=>B9 Tryz.func12 hI) fun r3 _=>Ac 2 [] [(211,(.bool (!r3))),(210,(.bool (!r3)))] ?_
         refine Bk<|Cb [(2,(.q ids 0 g)),(3,(.q ids 1 g1)),(9,(.I (j2:Int))),(10,(.q ids 4 g4)),(11,(.q ids 5 g5)),(211,(.bool (!r3)))] (FI J)<|hJ12 (!r3) _ _ ⟨J,J⟩
        rintro _ fr h ⟨rfl,rfl⟩
        refine Al (E6 _ _ _)<|Y<|Y<|O<|Ac 3 [0] [(184,(.sl 3 (List.map Bm a.Configs))),(182,(.I (a.Configs.length:Int)))] ?_
        refine Aa (.I (a.Configs.length:Int)) J (A4 (Bf My))<|Aa (.bool (decide ((a.Configs.length:Int)<(a.Configs.length:Int)))) J (Bd J J J)<|Z<|C2 J (Int.lt_irrefl _)<|C6 J<|Y<|Y ?_
        refine O<|Aa (.I 0) J An<|Z<|Ba<|D2 [(2,(.q ids 0 g)),(3,(.q ids 1 g1)),(12,(.I 0))] (FI J)<|Ee (P:=Tryz.prog) a.Segments (fun j3 a7=>fun _=>Kh b j3 a7) ((De (fun _=>(each (fun j4 a9=>fun _=>I4 b j4 a9) 0 a.Routes ()).bind (De (fun _=>(each (fun j5 a11=>fun _=>Hm b j5 a11) 0 a.Airports ()).bind (De (fun _=>(each (fun j7 a15=>fun _=>Gk b j7 a15) 0 a.Classes ()).bind (De (fun _=>(each (fun j8 a17=>fun _=>F1 b j8 a17) 0 a.Rules ()).bind (De (fun _=>.ok true) (fun r=>.ok r))) (fun r=>.ok r))) (fun r=>.ok r))) (fun r=>.ok r))) (fun r=>.ok r)):(Unit ⊕ Bool)→R Bool) (fun j3=>fun _=>fun(fr:Nat→AV) (h:Ae)=>fr=A2 [(2,(.q ids 0 g)),(3,(.q ids 1 g1)),(12,(.I (j3:Int)))]∧h=hp h0 ids [(some (.rows g 8 [(Ay a)])),(some (.rows g1 8 [(Ay b)])),none,none,none,none,none,none,none,none,none,none]) () ?_ ?_ ?_
        ·exact⟨J,J⟩
        ·rintro j3 a7 ha7 W hW3 _ fr h ⟨rfl,rfl⟩
         refine Al (m':=Kh b j3 a7) J (Al (Kh.eq_1 _ _ _) ?_)
         refine Y<|Y<|O<|Ac 3 [0] [(222,(.sl 5 (List.map Bg a.Segments))),(220,(.I (j3:Int)))] ?_
         refine Aa (.I (a.Segments.length:Int)) J (A4 (Bf Mw))<|Aa (.bool (decide ((j3:Int)<(a.Segments.length:Int)))) J (Bd J J J)<|Z<|D3 (t:=222) (L:=a.Segments) J fun hlim7=>C1 J (Int.ofNat_lt.2 (A8 ha7))<|Az<|Y ?_
         refine Ba<|Y<|O<|Ac 3 [0] [(229,(.I (j3:Int))),(228,(.sl 5 (List.map Bg a.Segments)))] ?_
         refine Aa (.cp (Bg a7) 0) J (Bu (Dh Mw Ih J ha7))<|Aa (.agg (Bg a7)) J (Au (Cg Ih J))<|Bb (j:=6) hI J J J J Ih J fun g6=>Ar (Ax (v:=(.agg (Bg a7))) hI J J J J Ih J J J J J)<|Z<|Aj ?_
         refine Y<|O<|Ac 3 [1] [(234,(.I (j3:Int))),(233,(.sl 5 (List.map Bg b.Segments)))] ?_
         refine Eb fun a8 hz3 hx4=>Aa (.cp (Bg a8) 0) J (Bu (Dg Mw Ih J hz3 hx4))<|Aa (.agg (Bg a8)) J (Au (Cg Ih J))<|Bb (j:=7) hI J J J J Ih J fun g7=>Ar (Ax (v:=(.agg (Bg a8))) hI J J J J Ih J J J J J)<|Z<|Aj ?_
         refine Y<|O<|Ac 6 [6,7] [(242,(.bool (!(a7.Name==a8.Name))))] ?_
         refine By 6 [(2,(.q ids 0 g)),(3,(.q ids 1 g1)),(12,(.I (j3:Int))),(13,(.q ids 6 g6)),(14,(.q ids 7 g7)),(248,(.bool ((!(a7.Name==a8.Name))||(!(a7.In==a8.In)))))] ?_ fun hJ14=>Bq (!(a7.Name==a8.Name)) (fun hb28=>?_) (fun hb28=>?_)
         ·refine Aa (.bool ((!(a7.Name==a8.Name))||(!(a7.In==a8.In)))) J Ad<|By 6 [(2,(.q ids 0 g)),(3,(.q ids 1 g1)),(12,(.I (j3:Int))),(13,(.q ids 6 g6)),(14,(.q ids 7 g7)),(255,(.bool (((!(a7.Name==a8.Name))||(!(a7.In==a8.In)))||(a7.Volume != a8.Volume))))] ?_ fun hJ15=>Bq ((!(a7.Name==a8.Name))||(!(a7.In==a8.In))) (fun hb30=>?_) (fun hb30=>?_)
          ·refine Aa (.bool (((!(a7.Name==a8.Name))||(!(a7.In==a8.In)))||(a7.Volume != a8.Volume))) J Ad<|By 6 [(2,(.q ids 0 g)),(3,(.q ids 1 g1)),(12,(.I (j3:Int))),(13,(.q ids 6 g6)),(14,(.q ids 7 g7)),(262,(.bool ((((!(a7.Name==a8.Name))||(!(a7.In==a8.In)))||(a7.Volume != a8.Volume))||(a7.Length != a8.Length))))] ?_ fun hJ16=>Bq (((!(a7.Name==a8.Name))||(!(a7.In==a8.In)))||(a7.Volume != a8.Volume)) (fun hb32=>?_) (fun hb32=>?_)
           ·refine Aa (.bool ((((!(a7.Name==a8.Name))||(!(a7.In==a8.In)))||(a7.Volume != a8.Volume))||(a7.Length != a8.Length))) J Ad<|C5 7 ((fun(b5:Bool)=>if b5 then(.ok (.inr (false))) else(.ok (.inl ()))):Bool→R (Unit ⊕ Bool)) (fun(b5:Bool) (fr:Nat→AV) (h:Ae)=>fr=A2 [(2,(.q ids 0 g)),(3,(.q ids 1 g1)),(12,(.I (j3:Int))),(270,(.bool b5))]∧h=hp h0 ids [(some (.rows g 8 [(Ay a)])),(some (.rows g1 8 [(Ay b)])),none,none,none,none,(some (.rows g6 5 [(Bg a7)])),(some (.rows g7 5 [(Bg a8)])),none,none,none,none]) ?_ fun hJ17=>Du (fun hb34=>?_) (fun hb34=>?_)
            ·rintro b5 fr h ⟨rfl,rfl⟩
             refine Z<|B4 J (fun hc4=>?_) (fun hc4=>?_)
             ·refine Y<|O<|Aa (.bool false) J An<|Z<|E1<|Fu<|Br (a:=false) (vs:=[(.bool false)]) Tryz.func12 hI J (.same _)
             refine Az<|Bo<|O<|Ac 3 [] [(12,(.I (IntKind.wrap .i64 ((j3:Int)+1))))] ?_
             refine Z<|Ef [(some (.rows g 8 [(Ay a)])),(some (.rows g1 8 [(Ay b)])),none,none,none,none,none,none,none,none,none,none] hI J (.keep (.keep (.keep (.keep (.keep (.keep (.drop (.drop (.keep (.keep (.keep (.keep .nil))))))))))))<|Bp (E3 (hW3 () _ _ ⟨J,J⟩)) (.cons J (.cons J (.cons (D0 (A8 ha7) hlim7) .nil)))
            ·refine A3 (t:=263) hb34 J<|Ac 7 [] [(270,(.bool true)),(269,.und),(268,.und),(267,.und),(266,.und),(265,.und),(264,.und)] ?_
             refine Bk<|Cb [(2,(.q ids 0 g)),(3,(.q ids 1 g1)),(12,(.I (j3:Int))),(270,(.bool true))] (FI J)<|hJ17 true _ _ ⟨J,J⟩
            refine A3 (t:=263) hb34 J<|Ac 4 [6,7] [(267,(.sl 2 (List.map B5 a8.Open))),(266,(.ptr (ix ids 7) g7 0 4)),(265,(.sl 2 (List.map B5 a7.Open))),(264,(.ptr (ix ids 6) g6 0 4))] ?_
            refine Bw [(.sl 2 (List.map B5 a7.Open)),(.sl 2 (List.map B5 a8.Open))] J (Ch (tj:=263) J J) J J ((S4 a7.Open a8.Open) _) (fun v _=>B9 Tryz.func12 hI) fun r5 _=>Ac 2 [] [(270,(.bool (!r5))),(269,(.bool (!r5)))] ?_
            refine Bk<|Cb [(2,(.q ids 0 g)),(3,(.q ids 1 g1)),(12,(.I (j3:Int))),(270,(.bool (!r5)))] (FI J)<|hJ17 (!r5) _ _ ⟨J,J⟩
           ·refine A3 (t:=256) hb32 J<|Ac 6 [] [(262,(.bool true)),(261,.und),(260,.und),(259,.und),(258,.und),(257,.und)] ?_
            exact Be hJ16 (.cons J (.cons J (.cons J (.cons J (.cons J (.cons (E0 hb32) .nil))))))
           refine A3 (t:=256) hb32 J<|Ac 6 [6,7] [(262,(.bool (a7.Length != a8.Length))),(261,(.bool (a7.Length != a8.Length))),(260,(.I a8.Length)),(259,(.ptr (ix ids 7) g7 0 3)),(258,(.I a7.Length)),(257,(.ptr (ix ids 6) g6 0 3))] ?_
           exact Be hJ16 (.cons J (.cons J (.cons J (.cons J (.cons J (.cons (Ey hb32) .nil))))))
          ·refine A3 (t:=249) hb30 J<|Ac 6 [] [(255,(.bool true)),(254,.und),(253,.und),(252,.und),(251,.und),(250,.und)] ?_
           exact Be hJ15 (.cons J (.cons J (.cons J (.cons J (.cons J (.cons (E0 hb30) .nil))))))
          refine A3 (t:=249) hb30 J<|Ac 6 [6,7] [(255,(.bool (a7.Volume != a8.Volume))),(254,(.bool (a7.Volume != a8.Volume))),(253,(.I a8.Volume)),(252,(.ptr (ix ids 7) g7 0 2)),(251,(.I a7.Volume)),(250,(.ptr (ix ids 6) g6 0 2))] ?_
          exact Be hJ15 (.cons J (.cons J (.cons J (.cons J (.cons J (.cons (Ey hb30) .nil))))))
         ·refine A3 (t:=242) hb28 J<|Ac 6 [] [(248,(.bool true)),(247,.und),(246,.und),(245,.und),(244,.und),(243,.und)] ?_
          exact Be hJ14 (.cons J (.cons J (.cons J (.cons J (.cons J (.cons (E0 hb28) .nil))))))
         refine A3 (t:=242) hb28 J<|Ac 6 [6,7] [(248,(.bool (!(a7.In==a8.In)))),(247,(.bool (!(a7.In==a8.In)))),(246,(.str a8.In)),(245,(.ptr (ix ids 7) g7 0 1)),(244,(.str a7.In)),(243,(.ptr (ix ids 6) g6 0 1))] ?_
         exact Be hJ14 (.cons J (.cons J (.cons J (.cons J (.cons J (.cons (Ey hb28) .nil))))))
        rintro _ fr h ⟨rfl,rfl⟩
        refine Al (E6 _ _ _)<|Y<|Y<|O<|Ac 3 [0] [(222,(.sl 5 (List.map Bg a.Segments))),(220,(.I (a.Segments.length:Int)))] ?_
        refine Aa (.I (a.Segments.length:Int)) J (A4 (Bf Mw))<|Aa (.bool (decide ((a.Segments.length:Int)<(a.Segments.length:Int)))) J (Bd J J J)<|Z<|C2 J (Int.lt_irrefl _)<|C6 J<|Y<|Y ?_
        refine O<|Aa (.I 0) J An<|Z<|Ba<|D2 [(2,(.q ids 0 g)),(3,(.q ids 1 g1)),(15,(.I 0))] (FI J)<|Ee (P:=Tryz.prog) a.Routes (fun j4 a9=>fun _=>I4 b j4 a9) ((De (fun _=>(each (fun j5 a11=>fun _=>Hm b j5 a11) 0 a.Airports ()).bind (De (fun _=>(each (fun j7 a15=>fun _=>Gk b j7 a15) 0 a.Classes ()).bind (De (fun _=>(each (fun j8 a17=>fun _=>F1 b j8 a17) 0 a.Rules ()).bind (De (fun _=>.ok true) (fun r=>.ok r))) (fun r=>.ok r))) (fun r=>.ok r))) (fun r=>.ok r)):(Unit ⊕ Bool)→R Bool) (fun j4=>fun _=>fun(fr:Nat→AV) (h:Ae)=>fr=A2 [(2,(.q ids 0 g)),(3,(.q ids 1 g1)),(15,(.I (j4:Int)))]∧h=hp h0 ids [(some (.rows g 8 [(Ay a)])),(some (.rows g1 8 [(Ay b)])),none,none,none,none,none,none,none,none,none,none]) () ?_ ?_ ?_
        ·exact⟨J,J⟩
        ·rintro j4 a9 ha9 W hW4 _ fr h ⟨rfl,rfl⟩
         refine Al (m':=I4 b j4 a9) J (Al (I4.eq_1 _ _ _) ?_)
         refine Y<|Y<|O<|Ac 3 [0] [(273,(.sl 7 (List.map Bs a.Routes))),(271,(.I (j4:Int)))] ?_
         refine Aa (.I (a.Routes.length:Int)) J (A4 (Bf Mx))<|Aa (.bool (decide ((j4:Int)<(a.Routes.length:Int)))) J (Bd J J J)<|Z<|D3 (t:=273) (L:=a.Routes) J fun hlim9=>C1 J (Int.ofNat_lt.2 (A8 ha9))<|Az<|Y ?_
         refine Ba<|Y<|O<|Ac 3 [0] [(280,(.I (j4:Int))),(279,(.sl 7 (List.map Bs a.Routes)))] ?_
         refine Aa (.cp (Bs a9) 0) J (Bu (Dh Mx Ie J ha9))<|Aa (.agg (Bs a9)) J (Au (Cg Ie J))<|Bb (j:=8) hI J J J J Ie J fun g8=>Ar (Ax (v:=(.agg (Bs a9))) hI J J J J Ie J J J J J)<|Z<|Aj ?_
         refine Y<|O<|Ac 3 [1] [(285,(.I (j4:Int))),(284,(.sl 7 (List.map Bs b.Routes)))] ?_
         refine Eb fun a10 hz4 hx5=>Aa (.cp (Bs a10) 0) J (Bu (Dg Mx Ie J hz4 hx5))<|Aa (.agg (Bs a10)) J (Au (Cg Ie J))<|Bb (j:=9) hI J J J J Ie J fun g9=>Ar (Ax (v:=(.agg (Bs a10))) hI J J J J Ie J J J J J)<|Z<|Aj ?_
         refine Y<|O<|Ac 6 [8,9] [(293,(.bool (!(a9.Name==a10.Name))))] ?_
         refine By 6 [(2,(.q ids 0 g)),(3,(.q ids 1 g1)),(15,(.I (j4:Int))),(16,(.q ids 8 g8)),(17,(.q ids 9 g9)),(299,(.bool ((!(a9.Name==a10.Name))||(!(a9.A==a10.A)))))] ?_ fun hJ18=>Bq (!(a9.Name==a10.Name)) (fun hb36=>?_) (fun hb36=>?_)
         ·refine Aa (.bool ((!(a9.Name==a10.Name))||(!(a9.A==a10.A)))) J Ad<|By 6 [(2,(.q ids 0 g)),(3,(.q ids 1 g1)),(15,(.I (j4:Int))),(16,(.q ids 8 g8)),(17,(.q ids 9 g9)),(306,(.bool (((!(a9.Name==a10.Name))||(!(a9.A==a10.A)))||(!(a9.B==a10.B)))))] ?_ fun hJ19=>Bq ((!(a9.Name==a10.Name))||(!(a9.A==a10.A))) (fun hb38=>?_) (fun hb38=>?_)
          ·refine Aa (.bool (((!(a9.Name==a10.Name))||(!(a9.A==a10.A)))||(!(a9.B==a10.B)))) J Ad<|By 6 [(2,(.q ids 0 g)),(3,(.q ids 1 g1)),(15,(.I (j4:Int))),(16,(.q ids 8 g8)),(17,(.q ids 9 g9)),(313,(.bool ((((!(a9.Name==a10.Name))||(!(a9.A==a10.A)))||(!(a9.B==a10.B)))||(a9.From != a10.From))))] ?_ fun hJ20=>Bq (((!(a9.Name==a10.Name))||(!(a9.A==a10.A)))||(!(a9.B==a10.B))) (fun hb40=>?_) (fun hb40=>?_)
           ·refine Aa (.bool ((((!(a9.Name==a10.Name))||(!(a9.A==a10.A)))||(!(a9.B==a10.B)))||(a9.From != a10.From))) J Ad<|By 6 [(2,(.q ids 0 g)),(3,(.q ids 1 g1)),(15,(.I (j4:Int))),(16,(.q ids 8 g8)),(17,(.q ids 9 g9)),(320,(.bool (((((!(a9.Name==a10.Name))||(!(a9.A==a10.A)))||(!(a9.B==a10.B)))||(a9.From != a10.From))||(a9.To != a10.To))))] ?_ fun hJ21=>Bq ((((!(a9.Name==a10.Name))||(!(a9.A==a10.A)))||(!(a9.B==a10.B)))||(a9.From != a10.From)) (fun hb42=>?_) (fun hb42=>?_)
            ·refine Aa (.bool (((((!(a9.Name==a10.Name))||(!(a9.A==a10.A)))||(!(a9.B==a10.B)))||(a9.From != a10.From))||(a9.To != a10.To))) J Ad<|C5 7 ((fun(b6:Bool)=>(if b6 then R.ok true else(Gr a9.Segments a10.Segments).bind fun r7=>R.ok (!r7)).bind (fun(b7:Bool)=>if b7 then(.ok (.inr (false))) else(.ok (.inl ())))):Bool→R (Unit ⊕ Bool)) (fun(b6:Bool) (fr:Nat→AV) (h:Ae)=>fr=A2 [(2,(.q ids 0 g)),(3,(.q ids 1 g1)),(15,(.I (j4:Int))),(16,(.q ids 8 g8)),(17,(.q ids 9 g9)),(328,(.bool b6))]∧h=hp h0 ids [(some (.rows g 8 [(Ay a)])),(some (.rows g1 8 [(Ay b)])),none,none,none,none,none,none,(some (.rows g8 7 [(Bs a9)])),(some (.rows g9 7 [(Bs a10)])),none,none]) ?_ fun hJ22=>Du (fun hb44=>?_) (fun hb44=>?_)
             ·rintro b6 fr h ⟨rfl,rfl⟩
              refine Aa (.bool b6) J Ad<|C5 7 ((fun(b7:Bool)=>if b7 then(.ok (.inr (false))) else(.ok (.inl ()))):Bool→R (Unit ⊕ Bool)) (fun(b7:Bool) (fr:Nat→AV) (h:Ae)=>fr=A2 [(2,(.q ids 0 g)),(3,(.q ids 1 g1)),(15,(.I (j4:Int))),(336,(.bool b7))]∧h=hp h0 ids [(some (.rows g 8 [(Ay a)])),(some (.rows g1 8 [(Ay b)])),none,none,none,none,none,none,(some (.rows g8 7 [(Bs a9)])),(some (.rows g9 7 [(Bs a10)])),none,none]) ?_ fun hJ23=>Du (fun hb46=>?_) (fun hb46=>?_)
              ·rintro b7 fr h ⟨rfl,rfl⟩
               refine Z<|B4 J (fun hc5=>?_) (fun hc5=>?_)
               ·refine Y<|O<|Aa (.bool false) J An<|Z<|E1<|Fu<|Br (a:=false) (vs:=[(.bool false)]) Tryz.func12 hI J (.same _)
               refine Az<|Bo<|O<|Ac 3 [] [(15,(.I (IntKind.wrap .i64 ((j4:Int)+1))))] ?_
               refine Z<|Ef [(some (.rows g 8 [(Ay a)])),(some (.rows g1 8 [(Ay b)])),none,none,none,none,none,none,none,none,none,none] hI J (.keep (.keep (.keep (.keep (.keep (.keep (.keep (.keep (.drop (.drop (.keep (.keep .nil))))))))))))<|Bp (E3 (hW4 () _ _ ⟨J,J⟩)) (.cons J (.cons J (.cons (D0 (A8 ha9) hlim9) .nil)))
              ·refine A3 (t:=329) hb46 J<|Ac 7 [] [(336,(.bool true)),(335,.und),(334,.und),(333,.und),(332,.und),(331,.und),(330,.und)] ?_
               refine Bk<|Cb [(2,(.q ids 0 g)),(3,(.q ids 1 g1)),(15,(.I (j4:Int))),(336,(.bool true))] (FI J)<|hJ23 true _ _ ⟨J,J⟩
              refine A3 (t:=329) hb46 J<|Ac 4 [8,9] [(333,(.sl 1 (List.map (rI .i64) a10.Segments))),(332,(.ptr (ix ids 9) g9 0 6)),(331,(.sl 1 (List.map (rI .i64) a9.Segments))),(330,(.ptr (ix ids 8) g8 0 6))] ?_
              refine Bw [(.sl 1 (List.map (rI .i64) a9.Segments)),(.sl 1 (List.map (rI .i64) a10.Segments))] J (Ch (tj:=329) J J) J J ((P2 a9.Segments a10.Segments) _) (fun v _=>B9 Tryz.func12 hI) fun r7 _=>Ac 2 [] [(336,(.bool (!r7))),(335,(.bool (!r7)))] ?_
              refine Bk<|Cb [(2,(.q ids 0 g)),(3,(.q ids 1 g1)),(15,(.I (j4:Int))),(336,(.bool (!r7)))] (FI J)<|hJ23 (!r7) _ _ ⟨J,J⟩
             ·refine A3 (t:=321) hb44 J<|Ac 7 [] [(328,(.bool true)),(327,.und),(326,.und),(325,.und),(324,.und),(323,.und),(322,.und)] ?_
              refine Bk<|Cb [(2,(.q ids 0 g)),(3,(.q ids 1 g1)),(15,(.I (j4:Int))),(16,(.q ids 8 g8)),(17,(.q ids 9 g9)),(328,(.bool true))] (FI J)<|hJ22 true _ _ ⟨J,J⟩
             refine A3 (t:=321) hb44 J<|Ac 4 [8,9] [(325,(.sl 1 (List.map rS a10.Names))),(324,(.ptr (ix ids 9) g9 0 5)),(323,(.sl 1 (List.map rS a9.Names))),(322,(.ptr (ix ids 8) g8 0 5))] ?_
             refine Bw [(.sl 1 (List.map rS a9.Names)),(.sl 1 (List.map rS a10.Names))] J (Ch (tj:=321) J J) J J ((Pc a9.Names a10.Names) _) (fun v _=>B9 Tryz.func12 hI) fun r6 _=>Ac 2 [] [(328,(.bool (!r6))),(327,(.bool (!r6)))] ?_
             refine Bk<|Cb [(2,(.q ids 0 g)),(3,(.q ids 1 g1)),(15,(.I (j4:Int))),(16,(.q ids 8 g8)),(17,(.q ids 9 g9)),(328,(.bool (!r6)))] (FI J)<|hJ22 (!r6) _ _ ⟨J,J⟩
            ·refine A3 (t:=314) hb42 J<|Ac 6 [] [(320,(.bool true)),(319,.und),(318,.und),(317,.und),(316,.und),(315,.und)] ?_
             exact Be hJ21 (.cons J (.cons J (.cons J (.cons J (.cons J (.cons (E0 hb42) .nil))))))
            refine A3 (t:=314) hb42 J<|Ac 6 [8,9] [(320,(.bool (a9.To != a10.To))),(319,(.bool (a9.To != a10.To))),(318,(.I a10.To)),(317,(.ptr (ix ids 9) g9 0 4)),(316,(.I a9.To)),(315,(.ptr (ix ids 8) g8 0 4))] ?_
            exact Be hJ21 (.cons J (.cons J (.cons J (.cons J (.cons J (.cons (Ey hb42) .nil))))))
           ·refine A3 (t:=307) hb40 J<|Ac 6 [] [(313,(.bool true)),(312,.und),(311,.und),(310,.und),(309,.und),(308,.und)] ?_
            exact Be hJ20 (.cons J (.cons J (.cons J (.cons J (.cons J (.cons (E0 hb40) .nil))))))
           refine A3 (t:=307) hb40 J<|Ac 6 [8,9] [(313,(.bool (a9.From != a10.From))),(312,(.bool (a9.From != a10.From))),(311,(.I a10.From)),(310,(.ptr (ix ids 9) g9 0 3)),(309,(.I a9.From)),(308,(.ptr (ix ids 8) g8 0 3))] ?_
           exact Be hJ20 (.cons J (.cons J (.cons J (.cons J (.cons J (.cons (Ey hb40) .nil))))))
          ·refine A3 (t:=300) hb38 J<|Ac 6 [] [(306,(.bool true)),(305,.und),(304,.und),(303,.und),(302,.und),(301,.und)] ?_
           exact Be hJ19 (.cons J (.cons J (.cons J (.cons J (.cons J (.cons (E0 hb38) .nil))))))
          refine A3 (t:=300) hb38 J<|Ac 6 [8,9] [(306,(.bool (!(a9.B==a10.B)))),(305,(.bool (!(a9.B==a10.B)))),(304,(.str a10.B)),(303,(.ptr (ix ids 9) g9 0 2)),(302,(.str a9.B)),(301,(.ptr (ix ids 8) g8 0 2))] ?_
          exact Be hJ19 (.cons J (.cons J (.cons J (.cons J (.cons J (.cons (Ey hb38) .nil))))))
         ·refine A3 (t:=293) hb36 J<|Ac 6 [] [(299,(.bool true)),(298,.und),(297,.und),(296,.und),(295,.und),(294,.und)] ?_
          exact Be hJ18 (.cons J (.cons J (.cons J (.cons J (.cons J (.cons (E0 hb36) .nil))))))
         refine A3 (t:=293) hb36 J<|Ac 6 [8,9] [(299,(.bool (!(a9.A==a10.A)))),(298,(.bool (!(a9.A==a10.A)))),(297,(.str a10.A)),(296,(.ptr (ix ids 9) g9 0 1)),(295,(.str a9.A)),(294,(.ptr (ix ids 8) g8 0 1))] ?_
         exact Be hJ18 (.cons J (.cons J (.cons J (.cons J (.cons J (.cons (Ey hb36) .nil))))))
        rintro _ fr h ⟨rfl,rfl⟩
        refine Al (E6 _ _ _)<|Y<|Y<|O<|Ac 3 [0] [(273,(.sl 7 (List.map Bs a.Routes))),(271,(.I (a.Routes.length:Int)))] ?_
        refine Aa (.I (a.Routes.length:Int)) J (A4 (Bf Mx))<|Aa (.bool (decide ((a.Routes.length:Int)<(a.Routes.length:Int)))) J (Bd J J J)<|Z<|C2 J (Int.lt_irrefl _)<|C6 J<|Y<|Y ?_
        refine O<|Aa (.I 0) J An<|Z<|Ba<|D2 [(2,(.q ids 0 g)),(3,(.q ids 1 g1)),(18,(.I 0))] (FI J)<|Ee (P:=Tryz.prog) a.Airports (fun j5 a11=>fun _=>Hm b j5 a11) ((De (fun _=>(each (fun j7 a15=>fun _=>Gk b j7 a15) 0 a.Classes ()).bind (De (fun _=>(each (fun j8 a17=>fun _=>F1 b j8 a17) 0 a.Rules ()).bind (De (fun _=>.ok true) (fun r=>.ok r))) (fun r=>.ok r))) (fun r=>.ok r)):(Unit ⊕ Bool)→R Bool) (fun j5=>fun _=>fun(fr:Nat→AV) (h:Ae)=>fr=A2 [(2,(.q ids 0 g)),(3,(.q ids 1 g1)),(18,(.I (j5:Int)))]∧h=hp h0 ids [(some (.rows g 8 [(Ay a)])),(some (.rows g1 8 [(Ay b)])),none,none,none,none,none,none,none,none,none,none]) () ?_ ?_ ?_
        ·exact⟨J,J⟩
        ·rintro j5 a11 ha11 W hW5 _ fr h ⟨rfl,rfl⟩
         refine Al (m':=Hm b j5 a11) J (Al (Hm.eq_1 _ _ _) ?_)
         refine Y<|Y<|O<|Ac 3 [0] [(339,(.sl 2 (List.map Bc a.Airports))),(337,(.I (j5:Int)))] ?_
         refine Aa (.I (a.Airports.length:Int)) J (A4 (Bf Mp))<|Aa (.bool (decide ((j5:Int)<(a.Airports.length:Int)))) J (Bd J J J)<|Z<|D3 (t:=339) (L:=a.Airports) J fun hlim11=>C1 J (Int.ofNat_lt.2 (A8 ha11))<|Az<|Y ?_
         refine Ba<|Y<|O<|Ac 3 [0] [(346,(.I (j5:Int))),(345,(.sl 2 (List.map Bc a.Airports)))] ?_
         refine Aa (.cp (Bc a11) 0) J (Bu (Dh Mp If J ha11))<|Aa (.agg (Bc a11)) J (Au (Cg If J))<|Bb (j:=10) hI J J J J If J fun g10=>Ar (Ax (v:=(.agg (Bc a11))) hI J J J J If J J J J J)<|Z<|Aj ?_
         refine Y<|O<|Ac 3 [1] [(351,(.I (j5:Int))),(350,(.sl 2 (List.map Bc b.Airports)))] ?_
         refine Eb fun a12 hz5 hx6=>Aa (.cp (Bc a12) 0) J (Bu (Dg Mp If J hz5 hx6))<|Aa (.agg (Bc a12)) J (Au (Cg If J))<|Bb (j:=11) hI J J J J If J fun g11=>Ar (Ax (v:=(.agg (Bc a12))) hI J J J J If J J J J J)<|Z<|Aj ?_
         refine Y<|Y<|O<|Ac 6 [10,11] [(359,(.bool (!(a11.Name==a12.Name))))] ?_
         refine By 8 [(2,(.q ids 0 g)),(3,(.q ids 1 g1)),(18,(.I (j5:Int))),(19,(.q ids 10 g10)),(20,(.q ids 11 g11)),(367,(.bool ((!(a11.Name==a12.Name))||((a11.Modes.length:Int) != (a12.Modes.length:Int)))))] ?_ fun hJ24=>Bq (!(a11.Name==a12.Name)) (fun hb48=>?_) (fun hb48=>?_)
         ·refine Z<|B4 J (fun hc6=>?_) (fun hc6=>?_)
          ·refine Y<|O<|Aa (.bool false) J An<|Z<|E1<|Fu<|Br (a:=false) (vs:=[(.bool false)]) Tryz.func12 hI J (.same _)
          refine Az<|Y<|O<|Aa (.I 0) J An<|Z<|Ba<|D2 [(2,(.q ids 0 g)),(3,(.q ids 1 g1)),(18,(.I (j5:Int))),(19,(.q ids 10 g10)),(20,(.q ids 11 g11)),(21,(.I 0))] (FI J) ?_
          refine Ee (P:=Tryz.prog) a11.Modes (fun j6 a13=>fun _=>Ow a12 j6 a13) ((De (fun _=>.ok (.inl ())) (fun r=>.ok (.inr (r)))):(Unit ⊕ Bool)→R (Unit ⊕ Bool)) (fun j6=>fun _=>fun(fr:Nat→AV) (h:Ae)=>fr=A2 [(2,(.q ids 0 g)),(3,(.q ids 1 g1)),(18,(.I (j5:Int))),(19,(.q ids 10 g10)),(20,(.q ids 11 g11)),(21,(.I (j6:Int)))]∧h=hp h0 ids [(some (.rows g 8 [(Ay a)])),(some (.rows g1 8 [(Ay b)])),none,none,none,none,none,none,none,none,(some (.rows g10 2 [(Bc a11)])),(some (.rows g11 2 [(Bc a12)]))]) () ?_ ?_ ?_
          ·exact⟨J,J⟩
          ·rintro j6 a13 ha13 W hW6 _ fr h ⟨rfl,rfl⟩
           refine Al (m':=Ow a12 j6 a13) J (Al (Ow.eq_1 _ _ _) ?_)
           refine Y<|Y<|O<|Ac 3 [10] [(370,(.sl 2 (List.map Db a11.Modes))),(368,(.I (j6:Int)))] ?_
           refine Aa (.I (a11.Modes.length:Int)) J (A4 (Bf Mq))<|Aa (.bool (decide ((j6:Int)<(a11.Modes.length:Int)))) J (Bd J J J)<|Z<|D3 (t:=370) (L:=a11.Modes) J fun hlim13=>C1 J (Int.ofNat_lt.2 (A8 ha13))<|Az<|Y ?_
           refine Ba<|Y<|C3 Fg [[],[0],[],[0,1,2],[0,1,2,3],[],[5],[],[5,6,7],[5,6,7,8],[0,1,2,3,4,5,6,7,8,9]] [(false,0),(false,1),(false,2),(false,3),(false,4),(false,5),(false,6),(false,7),(false,8),(false,9),(false,10)] (by kernel_rfl)<|Ag (.ptr (ix ids 10) g10 0 1) J J (Cc (B2 (c:=0) (off:=1) (i:=1) If J Mq J))<|Ag (.sl 2 (List.map Db a11.Modes)) J J (Au (A9 hI J J J Mq J))<|Ag (.I (j6:Int)) J J Ad<|Ag (.cp (Db a13) 0) J J (Bu (Dh Mq N8 J ha13)) ?_
           refine Ag (.agg (Db a13)) J J (Au (Cg N8 J))<|Ag (.ptr (ix ids 11) g11 0 1) J J (Cc (B2 (c:=0) (off:=1) (i:=1) If J Mq J))<|Ag (.sl 2 (List.map Db a12.Modes)) J J (Au (A9 hI J J J Mq J))<|Ag (.I (j6:Int)) J J Ad<|Ny fun a14 hz6 hx7=>Ag (.cp (Db a14) 0) J J (Bu (Dg Mq N8 J hz6 hx7))<|Ag (.agg (Db a14)) J J (Au (Cg N8 J)) ?_
           refine Ag (.bool (!((a13.Name==a14.Name)&&(a13.Places==a14.Places)))) J J (Bd (Ag5 J J) J Ahc)<|Cm<|Dy J (fun hc7=>?_) (fun hc7=>?_)
           ·refine Az<|Bo<|O<|Ac 3 [] [(21,(.I (IntKind.wrap .i64 ((j6:Int)+1))))] ?_
            refine Z<|Bp (E3 (hW6 () _ _ ⟨J,J⟩)) (.cons J (.cons J (.cons J (.cons J (.cons J (.cons (D0 (A8 ha13) hlim13) .nil))))))
           refine Y<|O<|Aa (.bool false) J An<|Z<|E1<|Fu<|E1 ?_
           refine Fu<|Br (a:=false) (vs:=[(.bool false)]) Tryz.func12 hI J (.same _)
          rintro _ fr h ⟨rfl,rfl⟩
          refine Al (E6 _ _ _)<|Y<|Y<|O<|Ac 3 [10] [(370,(.sl 2 (List.map Db a11.Modes))),(368,(.I (a11.Modes.length:Int)))] ?_
          refine Aa (.I (a11.Modes.length:Int)) J (A4 (Bf Mq))<|Aa (.bool (decide ((a11.Modes.length:Int)<(a11.Modes.length:Int)))) J (Bd J J J)<|Z<|C2 J (Int.lt_irrefl _)<|C6 J<|Bo<|O ?_
          refine Ac 3 [] [(18,(.I (IntKind.wrap .i64 ((j5:Int)+1))))] ?_
          refine Z<|Ef [(some (.rows g 8 [(Ay a)])),(some (.rows g1 8 [(Ay b)])),none,none,none,none,none,none,none,none,none,none] hI J (.keep (.keep (.keep (.keep (.keep (.keep (.keep (.keep (.keep (.keep (.drop (.drop .nil))))))))))))<|Bp (E3 (hW5 () _ _ ⟨J,J⟩)) (.cons J (.cons J (.cons (D0 (A8 ha11) hlim11) .nil)))
         ·refine A3 (t:=359) hb48 J<|Ac 8 [] [(367,(.bool true)),(366,.und),(365,.und),(364,.und),(363,.und),(362,.und),(361,.und),(360,.und)] ?_
          exact Be hJ24 (.cons J (.cons J (.cons J (.cons J (.cons J (.cons (E0 hb48) .nil))))))
         refine A3 (t:=359) hb48 J<|Ac 2 [10] [(361,(.sl 2 (List.map Db a11.Modes))),(360,(.ptr (ix ids 10) g10 0 1))] ?_
         refine Bz (tj:=359) (.I (a11.Modes.length:Int)) J J J (A4 (Bf Mq))<|Ac 2 [11] [(364,(.sl 2 (List.map Db a12.Modes))),(363,(.ptr (ix ids 11) g11 0 1))] ?_
         refine Bz (tj:=359) (.I (a12.Modes.length:Int)) J J J (A4 (Bf Mq))<|Ac 2 [] [(367,(.bool ((a11.Modes.length:Int) != (a12.Modes.length:Int)))),(366,(.bool ((a11.Modes.length:Int) != (a12.Modes.length:Int))))] ?_
         exact Be hJ24 (.cons J (.cons J (.cons J (.cons J (.cons J (.cons (Ey hb48) .nil))))))
        rintro _ fr h ⟨rfl,rfl⟩
        refine Al (E6 _ _ _)<|Y<|Y<|O<|Ac 3 [0] [(339,(.sl 2 (List.map Bc a.Airports))),(337,(.I (a.Airports.length:Int)))] ?_
        refine Aa (.I (a.Airports.length:Int)) J (A4 (Bf Mp))<|Aa (.bool (decide ((a.Airports.length:Int)<(a.Airports.length:Int)))) J (Bd J J J)<|Z<|C2 J (Int.lt_irrefl _)<|C6 J<|Y<|Y ?_
        refine O<|Aa (.I 0) J An<|Z<|Ba<|D2 [(2,(.q ids 0 g)),(3,(.q ids 1 g1)),(22,(.I 0))] (FI J)<|Ee (P:=Tryz.prog) a.Classes (fun j7 a15=>fun _=>Gk b j7 a15) ((De (fun _=>(each (fun j8 a17=>fun _=>F1 b j8 a17) 0 a.Rules ()).bind (De (fun _=>.ok true) (fun r=>.ok r))) (fun r=>.ok r)):(Unit ⊕ Bool)→R Bool) (fun j7=>fun _=>fun(fr:Nat→AV) (h:Ae)=>fr=A2 [(2,(.q ids 0 g)),(3,(.q ids 1 g1)),(22,(.I (j7:Int)))]∧h=hp h0 ids [(some (.rows g 8 [(Ay a)])),(some (.rows g1 8 [(Ay b)])),none,none,none,none,none,none,none,none,none,none]) () ?_ ?_ ?_
        ·exact⟨J,J⟩
        ·rintro j7 a15 ha15 W hW7 _ fr h ⟨rfl,rfl⟩
         refine Al (m':=Gk b j7 a15) J (Al (Gk.eq_1 _ _ _) ?_)
         refine Y<|Y<|O<|Ac 3 [0] [(388,(.sl 4 (List.map B7 a.Classes))),(386,(.I (j7:Int)))] ?_
         refine Aa (.I (a.Classes.length:Int)) J (A4 (Bf Lq))<|Aa (.bool (decide ((j7:Int)<(a.Classes.length:Int)))) J (Bd J J J)<|Z<|D3 (t:=388) (L:=a.Classes) J fun hlim15=>C1 J (Int.ofNat_lt.2 (A8 ha15))<|Az<|Y ?_
         refine Ba<|Y<|C3 Fg [[],[0],[],[0,1,2],[0,1,2,3],[],[5],[],[5,6,7],[5,6,7,8],[0,1,2,3,4,5,6,7,8,9]] [(false,0),(false,1),(false,2),(false,3),(false,4),(false,5),(false,6),(false,7),(false,8),(false,9),(false,10)] (by kernel_rfl)<|Ag (.ptr (ix ids 0) g 0 6) J J (Cc (B2 (c:=0) (off:=6) (i:=6) Ei J Lq J))<|Ag (.sl 4 (List.map B7 a.Classes)) J J (Au (A9 hI J J J Lq J))<|Ag (.I (j7:Int)) J J Ad<|Ag (.cp (B7 a15) 0) J J (Bu (Dh Lq Ls J ha15)) ?_
         refine Ag (.agg (B7 a15)) J J (Au (Cg Ls J))<|Ag (.ptr (ix ids 1) g1 0 6) J J (Cc (B2 (c:=0) (off:=6) (i:=6) Ei J Lq J))<|Ag (.sl 4 (List.map B7 b.Classes)) J J (Au (A9 hI J J J Lq J))<|Ag (.I (j7:Int)) J J Ad<|Ny fun a16 hz7 hx8=>Ag (.cp (B7 a16) 0) J J (Bu (Dg Lq Ls J hz7 hx8))<|Ag (.agg (B7 a16)) J J (Au (Cg Ls J)) ?_
         refine Ag (.bool (!((a15.Name==a16.Name)&&((a15.Slow==a16.Slow)&&((a15.Fast==a16.Fast)&&(a15.Places==a16.Places)))))) J J (Bd (Aij J J) J Ahn)<|Cm<|Dy J (fun hc8=>?_) (fun hc8=>?_)
         ·refine Az<|Bo<|O<|Ac 3 [] [(22,(.I (IntKind.wrap .i64 ((j7:Int)+1))))] ?_
          refine Z<|Bp (E3 (hW7 () _ _ ⟨J,J⟩)) (.cons J (.cons J (.cons (D0 (A8 ha15) hlim15) .nil)))
         refine Y<|O<|Aa (.bool false) J An<|Z<|E1<|Fu<|Br (a:=false) (vs:=[(.bool false)]) Tryz.func12 hI J (.same _)
        rintro _ fr h ⟨rfl,rfl⟩
        refine Al (E6 _ _ _)<|Y<|Y<|O<|Ac 3 [0] [(388,(.sl 4 (List.map B7 a.Classes))),(386,(.I (a.Classes.length:Int)))] ?_
        refine Aa (.I (a.Classes.length:Int)) J (A4 (Bf Lq))<|Aa (.bool (decide ((a.Classes.length:Int)<(a.Classes.length:Int)))) J (Bd J J J)<|Z<|C2 J (Int.lt_irrefl _)<|C6 J<|Y<|Y ?_
        refine O<|Aa (.I 0) J An<|Z<|Ba<|D2 [(2,(.q ids 0 g)),(3,(.q ids 1 g1)),(23,(.I 0))] (FI J)<|Ee (P:=Tryz.prog) a.Rules (fun j8 a17=>fun _=>F1 b j8 a17) ((De (fun _=>.ok true) (fun r=>.ok r)):(Unit ⊕ Bool)→R Bool) (fun j8=>fun _=>fun(fr:Nat→AV) (h:Ae)=>fr=A2 [(2,(.q ids 0 g)),(3,(.q ids 1 g1)),(23,(.I (j8:Int)))]∧h=hp h0 ids [(some (.rows g 8 [(Ay a)])),(some (.rows g1 8 [(Ay b)])),none,none,none,none,none,none,none,none,none,none]) () ?_ ?_ ?_
        ·exact⟨J,J⟩
        ·rintro j8 a17 ha17 W hW8 _ fr h ⟨rfl,rfl⟩
         refine Al (m':=F1 b j8 a17) J (Al (F1.eq_1 _ _ _) ?_)
         refine Y<|Y<|O<|Ac 3 [0] [(406,(.sl 8 (List.map A5 a.Rules))),(404,(.I (j8:Int)))] ?_
         refine Aa (.I (a.Rules.length:Int)) J (A4 (Bf E9))<|Aa (.bool (decide ((j8:Int)<(a.Rules.length:Int)))) J (Bd J J J)<|Z<|D3 (t:=406) (L:=a.Rules) J fun hlim17=>C1 J (Int.ofNat_lt.2 (A8 ha17))<|Az<|Y ?_
         refine Ba<|Y<|C3 Fg [[],[0],[],[0,1,2],[0,1,2,3],[],[5],[],[5,6,7],[5,6,7,8],[0,1,2,3,4,5,6,7,8,9]] [(false,0),(false,1),(false,2),(false,3),(false,4),(false,5),(false,6),(false,7),(false,8),(false,9),(false,10)] (by kernel_rfl)<|Ag (.ptr (ix ids 0) g 0 7) J J (Cc (B2 (c:=0) (off:=7) (i:=7) Ei J E9 J))<|Ag (.sl 8 (List.map A5 a.Rules)) J J (Au (A9 hI J J J E9 J))<|Ag (.I (j8:Int)) J J Ad<|Ag (.cp (A5 a17) 0) J J (Bu (Dh E9 Dn J ha17)) ?_
         refine Ag (.agg (A5 a17)) J J (Au (Cg Dn J))<|Ag (.ptr (ix ids 1) g1 0 7) J J (Cc (B2 (c:=0) (off:=7) (i:=7) Ei J E9 J))<|Ag (.sl 8 (List.map A5 b.Rules)) J J (Au (A9 hI J J J E9 J))<|Ag (.I (j8:Int)) J J Ad<|Ny fun a18 hz8 hx9=>Ag (.cp (A5 a18) 0) J J (Bu (Dg E9 Dn J hz8 hx9))<|Ag (.agg (A5 a18)) J J (Au (Cg Dn J)) ?_
         refine Ag (.bool (!((a17.Kind==a18.Kind)&&((a17.C==a18.C)&&((a17.A==a18.A)&&((a17.Class==a18.Class)&&((a17.Airport==a18.Airport)&&((a17.N==a18.N)&&((a17.Hours.From==a18.Hours.From)&&(a17.Hours.To==a18.Hours.To)))))))))) J J (Bd (Ad5 J J) J Ad4)<|Cm<|Dy J (fun hc9=>?_) (fun hc9=>?_)
         ·refine Az<|Bo<|O<|Ac 3 [] [(23,(.I (IntKind.wrap .i64 ((j8:Int)+1))))] ?_
          refine Z<|Bp (E3 (hW8 () _ _ ⟨J,J⟩)) (.cons J (.cons J (.cons (D0 (A8 ha17) hlim17) .nil)))
         refine Y<|O<|Aa (.bool false) J An<|Z<|E1<|Fu<|Br (a:=false) (vs:=[(.bool false)]) Tryz.func12 hI J (.same _)
        rintro _ fr h ⟨rfl,rfl⟩
        refine Al (E6 _ _ _)<|Y<|Y<|O<|Ac 3 [0] [(406,(.sl 8 (List.map A5 a.Rules))),(404,(.I (a.Rules.length:Int)))] ?_
        refine Aa (.I (a.Rules.length:Int)) J (A4 (Bf E9))<|Aa (.bool (decide ((a.Rules.length:Int)<(a.Rules.length:Int)))) J (Bd J J J)<|Z<|C2 J (Int.lt_irrefl _)<|C6 J<|Y<|O ?_
        refine Aa (.bool true) J An<|Z<|Br (a:=true) (vs:=[(.bool true)]) Tryz.func12 hI J (.same _)
       ·refine A3 (t:=85) hb13 J<|Ac 8 [] [(93,(.bool true))] ?_
        exact Be hJ6 (.cons J (.cons J (.cons (E0 hb13) .nil)))
       refine A3 (t:=85) hb13 J<|Ac 2 [0] [(87,(.sl 8 (List.map A5 a.Rules)))] ?_
       refine Bz (tj:=85) (.I (a.Rules.length:Int)) J J J (A4 (Bf E9))<|Ac 2 [1] [(90,(.sl 8 (List.map A5 b.Rules)))] ?_
       refine Bz (tj:=85) (.I (b.Rules.length:Int)) J J J (A4 (Bf E9))<|Ac 2 [] [(93,(.bool ((a.Rules.length:Int) != (b.Rules.length:Int))))] ?_
       exact Be hJ6 (.cons J (.cons J (.cons (Ey hb13) .nil)))
      ·refine A3 (t:=76) hb11 J<|Ac 8 [] [(84,(.bool true))] ?_
       exact Be hJ5 (.cons J (.cons J (.cons (E0 hb11) .nil)))
      refine A3 (t:=76) hb11 J<|Ac 2 [0] [(78,(.sl 4 (List.map B7 a.Classes)))] ?_
      refine Bz (tj:=76) (.I (a.Classes.length:Int)) J J J (A4 (Bf Lq))<|Ac 2 [1] [(81,(.sl 4 (List.map B7 b.Classes)))] ?_
      refine Bz (tj:=76) (.I (b.Classes.length:Int)) J J J (A4 (Bf Lq))<|Ac 2 [] [(84,(.bool ((a.Classes.length:Int) != (b.Classes.length:Int))))] ?_
      exact Be hJ5 (.cons J (.cons J (.cons (Ey hb11) .nil)))
     ·refine A3 (t:=67) hb9 J<|Ac 8 [] [(75,(.bool true))] ?_
      exact Be hJ4 (.cons J (.cons J (.cons (E0 hb9) .nil)))
     refine A3 (t:=67) hb9 J<|Ac 2 [0] [(69,(.sl 2 (List.map Bc a.Airports)))] ?_
     refine Bz (tj:=67) (.I (a.Airports.length:Int)) J J J (A4 (Bf Mp))<|Ac 2 [1] [(72,(.sl 2 (List.map Bc b.Airports)))] ?_
     refine Bz (tj:=67) (.I (b.Airports.length:Int)) J J J (A4 (Bf Mp))<|Ac 2 [] [(75,(.bool ((a.Airports.length:Int) != (b.Airports.length:Int))))] ?_
     exact Be hJ4 (.cons J (.cons J (.cons (Ey hb9) .nil)))
    ·refine A3 (t:=58) hb7 J<|Ac 8 [] [(66,(.bool true))] ?_
     exact Be hJ3 (.cons J (.cons J (.cons (E0 hb7) .nil)))
    refine A3 (t:=58) hb7 J<|Ac 2 [0] [(60,(.sl 7 (List.map Bs a.Routes)))] ?_
    refine Bz (tj:=58) (.I (a.Routes.length:Int)) J J J (A4 (Bf Mx))<|Ac 2 [1] [(63,(.sl 7 (List.map Bs b.Routes)))] ?_
    refine Bz (tj:=58) (.I (b.Routes.length:Int)) J J J (A4 (Bf Mx))<|Ac 2 [] [(66,(.bool ((a.Routes.length:Int) != (b.Routes.length:Int))))] ?_
    exact Be hJ3 (.cons J (.cons J (.cons (Ey hb7) .nil)))
   ·refine A3 (t:=49) hb5 J<|Ac 8 [] [(57,(.bool true))] ?_
    exact Be hJ2 (.cons J (.cons J (.cons (E0 hb5) .nil)))
   refine A3 (t:=49) hb5 J<|Ac 2 [0] [(51,(.sl 5 (List.map Bg a.Segments)))] ?_
   refine Bz (tj:=49) (.I (a.Segments.length:Int)) J J J (A4 (Bf Mw))<|Ac 2 [1] [(54,(.sl 5 (List.map Bg b.Segments)))] ?_
   refine Bz (tj:=49) (.I (b.Segments.length:Int)) J J J (A4 (Bf Mw))<|Ac 2 [] [(57,(.bool ((a.Segments.length:Int) != (b.Segments.length:Int))))] ?_
   exact Be hJ2 (.cons J (.cons J (.cons (Ey hb5) .nil)))
  ·refine A3 (t:=40) hb3 J<|Ac 8 [] [(48,(.bool true))] ?_
   exact Be hJ1 (.cons J (.cons J (.cons (E0 hb3) .nil)))
  refine A3 (t:=40) hb3 J<|Ac 2 [0] [(42,(.sl 3 (List.map Bm a.Configs)))] ?_
  refine Bz (tj:=40) (.I (a.Configs.length:Int)) J J J (A4 (Bf My))<|Ac 2 [1] [(45,(.sl 3 (List.map Bm b.Configs)))] ?_
  refine Bz (tj:=40) (.I (b.Configs.length:Int)) J J J (A4 (Bf My))<|Ac 2 [] [(48,(.bool ((a.Configs.length:Int) != (b.Configs.length:Int))))] ?_
  exact Be hJ1 (.cons J (.cons J (.cons (Ey hb3) .nil)))
 ·refine A3 (t:=31) hb1 J<|Ac 8 [] [(39,(.bool true))] ?_
  exact Be hJ (.cons J (.cons J (.cons (E0 hb1) .nil)))
 refine A3 (t:=31) hb1 J<|Ac 2 [0] [(33,(.sl 5 (List.map A7 a.Sectors)))] ?_
 refine Bz (tj:=31) (.I (a.Sectors.length:Int)) J J J (A4 (Bf Lo))<|Ac 2 [1] [(36,(.sl 5 (List.map A7 b.Sectors)))] ?_
 refine Bz (tj:=31) (.I (b.Sectors.length:Int)) J J J (A4 (Bf Lo))<|Ac 2 [] [(39,(.bool ((a.Sectors.length:Int) != (b.Sectors.length:Int))))] ?_
 exact Be hJ (.cons J (.cons J (.cons (Ey hb1) .nil)))
theorem Q2 (s1:List Span)(s2:List Span):CP Tryz.prog 64 [(.sl 2 (List.map B5 s1)),(.sl 2 (List.map B5 s2))] (Nn s1 s2) (fun(x:Bool)=>(AV.bool x)):=by
 refine Cq (n:=26) 0 Tryz.func64 J (by decide) J J fun h0 ids hI=>Bl (Al (Nn.eq_1 _ _) ?_)
 refine Y<|O<|Aa (.bool false) J An<|Z<|Y<|Y<|O ?_
 refine Aa (.sl 2 (List.map B5 s1)) J Ad<|Aa (.I (s1.length:Int)) J (A4 (Bf Lj))<|Aa (.sl 2 (List.map B5 s2)) J Ad<|Aa (.I (s2.length:Int)) J (A4 (Bf Lj))<|Aa (.bool ((s1.length:Int) != (s2.length:Int))) J (Bd J J J)<|Z<|B4 J (fun hc=>?_) (fun hc=>?_)
 ·refine Y<|O<|Aa (.bool false) J An<|Z<|Br (a:=false) (vs:=[(.bool false)]) Tryz.func64 hI J (.same _)
 refine Az<|Y<|Y<|O<|Aa (.sl 2 (List.map B5 s1)) J Ad<|Aa (.I (s1.length:Int)) J (A4 (Bf Lj))<|Aa (.I 0) J Ad ?_
 refine Z<|Ba<|D2 [(0,(.sl 2 (List.map B5 s1))),(1,(.sl 2 (List.map B5 s2))),(12,(.I (s1.length:Int))),(13,(.I 0))] (FI J)<|Ee (P:=Tryz.prog) s1 (fun j a=>fun _=>Mh s2 j a) ((De (fun _=>.ok true) (fun r=>.ok r)):(Unit ⊕ Bool)→R Bool) (fun j=>fun _=>fun(fr:Nat→AV) (h:Ae)=>fr=A2 [(0,(.sl 2 (List.map B5 s1))),(1,(.sl 2 (List.map B5 s2))),(12,(.I (s1.length:Int))),(13,(.I (j:Int)))]∧h=hp h0 ids []) () ?_ ?_ ?_
 ·exact⟨J,J⟩
 ·rintro j a ha W hW _ fr h ⟨rfl,rfl⟩
  refine Al (m':=Mh s2 j a) J (Al (Mh.eq_1 _ _ _) ?_)
  refine Y<|O<|Aa (.bool (decide ((j:Int)<(s1.length:Int)))) J (Bd J J J)<|Z<|Y<|D3 (t:=0) (L:=s1) J fun hlim=>C1 J (Int.ofNat_lt.2 (A8 ha)) ?_
  refine Az<|Y<|Ba<|Y<|O<|Ac 2 [] [(5,(.I (j:Int)))] ?_
  refine Z<|Y<|C3 Fg [[],[],[0,1],[0,1,2],[],[],[4,5],[4,5,6],[0,1,2,3,4,5,6,7]] [(false,0),(false,1),(false,2),(false,3),(false,4),(false,5),(false,6),(false,7),(false,8)] (by kernel_rfl)<|Ag (.sl 2 (List.map B5 s1)) J J Ad<|Ag (.I (j:Int)) J J Ad<|Ag (.cp (B5 a) 0) J J (Bu (Dh Lj Kl J ha))<|Ag (.agg (B5 a)) J J (Au (Cg Kl J)) ?_
  refine Ag (.sl 2 (List.map B5 s2)) J J Ad<|Ag (.I (j:Int)) J J Ad<|Ny fun a1 hz hx1=>Ag (.cp (B5 a1) 0) J J (Bu (Dg Lj Kl J hz hx1))<|Ag (.agg (B5 a1)) J J (Au (Cg Kl J))<|Ag (.bool (!((a.From==a1.From)&&(a.To==a1.To)))) J J (Bd (Aii J J) J Ahe)<|Cm ?_
  refine Dy J (fun hc1=>?_) (fun hc1=>?_)
  ·refine Az<|Bo<|O<|Ac 2 [] [(13,(.I (IntKind.wrap .i64 ((j:Int)+1))))] ?_
   refine Z<|Bp (E3 (hW () _ _ ⟨J,J⟩)) (.cons J (.cons J (.cons J (.cons (D0 (A8 ha) hlim) .nil))))
  refine Y<|O<|Aa (.bool false) J An<|Z<|E1<|Fu<|Br (a:=false) (vs:=[(.bool false)]) Tryz.func64 hI J (.same _)
 rintro _ fr h ⟨rfl,rfl⟩
 refine Al (E6 _ _ _)<|Y<|O<|Aa (.bool (decide ((s1.length:Int)<(s1.length:Int)))) J (Bd J J J)<|Z<|Y<|C2 J (Int.lt_irrefl _) ?_
 refine C6 J<|Y<|O<|Aa (.bool true) J An<|Z<|Br (a:=true) (vs:=[(.bool true)]) Tryz.func64 hI J (.same _)
end Go.Am
namespace Go.Am
open Go Go.Proofs
set_option maxRecDepth 100000
set_option maxHeartbeats 4000000
set_option linter.unusedSimpArgs false
set_option linter.unusedVariables false
theorem Yz (a:Volume)(y:Volume):CP Tryz.prog 63 [(.agg (As a)),(.agg (As y))] (Rw a y) (fun(x:Bool)=>(AV.bool x)):=by
 refine Cq (n:=17) 2 Tryz.func63 J (by decide) J J fun h0 ids hI=>Bl (Al (Rw.eq_1 _ _) ?_)
 refine Y<|O<|Ck (v:=(.agg (As a))) (j:=0) hI J J J J J J J fun g=>Ck (v:=(.agg (As y))) (j:=1) hI J J J J J J J fun g1=>Aa (.bool false) J An<|Z<|Aj ?_
 refine Y<|O<|Ac 6 [0,1] [(10,(.bool (a.Name==y.Name)))] ?_
 refine C5 6 ((fun(b:Bool)=>.ok b):Bool→R Bool) (fun(b:Bool) (fr:Nat→AV) (h:Ae)=>fr=A2 [(16,(.bool b))]∧h=hp h0 ids [(some (.rows g 2 [(As a)])),(some (.rows g1 2 [(As y)]))]) ?_ fun hJ=>Du (fun hb1=>?_) (fun hb1=>?_)
 ·rintro b fr h ⟨rfl,rfl⟩
  refine Aa (.bool b) J An<|Z<|Br (a:=b) (vs:=[(.bool b)]) Tryz.func63 hI J (.same _)
 ·refine A3 (t:=10) hb1 J<|Ac 4 [0,1] [(14,(.sl 2 (List.map B5 y.Closed))),(12,(.sl 2 (List.map B5 a.Closed)))] ?_
  refine Bw [(.sl 2 (List.map B5 a.Closed)),(.sl 2 (List.map B5 y.Closed))] J (Ch (tj:=10) J J) J J ((Q2 a.Closed y.Closed) _) (fun v _=>B9 Tryz.func63 hI) fun r _=>Aa (.bool r) J (Fd (t:=true) J J)<|Bk<|Cb [(16,(.bool r))] (FI J)<|hJ r _ _ ⟨J,J⟩
 refine A3 (t:=10) hb1 J<|Ac 6 [] [(16,(.bool false))] ?_
 refine Bk<|Cb [(16,(.bool false))] (FI J)<|hJ false _ _ ⟨J,J⟩
theorem Lc (s1:List Volume)(s2:List Volume):CP Tryz.prog 62 [(.sl 2 (List.map As s1)),(.sl 2 (List.map As s2)),(.func (.func 63) [] [])] (Eo s1 s2) (fun(x:Bool)=>(AV.bool x)):=by
 refine Cq (n:=32) 2 Tryz.func62 J (by decide) J J fun h0 ids hI=>Bl (Al (Eo.eq_1 _ _) ?_)
 refine Y<|O<|Aa (.bool false) J An<|Z<|Y<|Y<|O ?_
 refine Aa (.sl 2 (List.map As s1)) J Ad<|Aa (.I (s1.length:Int)) J (A4 (Bf Ii))<|Aa (.sl 2 (List.map As s2)) J Ad<|Aa (.I (s2.length:Int)) J (A4 (Bf Ii))<|Aa (.bool ((s1.length:Int) != (s2.length:Int))) J (Bd J J J)<|Z<|B4 J (fun hc=>?_) (fun hc=>?_)
 ·refine Y<|O<|Aa (.bool false) J An<|Z<|Br (a:=false) (vs:=[(.bool false)]) Tryz.func62 hI J (.same _)
 refine Az<|Y<|Y<|O<|Aa (.sl 2 (List.map As s1)) J Ad<|Aa (.I (s1.length:Int)) J (A4 (Bf Ii))<|Aa (.I 0) J Ad ?_
 refine Z<|Ba<|D2 [(1,(.sl 2 (List.map As s2))),(2,(.func (.func 63) [] [])),(15,(.sl 2 (List.map As s1))),(16,(.I (s1.length:Int))),(17,(.I 0))] (FI J)<|Ee (P:=Tryz.prog) s1 (fun j a=>fun _=>Dp s2 j a) ((De (fun _=>.ok true) (fun r=>.ok r)):(Unit ⊕ Bool)→R Bool) (fun j=>fun _=>fun(fr:Nat→AV) (h:Ae)=>fr=A2 [(1,(.sl 2 (List.map As s2))),(2,(.func (.func 63) [] [])),(15,(.sl 2 (List.map As s1))),(16,(.I (s1.length:Int))),(17,(.I (j:Int)))]∧h=hp h0 ids [none,none]) () ?_ ?_ ?_
 ·exact⟨J,J⟩
 ·rintro j a ha W hW _ fr h ⟨rfl,rfl⟩
  refine Al (m':=Dp s2 j a) J (Al (Dp.eq_1 _ _ _) ?_)
  refine Y<|O<|Aa (.bool (decide ((j:Int)<(s1.length:Int)))) J (Bd J J J)<|Z<|Y<|D3 (t:=15) (L:=s1) J fun hlim=>C1 J (Int.ofNat_lt.2 (A8 ha)) ?_
  refine Az<|Y<|Ba<|Y<|O<|Aa (.I (j:Int)) J Ad<|Aa (.cp (As a) 0) J (Bu (Dh Ii Jd J ha)) ?_
  refine Aa (.agg (As a)) J (Au (Cg Jd J))<|Bb (j:=0) hI J J J J Jd J fun g=>Aa (.I (j:Int)) J An<|Ar (Ax (v:=(.agg (As a))) hI J J J J Jd J J J J J)<|Z<|Aj ?_
  refine Y<|O<|Ac 2 [] [(23,(.I (j:Int))),(22,(.sl 2 (List.map As s2)))] ?_
  refine Eb fun a1 hz hx1=>Aa (.cp (As a1) 0) J (Bu (Dg Ii Jd J hz hx1))<|Aa (.agg (As a1)) J (Au (Cg Jd J))<|Bb (j:=1) hI J J J J Jd J fun g1=>Ar (Ax (v:=(.agg (As a1))) hI J J J J Jd J J J J J)<|Z<|Aj ?_
  refine Y<|O<|Ac 3 [0,1] [(28,(.agg (As a1))),(27,(.agg (As a))),(26,(.func (.func 63) [] []))] ?_
  refine Bw [(.agg (As a)),(.agg (As a1))] J J J J ((Yz a a1) _) (fun v _=>B9 Tryz.func62 hI) fun r _=>Aa (.bool (!r)) J (Ps J)<|Z<|Dy J (fun hc1=>?_) (fun hc1=>?_)
  ·refine Az<|Bo<|O<|Ac 2 [] [(17,(.I (IntKind.wrap .i64 ((j:Int)+1))))] ?_
   refine Z<|Ef [none,none] hI J (.drop (.drop .nil))<|Bp (E3 (hW () _ _ ⟨J,J⟩)) (.cons J (.cons J (.cons J (.cons J (.cons (D0 (A8 ha) hlim) .nil)))))
  refine Y<|O<|Aa (.bool false) J An<|Z<|E1<|Fu<|Br (a:=false) (vs:=[(.bool false)]) Tryz.func62 hI J (.same _)
 rintro _ fr h ⟨rfl,rfl⟩
 refine Al (E6 _ _ _)<|Y<|O<|Aa (.bool (decide ((s1.length:Int)<(s1.length:Int)))) J (Bd J J J)<|Z<|Y<|C2 J (Int.lt_irrefl _) ?_
 refine C6 J<|Y<|O<|Aa (.bool true) J An<|Z<|Br (a:=true) (vs:=[(.bool true)]) Tryz.func62 hI J (.same _)
theorem Nf (s1:List Aw)(s2:List Aw):CP Tryz.prog 67 [(.sl 1 (List.map rS s1)),(.sl 1 (List.map rS s2))] (Ky s1 s2) (fun(x:Bool)=>(AV.bool x)):=by
 refine Cq (n:=26) 0 Tryz.func67 J (by decide) J J fun h0 ids hI=>Bl (Al (Ky.eq_1 _ _) ?_)
 refine Y<|O<|Aa (.bool false) J An<|Z<|Y<|Y<|O ?_
 refine Aa (.sl 1 (List.map rS s1)) J Ad<|Aa (.I (s1.length:Int)) J (A4 (Bf Do))<|Aa (.sl 1 (List.map rS s2)) J Ad<|Aa (.I (s2.length:Int)) J (A4 (Bf Do))<|Aa (.bool ((s1.length:Int) != (s2.length:Int))) J (Bd J J J)<|Z<|B4 J (fun hc=>?_) (fun hc=>?_)
 ·refine Y<|O<|Aa (.bool false) J An<|Z<|Br (a:=false) (vs:=[(.bool false)]) Tryz.func67 hI J (.same _)
 refine Az<|Y<|Y<|O<|Aa (.sl 1 (List.map rS s1)) J Ad<|Aa (.I (s1.length:Int)) J (A4 (Bf Do))<|Aa (.I 0) J Ad ?_
 refine Z<|Ba<|D2 [(0,(.sl 1 (List.map rS s1))),(1,(.sl 1 (List.map rS s2))),(12,(.I (s1.length:Int))),(13,(.I 0))] (FI J)<|Ee (P:=Tryz.prog) s1 (fun j a=>fun _=>Ld s2 j a) ((De (fun _=>.ok true) (fun r=>.ok r)):(Unit ⊕ Bool)→R Bool) (fun j=>fun _=>fun(fr:Nat→AV) (h:Ae)=>fr=A2 [(0,(.sl 1 (List.map rS s1))),(1,(.sl 1 (List.map rS s2))),(12,(.I (s1.length:Int))),(13,(.I (j:Int)))]∧h=hp h0 ids []) () ?_ ?_ ?_
 ·exact⟨J,J⟩
 ·rintro j a ha W hW _ fr h ⟨rfl,rfl⟩
  refine Al (m':=Ld s2 j a) J (Al (Ld.eq_1 _ _ _) ?_)
  refine Y<|O<|Aa (.bool (decide ((j:Int)<(s1.length:Int)))) J (Bd J J J)<|Z<|Y<|D3 (t:=0) (L:=s1) J fun hlim=>C1 J (Int.ofNat_lt.2 (A8 ha)) ?_
  refine Az<|Y<|Ba<|Y<|O<|Ac 2 [] [(5,(.I (j:Int)))] ?_
  refine Z<|Y<|C3 Fg [[],[],[0,1],[0,1,2],[],[],[4,5],[4,5,6],[0,1,2,3,4,5,6,7]] [(false,0),(false,1),(false,2),(false,3),(false,4),(false,5),(false,6),(false,7),(false,8)] (by kernel_rfl)<|Ag (.sl 1 (List.map rS s1)) J J Ad<|Ag (.I (j:Int)) J J Ad<|Ag (.cp [(.str a)] 0) J J (Bu (Dh Do Cl J ha))<|Ag (.str a) J J (Au (Cg Cl J)) ?_
  refine Ag (.sl 1 (List.map rS s2)) J J Ad<|Ag (.I (j:Int)) J J Ad<|Ny fun a1 hz hx1=>Ag (.cp [(.str a1)] 0) J J (Bu (Dg Do Cl J hz hx1))<|Ag (.str a1) J J (Au (Cg Cl J))<|Ag (.bool (!(a==a1))) J J (Bd J J J)<|Cm ?_
  refine Dy J (fun hc1=>?_) (fun hc1=>?_)
  ·refine Az<|Bo<|O<|Ac 2 [] [(13,(.I (IntKind.wrap .i64 ((j:Int)+1))))] ?_
   refine Z<|Bp (E3 (hW () _ _ ⟨J,J⟩)) (.cons J (.cons J (.cons J (.cons (D0 (A8 ha) hlim) .nil))))
  refine Y<|O<|Aa (.bool false) J An<|Z<|E1<|Fu<|Br (a:=false) (vs:=[(.bool false)]) Tryz.func67 hI J (.same _)
 rintro _ fr h ⟨rfl,rfl⟩
 refine Al (E6 _ _ _)<|Y<|O<|Aa (.bool (decide ((s1.length:Int)<(s1.length:Int)))) J (Bd J J J)<|Z<|Y<|C2 J (Int.lt_irrefl _) ?_
 refine C6 J<|Y<|O<|Aa (.bool true) J An<|Z<|Br (a:=true) (vs:=[(.bool true)]) Tryz.func67 hI J (.same _)
theorem O3 (s1:List Int)(s2:List Int):CP Tryz.prog 68 [(.sl 1 (List.map (rI .i64) s1)),(.sl 1 (List.map (rI .i64) s2))] (Hk s1 s2) (fun(x:Bool)=>(AV.bool x)):=by
 refine Cq (n:=26) 0 Tryz.func68 J (by decide) J J fun h0 ids hI=>Bl (Al (Hk.eq_1 _ _) ?_)
 refine Y<|O<|Aa (.bool false) J An<|Z<|Y<|Y<|O ?_
 refine Aa (.sl 1 (List.map (rI .i64) s1)) J Ad<|Aa (.I (s1.length:Int)) J (A4 (Bf O9))<|Aa (.sl 1 (List.map (rI .i64) s2)) J Ad<|Aa (.I (s2.length:Int)) J (A4 (Bf O9))<|Aa (.bool ((s1.length:Int) != (s2.length:Int))) J (Bd J J J)<|Z<|B4 J (fun hc=>?_) (fun hc=>?_)
 ·refine Y<|O<|Aa (.bool false) J An<|Z<|Br (a:=false) (vs:=[(.bool false)]) Tryz.func68 hI J (.same _)
 refine Az<|Y<|Y<|O<|Aa (.sl 1 (List.map (rI .i64) s1)) J Ad<|Aa (.I (s1.length:Int)) J (A4 (Bf O9))<|Aa (.I 0) J Ad ?_
 refine Z<|Ba<|D2 [(0,(.sl 1 (List.map (rI .i64) s1))),(1,(.sl 1 (List.map (rI .i64) s2))),(12,(.I (s1.length:Int))),(13,(.I 0))] (FI J)<|Ee (P:=Tryz.prog) s1 (fun j a=>fun _=>Mv s2 j a) ((De (fun _=>.ok true) (fun r=>.ok r)):(Unit ⊕ Bool)→R Bool) (fun j=>fun _=>fun(fr:Nat→AV) (h:Ae)=>fr=A2 [(0,(.sl 1 (List.map (rI .i64) s1))),(1,(.sl 1 (List.map (rI .i64) s2))),(12,(.I (s1.length:Int))),(13,(.I (j:Int)))]∧h=hp h0 ids []) () ?_ ?_ ?_
 ·exact⟨J,J⟩
 ·rintro j a ha W hW _ fr h ⟨rfl,rfl⟩
  refine Al (m':=Mv s2 j a) J (Al (Mv.eq_1 _ _ _) ?_)
  refine Y<|O<|Aa (.bool (decide ((j:Int)<(s1.length:Int)))) J (Bd J J J)<|Z<|Y<|D3 (t:=0) (L:=s1) J fun hlim=>C1 J (Int.ofNat_lt.2 (A8 ha)) ?_
  refine Az<|Y<|Ba<|Y<|O<|Ac 2 [] [(5,(.I (j:Int)))] ?_
  refine Z<|Y<|C3 Fg [[],[],[0,1],[0,1,2],[],[],[4,5],[4,5,6],[0,1,2,3,4,5,6,7]] [(false,0),(false,1),(false,2),(false,3),(false,4),(false,5),(false,6),(false,7),(false,8)] (by kernel_rfl)<|Ag (.sl 1 (List.map (rI .i64) s1)) J J Ad<|Ag (.I (j:Int)) J J Ad<|Ag (.cp [(.I a)] 0) J J (Bu (Dh O9 Ds J ha))<|Ag (.I a) J J (Au (Cg Ds J)) ?_
  refine Ag (.sl 1 (List.map (rI .i64) s2)) J J Ad<|Ag (.I (j:Int)) J J Ad<|Ny fun a1 hz hx1=>Ag (.cp [(.I a1)] 0) J J (Bu (Dg O9 Ds J hz hx1))<|Ag (.I a1) J J (Au (Cg Ds J))<|Ag (.bool (a != a1)) J J (Bd J J J)<|Cm ?_
  refine B4 J (fun hc1=>?_) (fun hc1=>?_)
  ·refine Y<|O<|Aa (.bool false) J An<|Z<|E1<|Fu<|Br (a:=false) (vs:=[(.bool false)]) Tryz.func68 hI J (.same _)
  refine Az<|Bo<|O<|Ac 2 [] [(13,(.I (IntKind.wrap .i64 ((j:Int)+1))))] ?_
  refine Z<|Bp (E3 (hW () _ _ ⟨J,J⟩)) (.cons J (.cons J (.cons J (.cons (D0 (A8 ha) hlim) .nil))))
 rintro _ fr h ⟨rfl,rfl⟩
 refine Al (E6 _ _ _)<|Y<|O<|Aa (.bool (decide ((s1.length:Int)<(s1.length:Int)))) J (Bd J J J)<|Z<|Y<|C2 J (Int.lt_irrefl _) ?_
 refine C6 J<|Y<|O<|Aa (.bool true) J An<|Z<|Br (a:=true) (vs:=[(.bool true)]) Tryz.func68 hI J (.same _)
theorem Y3 (a:Sector)(y:Sector):CP Tryz.prog 66 [(.agg (A7 a)),(.agg (A7 y))] (Sb a y) (fun(x:Bool)=>(AV.bool x)):=by
 refine Cq (n:=38) 2 Tryz.func66 J (by decide) J J fun h0 ids hI=>Bl (Al (Sb.eq_1 _ _) ?_)
 refine Y<|O<|Ck (v:=(.agg (A7 a))) (j:=0) hI J J J J J J J fun g=>Ck (v:=(.agg (A7 y))) (j:=1) hI J J J J J J J fun g1=>Aa (.bool false) J An<|Z<|Aj ?_
 refine Y<|O<|Ac 6 [0,1] [(10,(.bool (a.Name==y.Name)))] ?_
 refine C5 6 ((fun(b:Bool)=>(if b then(Hk a.Volumes y.Volumes).bind fun r1=>R.ok r1 else R.ok false).bind (fun(b1:Bool)=>.ok ((b1&&(a.Radar==y.Radar))&&(a.Procedural==y.Procedural)))):Bool→R Bool) (fun(b:Bool) (fr:Nat→AV) (h:Ae)=>fr=A2 [(2,(.q ids 0 g)),(3,(.q ids 1 g1)),(16,(.bool b))]∧h=hp h0 ids [(some (.rows g 5 [(A7 a)])),(some (.rows g1 5 [(A7 y)]))]) ?_ fun hJ=>Du (fun hb1=>?_) (fun hb1=>?_)
 ·rintro b fr h ⟨rfl,rfl⟩
  refine Aa (.bool b) J Ad<|C5 6 ((fun(b1:Bool)=>.ok ((b1&&(a.Radar==y.Radar))&&(a.Procedural==y.Procedural))):Bool→R Bool) (fun(b1:Bool) (fr:Nat→AV) (h:Ae)=>fr=A2 [(2,(.q ids 0 g)),(3,(.q ids 1 g1)),(23,(.bool b1))]∧h=hp h0 ids [(some (.rows g 5 [(A7 a)])),(some (.rows g1 5 [(A7 y)]))]) ?_ fun hJ1=>Du (fun hb3=>?_) (fun hb3=>?_)
  ·rintro b1 fr h ⟨rfl,rfl⟩
   refine Aa (.bool b1) J Ad<|By 6 [(2,(.q ids 0 g)),(3,(.q ids 1 g1)),(30,(.bool (b1&&(a.Radar==y.Radar))))] ?_ fun hJ2=>Bq b1 (fun hb5=>?_) (fun hb5=>?_)
   ·refine Aa (.bool (b1&&(a.Radar==y.Radar))) J Ad<|By 6 [(37,(.bool ((b1&&(a.Radar==y.Radar))&&(a.Procedural==y.Procedural))))] ?_ fun hJ3=>Bq (b1&&(a.Radar==y.Radar)) (fun hb7=>?_) (fun hb7=>?_)
    ·refine Aa (.bool ((b1&&(a.Radar==y.Radar))&&(a.Procedural==y.Procedural))) J An<|Z<|Br (a:=((b1&&(a.Radar==y.Radar))&&(a.Procedural==y.Procedural))) (vs:=[(.bool ((b1&&(a.Radar==y.Radar))&&(a.Procedural==y.Procedural)))]) Tryz.func66 hI J (.same _)
    ·refine A3 (t:=31) hb7 J<|Ac 6 [0,1] [(37,(.bool (a.Procedural==y.Procedural)))] ?_
     exact Be hJ3 (.cons (I0 hb7) .nil)
    refine A3 (t:=31) hb7 J<|Ac 6 [] [(37,(.bool false))] ?_
    exact Be hJ3 (.cons (I6 hb7) .nil)
   ·refine A3 (t:=24) hb5 J<|Ac 6 [0,1] [(30,(.bool (a.Radar==y.Radar)))] ?_
    exact Be hJ2 (.cons J (.cons J (.cons (I0 hb5) .nil)))
   refine A3 (t:=24) hb5 J<|Ac 6 [] [(30,(.bool false))] ?_
   exact Be hJ2 (.cons J (.cons J (.cons (I6 hb5) .nil)))
  ·refine A3 (t:=17) hb3 J<|Ac 4 [0,1] [(21,(.sl 1 (List.map (rI .i64) y.Volumes))),(19,(.sl 1 (List.map (rI .i64) a.Volumes)))] ?_
   refine Bw [(.sl 1 (List.map (rI .i64) a.Volumes)),(.sl 1 (List.map (rI .i64) y.Volumes))] J (Ch (tj:=17) J J) J J ((O3 a.Volumes y.Volumes) _) (fun v _=>B9 Tryz.func66 hI) fun r1 _=>Aa (.bool r1) J (Fd (t:=true) J J)<|Bk<|Cb [(2,(.q ids 0 g)),(3,(.q ids 1 g1)),(23,(.bool r1))] (FI J)<|hJ1 r1 _ _ ⟨J,J⟩
  refine A3 (t:=17) hb3 J<|Ac 6 [] [(23,(.bool false))] ?_
  refine Bk<|Cb [(2,(.q ids 0 g)),(3,(.q ids 1 g1)),(23,(.bool false))] (FI J)<|hJ1 false _ _ ⟨J,J⟩
 ·refine A3 (t:=10) hb1 J<|Ac 4 [0,1] [(14,(.sl 1 (List.map rS y.Names))),(12,(.sl 1 (List.map rS a.Names)))] ?_
  refine Bw [(.sl 1 (List.map rS a.Names)),(.sl 1 (List.map rS y.Names))] J (Ch (tj:=10) J J) J J ((Nf a.Names y.Names) _) (fun v _=>B9 Tryz.func66 hI) fun r _=>Aa (.bool r) J (Fd (t:=true) J J)<|Bk<|Cb [(2,(.q ids 0 g)),(3,(.q ids 1 g1)),(16,(.bool r))] (FI J)<|hJ r _ _ ⟨J,J⟩
 refine A3 (t:=10) hb1 J<|Ac 6 [] [(16,(.bool false))] ?_
 refine Bk<|Cb [(2,(.q ids 0 g)),(3,(.q ids 1 g1)),(16,(.bool false))] (FI J)<|hJ false _ _ ⟨J,J⟩
theorem K8 (s1:List Sector)(s2:List Sector):CP Tryz.prog 65 [(.sl 5 (List.map A7 s1)),(.sl 5 (List.map A7 s2)),(.func (.func 66) [] [])] (En s1 s2) (fun(x:Bool)=>(AV.bool x)):=by
 refine Cq (n:=32) 2 Tryz.func65 J (by decide) J J fun h0 ids hI=>Bl (Al (En.eq_1 _ _) ?_)
 refine Y<|O<|Aa (.bool false) J An<|Z<|Y<|Y<|O ?_
 refine Aa (.sl 5 (List.map A7 s1)) J Ad<|Aa (.I (s1.length:Int)) J (A4 (Bf Lo))<|Aa (.sl 5 (List.map A7 s2)) J Ad<|Aa (.I (s2.length:Int)) J (A4 (Bf Lo))<|Aa (.bool ((s1.length:Int) != (s2.length:Int))) J (Bd J J J)<|Z<|B4 J (fun hc=>?_) (fun hc=>?_)
 ·refine Y<|O<|Aa (.bool false) J An<|Z<|Br (a:=false) (vs:=[(.bool false)]) Tryz.func65 hI J (.same _)
 refine Az<|Y<|Y<|O<|Aa (.sl 5 (List.map A7 s1)) J Ad<|Aa (.I (s1.length:Int)) J (A4 (Bf Lo))<|Aa (.I 0) J Ad ?_
 refine Z<|Ba<|D2 [(1,(.sl 5 (List.map A7 s2))),(2,(.func (.func 66) [] [])),(15,(.sl 5 (List.map A7 s1))),(16,(.I (s1.length:Int))),(17,(.I 0))] (FI J)<|Ee (P:=Tryz.prog) s1 (fun j a=>fun _=>Dq s2 j a) ((De (fun _=>.ok true) (fun r=>.ok r)):(Unit ⊕ Bool)→R Bool) (fun j=>fun _=>fun(fr:Nat→AV) (h:Ae)=>fr=A2 [(1,(.sl 5 (List.map A7 s2))),(2,(.func (.func 66) [] [])),(15,(.sl 5 (List.map A7 s1))),(16,(.I (s1.length:Int))),(17,(.I (j:Int)))]∧h=hp h0 ids [none,none]) () ?_ ?_ ?_
 ·exact⟨J,J⟩
 ·rintro j a ha W hW _ fr h ⟨rfl,rfl⟩
  refine Al (m':=Dq s2 j a) J (Al (Dq.eq_1 _ _ _) ?_)
  refine Y<|O<|Aa (.bool (decide ((j:Int)<(s1.length:Int)))) J (Bd J J J)<|Z<|Y<|D3 (t:=15) (L:=s1) J fun hlim=>C1 J (Int.ofNat_lt.2 (A8 ha)) ?_
  refine Az<|Y<|Ba<|Y<|O<|Aa (.I (j:Int)) J Ad<|Aa (.cp (A7 a) 0) J (Bu (Dh Lo Gx J ha)) ?_
  refine Aa (.agg (A7 a)) J (Au (Cg Gx J))<|Bb (j:=0) hI J J J J Gx J fun g=>Aa (.I (j:Int)) J An<|Ar (Ax (v:=(.agg (A7 a))) hI J J J J Gx J J J J J)<|Z<|Aj ?_
  refine Y<|O<|Ac 2 [] [(23,(.I (j:Int))),(22,(.sl 5 (List.map A7 s2)))] ?_
  refine Eb fun a1 hz hx1=>Aa (.cp (A7 a1) 0) J (Bu (Dg Lo Gx J hz hx1))<|Aa (.agg (A7 a1)) J (Au (Cg Gx J))<|Bb (j:=1) hI J J J J Gx J fun g1=>Ar (Ax (v:=(.agg (A7 a1))) hI J J J J Gx J J J J J)<|Z<|Aj ?_
  refine Y<|O<|Ac 3 [0,1] [(28,(.agg (A7 a1))),(27,(.agg (A7 a))),(26,(.func (.func 66) [] []))] ?_
  refine Bw [(.agg (A7 a)),(.agg (A7 a1))] J J J J ((Y3 a a1) _) (fun v _=>B9 Tryz.func65 hI) fun r _=>Aa (.bool (!r)) J (Ps J)<|Z<|Dy J (fun hc1=>?_) (fun hc1=>?_)
  ·refine Az<|Bo<|O<|Ac 2 [] [(17,(.I (IntKind.wrap .i64 ((j:Int)+1))))] ?_
   refine Z<|Ef [none,none] hI J (.drop (.drop .nil))<|Bp (E3 (hW () _ _ ⟨J,J⟩)) (.cons J (.cons J (.cons J (.cons J (.cons (D0 (A8 ha) hlim) .nil)))))
  refine Y<|O<|Aa (.bool false) J An<|Z<|E1<|Fu<|Br (a:=false) (vs:=[(.bool false)]) Tryz.func65 hI J (.same _)
 rintro _ fr h ⟨rfl,rfl⟩
 refine Al (E6 _ _ _)<|Y<|O<|Aa (.bool (decide ((s1.length:Int)<(s1.length:Int)))) J (Bd J J J)<|Z<|Y<|C2 J (Int.lt_irrefl _) ?_
 refine C6 J<|Y<|O<|Aa (.bool true) J An<|Z<|Br (a:=true) (vs:=[(.bool true)]) Tryz.func65 hI J (.same _)
theorem Y0 (a:Config)(y:Config):CP Tryz.prog 70 [(.agg (Bm a)),(.agg (Bm y))] (R5 a y) (fun(x:Bool)=>(AV.bool x)):=by
 refine Cq (n:=24) 2 Tryz.func70 J (by decide) J J fun h0 ids hI=>Bl (Al (R5.eq_1 _ _) ?_)
 refine Y<|O<|Ck (v:=(.agg (Bm a))) (j:=0) hI J J J J J J J fun g=>Ck (v:=(.agg (Bm y))) (j:=1) hI J J J J J J J fun g1=>Aa (.bool false) J An<|Z<|Aj ?_
 refine Y<|O<|Ac 6 [0,1] [(10,(.bool (a.Name==y.Name)))] ?_
 refine C5 6 ((fun(b:Bool)=>(if b then(Hk a.Sectors y.Sectors).bind fun r1=>R.ok r1 else R.ok false).bind (fun(b1:Bool)=>.ok b1)):Bool→R Bool) (fun(b:Bool) (fr:Nat→AV) (h:Ae)=>fr=A2 [(2,(.q ids 0 g)),(3,(.q ids 1 g1)),(16,(.bool b))]∧h=hp h0 ids [(some (.rows g 3 [(Bm a)])),(some (.rows g1 3 [(Bm y)]))]) ?_ fun hJ=>Du (fun hb1=>?_) (fun hb1=>?_)
 ·rintro b fr h ⟨rfl,rfl⟩
  refine Aa (.bool b) J Ad<|C5 6 ((fun(b1:Bool)=>.ok b1):Bool→R Bool) (fun(b1:Bool) (fr:Nat→AV) (h:Ae)=>fr=A2 [(23,(.bool b1))]∧h=hp h0 ids [(some (.rows g 3 [(Bm a)])),(some (.rows g1 3 [(Bm y)]))]) ?_ fun hJ1=>Du (fun hb3=>?_) (fun hb3=>?_)
  ·rintro b1 fr h ⟨rfl,rfl⟩
   refine Aa (.bool b1) J An<|Z<|Br (a:=b1) (vs:=[(.bool b1)]) Tryz.func70 hI J (.same _)
  ·refine A3 (t:=17) hb3 J<|Ac 4 [0,1] [(21,(.sl 1 (List.map (rI .i64) y.Sectors))),(19,(.sl 1 (List.map (rI .i64) a.Sectors)))] ?_
   refine Bw [(.sl 1 (List.map (rI .i64) a.Sectors)),(.sl 1 (List.map (rI .i64) y.Sectors))] J (Ch (tj:=17) J J) J J ((O3 a.Sectors y.Sectors) _) (fun v _=>B9 Tryz.func70 hI) fun r1 _=>Aa (.bool r1) J (Fd (t:=true) J J)<|Bk<|Cb [(23,(.bool r1))] (FI J)<|hJ1 r1 _ _ ⟨J,J⟩
  refine A3 (t:=17) hb3 J<|Ac 6 [] [(23,(.bool false))] ?_
  refine Bk<|Cb [(23,(.bool false))] (FI J)<|hJ1 false _ _ ⟨J,J⟩
 ·refine A3 (t:=10) hb1 J<|Ac 4 [0,1] [(14,(.sl 1 (List.map rS y.Names))),(12,(.sl 1 (List.map rS a.Names)))] ?_
  refine Bw [(.sl 1 (List.map rS a.Names)),(.sl 1 (List.map rS y.Names))] J (Ch (tj:=10) J J) J J ((Nf a.Names y.Names) _) (fun v _=>B9 Tryz.func70 hI) fun r _=>Aa (.bool r) J (Fd (t:=true) J J)<|Bk<|Cb [(2,(.q ids 0 g)),(3,(.q ids 1 g1)),(16,(.bool r))] (FI J)<|hJ r _ _ ⟨J,J⟩
 refine A3 (t:=10) hb1 J<|Ac 6 [] [(16,(.bool false))] ?_
 refine Bk<|Cb [(2,(.q ids 0 g)),(3,(.q ids 1 g1)),(16,(.bool false))] (FI J)<|hJ false _ _ ⟨J,J⟩
theorem Lb (s1:List Config)(s2:List Config):CP Tryz.prog 69 [(.sl 3 (List.map Bm s1)),(.sl 3 (List.map Bm s2)),(.func (.func 70) [] [])] (Dv s1 s2) (fun(x:Bool)=>(AV.bool x)):=by
 refine Cq (n:=32) 2 Tryz.func69 J (by decide) J J fun h0 ids hI=>Bl (Al (Dv.eq_1 _ _) ?_)
 refine Y<|O<|Aa (.bool false) J An<|Z<|Y<|Y<|O ?_
 refine Aa (.sl 3 (List.map Bm s1)) J Ad<|Aa (.I (s1.length:Int)) J (A4 (Bf My))<|Aa (.sl 3 (List.map Bm s2)) J Ad<|Aa (.I (s2.length:Int)) J (A4 (Bf My))<|Aa (.bool ((s1.length:Int) != (s2.length:Int))) J (Bd J J J)<|Z<|B4 J (fun hc=>?_) (fun hc=>?_)
 ·refine Y<|O<|Aa (.bool false) J An<|Z<|Br (a:=false) (vs:=[(.bool false)]) Tryz.func69 hI J (.same _)
 refine Az<|Y<|Y<|O<|Aa (.sl 3 (List.map Bm s1)) J Ad<|Aa (.I (s1.length:Int)) J (A4 (Bf My))<|Aa (.I 0) J Ad ?_
 refine Z<|Ba<|D2 [(1,(.sl 3 (List.map Bm s2))),(2,(.func (.func 70) [] [])),(15,(.sl 3 (List.map Bm s1))),(16,(.I (s1.length:Int))),(17,(.I 0))] (FI J)<|Ee (P:=Tryz.prog) s1 (fun j a=>fun _=>Dr s2 j a) ((De (fun _=>.ok true) (fun r=>.ok r)):(Unit ⊕ Bool)→R Bool) (fun j=>fun _=>fun(fr:Nat→AV) (h:Ae)=>fr=A2 [(1,(.sl 3 (List.map Bm s2))),(2,(.func (.func 70) [] [])),(15,(.sl 3 (List.map Bm s1))),(16,(.I (s1.length:Int))),(17,(.I (j:Int)))]∧h=hp h0 ids [none,none]) () ?_ ?_ ?_
 ·exact⟨J,J⟩
 ·rintro j a ha W hW _ fr h ⟨rfl,rfl⟩
  refine Al (m':=Dr s2 j a) J (Al (Dr.eq_1 _ _ _) ?_)
  refine Y<|O<|Aa (.bool (decide ((j:Int)<(s1.length:Int)))) J (Bd J J J)<|Z<|Y<|D3 (t:=15) (L:=s1) J fun hlim=>C1 J (Int.ofNat_lt.2 (A8 ha)) ?_
  refine Az<|Y<|Ba<|Y<|O<|Aa (.I (j:Int)) J Ad<|Aa (.cp (Bm a) 0) J (Bu (Dh My J0 J ha)) ?_
  refine Aa (.agg (Bm a)) J (Au (Cg J0 J))<|Bb (j:=0) hI J J J J J0 J fun g=>Aa (.I (j:Int)) J An<|Ar (Ax (v:=(.agg (Bm a))) hI J J J J J0 J J J J J)<|Z<|Aj ?_
  refine Y<|O<|Ac 2 [] [(23,(.I (j:Int))),(22,(.sl 3 (List.map Bm s2)))] ?_
  refine Eb fun a1 hz hx1=>Aa (.cp (Bm a1) 0) J (Bu (Dg My J0 J hz hx1))<|Aa (.agg (Bm a1)) J (Au (Cg J0 J))<|Bb (j:=1) hI J J J J J0 J fun g1=>Ar (Ax (v:=(.agg (Bm a1))) hI J J J J J0 J J J J J)<|Z<|Aj ?_
  refine Y<|O<|Ac 3 [0,1] [(28,(.agg (Bm a1))),(27,(.agg (Bm a))),(26,(.func (.func 70) [] []))] ?_
  refine Bw [(.agg (Bm a)),(.agg (Bm a1))] J J J J ((Y0 a a1) _) (fun v _=>B9 Tryz.func69 hI) fun r _=>Aa (.bool (!r)) J (Ps J)<|Z<|Dy J (fun hc1=>?_) (fun hc1=>?_)
  ·refine Az<|Bo<|O<|Ac 2 [] [(17,(.I (IntKind.wrap .i64 ((j:Int)+1))))] ?_
   refine Z<|Ef [none,none] hI J (.drop (.drop .nil))<|Bp (E3 (hW () _ _ ⟨J,J⟩)) (.cons J (.cons J (.cons J (.cons J (.cons (D0 (A8 ha) hlim) .nil)))))
  refine Y<|O<|Aa (.bool false) J An<|Z<|E1<|Fu<|Br (a:=false) (vs:=[(.bool false)]) Tryz.func69 hI J (.same _)
 rintro _ fr h ⟨rfl,rfl⟩
 refine Al (E6 _ _ _)<|Y<|O<|Aa (.bool (decide ((s1.length:Int)<(s1.length:Int)))) J (Bd J J J)<|Z<|Y<|C2 J (Int.lt_irrefl _) ?_
 refine C6 J<|Y<|O<|Aa (.bool true) J An<|Z<|Br (a:=true) (vs:=[(.bool true)]) Tryz.func69 hI J (.same _)
theorem Y1 (a:Segment)(y:Segment):CP Tryz.prog 72 [(.agg (Bg a)),(.agg (Bg y))] (R2 a y) (fun(x:Bool)=>(AV.bool x)):=by
 refine Cq (n:=38) 2 Tryz.func72 J (by decide) J J fun h0 ids hI=>Bl (Al (R2.eq_1 _ _) ?_)
 refine Y<|O<|Ck (v:=(.agg (Bg a))) (j:=0) hI J J J J J J J fun g=>Ck (v:=(.agg (Bg y))) (j:=1) hI J J J J J J J fun g1=>Aa (.bool false) J An<|Z<|Aj ?_
 refine Y<|O<|Ac 6 [0,1] [(10,(.bool (a.Name==y.Name)))] ?_
 refine By 6 [(2,(.q ids 0 g)),(3,(.q ids 1 g1)),(16,(.bool ((a.Name==y.Name)&&(a.In==y.In))))] ?_ fun hJ=>Bq (a.Name==y.Name) (fun hb1=>?_) (fun hb1=>?_)
 ·refine Aa (.bool ((a.Name==y.Name)&&(a.In==y.In))) J Ad<|By 6 [(2,(.q ids 0 g)),(3,(.q ids 1 g1)),(23,(.bool (((a.Name==y.Name)&&(a.In==y.In))&&(a.Volume==y.Volume))))] ?_ fun hJ1=>Bq ((a.Name==y.Name)&&(a.In==y.In)) (fun hb3=>?_) (fun hb3=>?_)
  ·refine Aa (.bool (((a.Name==y.Name)&&(a.In==y.In))&&(a.Volume==y.Volume))) J Ad<|By 6 [(2,(.q ids 0 g)),(3,(.q ids 1 g1)),(30,(.bool ((((a.Name==y.Name)&&(a.In==y.In))&&(a.Volume==y.Volume))&&(a.Length==y.Length))))] ?_ fun hJ2=>Bq (((a.Name==y.Name)&&(a.In==y.In))&&(a.Volume==y.Volume)) (fun hb5=>?_) (fun hb5=>?_)
   ·refine Aa (.bool ((((a.Name==y.Name)&&(a.In==y.In))&&(a.Volume==y.Volume))&&(a.Length==y.Length))) J Ad<|C5 6 ((fun(b:Bool)=>.ok b):Bool→R Bool) (fun(b:Bool) (fr:Nat→AV) (h:Ae)=>fr=A2 [(37,(.bool b))]∧h=hp h0 ids [(some (.rows g 5 [(Bg a)])),(some (.rows g1 5 [(Bg y)]))]) ?_ fun hJ3=>Du (fun hb7=>?_) (fun hb7=>?_)
    ·rintro b fr h ⟨rfl,rfl⟩
     refine Aa (.bool b) J An<|Z<|Br (a:=b) (vs:=[(.bool b)]) Tryz.func72 hI J (.same _)
    ·refine A3 (t:=31) hb7 J<|Ac 4 [0,1] [(35,(.sl 2 (List.map B5 y.Open))),(33,(.sl 2 (List.map B5 a.Open)))] ?_
     refine Bw [(.sl 2 (List.map B5 a.Open)),(.sl 2 (List.map B5 y.Open))] J (Ch (tj:=31) J J) J J ((Q2 a.Open y.Open) _) (fun v _=>B9 Tryz.func72 hI) fun r _=>Aa (.bool r) J (Fd (t:=true) J J)<|Bk<|Cb [(37,(.bool r))] (FI J)<|hJ3 r _ _ ⟨J,J⟩
    refine A3 (t:=31) hb7 J<|Ac 6 [] [(37,(.bool false))] ?_
    refine Bk<|Cb [(37,(.bool false))] (FI J)<|hJ3 false _ _ ⟨J,J⟩
   ·refine A3 (t:=24) hb5 J<|Ac 6 [0,1] [(30,(.bool (a.Length==y.Length)))] ?_
    exact Be hJ2 (.cons J (.cons J (.cons (I0 hb5) .nil)))
   refine A3 (t:=24) hb5 J<|Ac 6 [] [(30,(.bool false))] ?_
   exact Be hJ2 (.cons J (.cons J (.cons (I6 hb5) .nil)))
  ·refine A3 (t:=17) hb3 J<|Ac 6 [0,1] [(23,(.bool (a.Volume==y.Volume)))] ?_
   exact Be hJ1 (.cons J (.cons J (.cons (I0 hb3) .nil)))
  refine A3 (t:=17) hb3 J<|Ac 6 [] [(23,(.bool false))] ?_
  exact Be hJ1 (.cons J (.cons J (.cons (I6 hb3) .nil)))
 ·refine A3 (t:=10) hb1 J<|Ac 6 [0,1] [(16,(.bool (a.In==y.In)))] ?_
  exact Be hJ (.cons J (.cons J (.cons (I0 hb1) .nil)))
 refine A3 (t:=10) hb1 J<|Ac 6 [] [(16,(.bool false))] ?_
 exact Be hJ (.cons J (.cons J (.cons (I6 hb1) .nil)))
theorem Kk (s1:List Segment)(s2:List Segment):CP Tryz.prog 71 [(.sl 5 (List.map Bg s1)),(.sl 5 (List.map Bg s2)),(.func (.func 72) [] [])] (C0 s1 s2) (fun(x:Bool)=>(AV.bool x)):=by
 refine Cq (n:=32) 2 Tryz.func71 J (by decide) J J fun h0 ids hI=>Bl (Al (C0.eq_1 _ _) ?_)
 refine Y<|O<|Aa (.bool false) J An<|Z<|Y<|Y<|O ?_
 refine Aa (.sl 5 (List.map Bg s1)) J Ad<|Aa (.I (s1.length:Int)) J (A4 (Bf Mw))<|Aa (.sl 5 (List.map Bg s2)) J Ad<|Aa (.I (s2.length:Int)) J (A4 (Bf Mw))<|Aa (.bool ((s1.length:Int) != (s2.length:Int))) J (Bd J J J)<|Z<|B4 J (fun hc=>?_) (fun hc=>?_)
 ·refine Y<|O<|Aa (.bool false) J An<|Z<|Br (a:=false) (vs:=[(.bool false)]) Tryz.func71 hI J (.same _)
 refine Az<|Y<|Y<|O<|Aa (.sl 5 (List.map Bg s1)) J Ad<|Aa (.I (s1.length:Int)) J (A4 (Bf Mw))<|Aa (.I 0) J Ad ?_
 refine Z<|Ba<|D2 [(1,(.sl 5 (List.map Bg s2))),(2,(.func (.func 72) [] [])),(15,(.sl 5 (List.map Bg s1))),(16,(.I (s1.length:Int))),(17,(.I 0))] (FI J)<|Ee (P:=Tryz.prog) s1 (fun j a=>fun _=>Dd s2 j a) ((De (fun _=>.ok true) (fun r=>.ok r)):(Unit ⊕ Bool)→R Bool) (fun j=>fun _=>fun(fr:Nat→AV) (h:Ae)=>fr=A2 [(1,(.sl 5 (List.map Bg s2))),(2,(.func (.func 72) [] [])),(15,(.sl 5 (List.map Bg s1))),(16,(.I (s1.length:Int))),(17,(.I (j:Int)))]∧h=hp h0 ids [none,none]) () ?_ ?_ ?_
 ·exact⟨J,J⟩
 ·rintro j a ha W hW _ fr h ⟨rfl,rfl⟩
  refine Al (m':=Dd s2 j a) J (Al (Dd.eq_1 _ _ _) ?_)
  refine Y<|O<|Aa (.bool (decide ((j:Int)<(s1.length:Int)))) J (Bd J J J)<|Z<|Y<|D3 (t:=15) (L:=s1) J fun hlim=>C1 J (Int.ofNat_lt.2 (A8 ha)) ?_
  refine Az<|Y<|Ba<|Y<|O<|Aa (.I (j:Int)) J Ad<|Aa (.cp (Bg a) 0) J (Bu (Dh Mw Ih J ha)) ?_
  refine Aa (.agg (Bg a)) J (Au (Cg Ih J))<|Bb (j:=0) hI J J J J Ih J fun g=>Aa (.I (j:Int)) J An<|Ar (Ax (v:=(.agg (Bg a))) hI J J J J Ih J J J J J)<|Z<|Aj ?_
  refine Y<|O<|Ac 2 [] [(23,(.I (j:Int))),(22,(.sl 5 (List.map Bg s2)))] ?_
  refine Eb fun a1 hz hx1=>Aa (.cp (Bg a1) 0) J (Bu (Dg Mw Ih J hz hx1))<|Aa (.agg (Bg a1)) J (Au (Cg Ih J))<|Bb (j:=1) hI J J J J Ih J fun g1=>Ar (Ax (v:=(.agg (Bg a1))) hI J J J J Ih J J J J J)<|Z<|Aj ?_
  refine Y<|O<|Ac 3 [0,1] [(28,(.agg (Bg a1))),(27,(.agg (Bg a))),(26,(.func (.func 72) [] []))] ?_
  refine Bw [(.agg (Bg a)),(.agg (Bg a1))] J J J J ((Y1 a a1) _) (fun v _=>B9 Tryz.func71 hI) fun r _=>Aa (.bool (!r)) J (Ps J)<|Z<|Dy J (fun hc1=>?_) (fun hc1=>?_)
  ·refine Az<|Bo<|O<|Ac 2 [] [(17,(.I (IntKind.wrap .i64 ((j:Int)+1))))] ?_
   refine Z<|Ef [none,none] hI J (.drop (.drop .nil))<|Bp (E3 (hW () _ _ ⟨J,J⟩)) (.cons J (.cons J (.cons J (.cons J (.cons (D0 (A8 ha) hlim) .nil)))))
  refine Y<|O<|Aa (.bool false) J An<|Z<|E1<|Fu<|Br (a:=false) (vs:=[(.bool false)]) Tryz.func71 hI J (.same _)
 rintro _ fr h ⟨rfl,rfl⟩
 refine Al (E6 _ _ _)<|Y<|O<|Aa (.bool (decide ((s1.length:Int)<(s1.length:Int)))) J (Bd J J J)<|Z<|Y<|C2 J (Int.lt_irrefl _) ?_
 refine C6 J<|Y<|O<|Aa (.bool true) J An<|Z<|Br (a:=true) (vs:=[(.bool true)]) Tryz.func71 hI J (.same _)
theorem Y4 (a:Route)(y:Route):CP Tryz.prog 74 [(.agg (Bs a)),(.agg (Bs y))] (R1 a y) (fun(x:Bool)=>(AV.bool x)):=by
 refine Cq (n:=52) 2 Tryz.func74 J (by decide) J J fun h0 ids hI=>Bl (Al (R1.eq_1 _ _) ?_)
 refine Y<|O<|Ck (v:=(.agg (Bs a))) (j:=0) hI J J J J J J J fun g=>Ck (v:=(.agg (Bs y))) (j:=1) hI J J J J J J J fun g1=>Aa (.bool false) J An<|Z<|Aj ?_
 refine Y<|O<|Ac 6 [0,1] [(10,(.bool (a.Name==y.Name)))] ?_
 refine By 6 [(2,(.q ids 0 g)),(3,(.q ids 1 g1)),(16,(.bool ((a.Name==y.Name)&&(a.A==y.A))))] ?_ fun hJ=>Bq (a.Name==y.Name) (fun hb1=>?_) (fun hb1=>?_)
 ·refine Aa (.bool ((a.Name==y.Name)&&(a.A==y.A))) J Ad<|By 6 [(2,(.q ids 0 g)),(3,(.q ids 1 g1)),(23,(.bool (((a.Name==y.Name)&&(a.A==y.A))&&(a.B==y.B))))] ?_ fun hJ1=>Bq ((a.Name==y.Name)&&(a.A==y.A)) (fun hb3=>?_) (fun hb3=>?_)
  ·refine Aa (.bool (((a.Name==y.Name)&&(a.A==y.A))&&(a.B==y.B))) J Ad<|By 6 [(2,(.q ids 0 g)),(3,(.q ids 1 g1)),(30,(.bool ((((a.Name==y.Name)&&(a.A==y.A))&&(a.B==y.B))&&(a.From==y.From))))] ?_ fun hJ2=>Bq (((a.Name==y.Name)&&(a.A==y.A))&&(a.B==y.B)) (fun hb5=>?_) (fun hb5=>?_)
   ·refine Aa (.bool ((((a.Name==y.Name)&&(a.A==y.A))&&(a.B==y.B))&&(a.From==y.From))) J Ad<|By 6 [(2,(.q ids 0 g)),(3,(.q ids 1 g1)),(37,(.bool (((((a.Name==y.Name)&&(a.A==y.A))&&(a.B==y.B))&&(a.From==y.From))&&(a.To==y.To))))] ?_ fun hJ3=>Bq ((((a.Name==y.Name)&&(a.A==y.A))&&(a.B==y.B))&&(a.From==y.From)) (fun hb7=>?_) (fun hb7=>?_)
    ·refine Aa (.bool (((((a.Name==y.Name)&&(a.A==y.A))&&(a.B==y.B))&&(a.From==y.From))&&(a.To==y.To))) J Ad<|C5 6 ((fun(b:Bool)=>(if b then(Hk a.Segments y.Segments).bind fun r1=>R.ok r1 else R.ok false).bind (fun(b1:Bool)=>.ok b1)):Bool→R Bool) (fun(b:Bool) (fr:Nat→AV) (h:Ae)=>fr=A2 [(2,(.q ids 0 g)),(3,(.q ids 1 g1)),(44,(.bool b))]∧h=hp h0 ids [(some (.rows g 7 [(Bs a)])),(some (.rows g1 7 [(Bs y)]))]) ?_ fun hJ4=>Du (fun hb9=>?_) (fun hb9=>?_)
     ·rintro b fr h ⟨rfl,rfl⟩
      refine Aa (.bool b) J Ad<|C5 6 ((fun(b1:Bool)=>.ok b1):Bool→R Bool) (fun(b1:Bool) (fr:Nat→AV) (h:Ae)=>fr=A2 [(51,(.bool b1))]∧h=hp h0 ids [(some (.rows g 7 [(Bs a)])),(some (.rows g1 7 [(Bs y)]))]) ?_ fun hJ5=>Du (fun hb11=>?_) (fun hb11=>?_)
      ·rintro b1 fr h ⟨rfl,rfl⟩
       refine Aa (.bool b1) J An<|Z<|Br (a:=b1) (vs:=[(.bool b1)]) Tryz.func74 hI J (.same _)
      ·refine A3 (t:=45) hb11 J<|Ac 4 [0,1] [(49,(.sl 1 (List.map (rI .i64) y.Segments))),(47,(.sl 1 (List.map (rI .i64) a.Segments)))] ?_
       refine Bw [(.sl 1 (List.map (rI .i64) a.Segments)),(.sl 1 (List.map (rI .i64) y.Segments))] J (Ch (tj:=45) J J) J J ((O3 a.Segments y.Segments) _) (fun v _=>B9 Tryz.func74 hI) fun r1 _=>Aa (.bool r1) J (Fd (t:=true) J J)<|Bk<|Cb [(51,(.bool r1))] (FI J)<|hJ5 r1 _ _ ⟨J,J⟩
      refine A3 (t:=45) hb11 J<|Ac 6 [] [(51,(.bool false))] ?_
      refine Bk<|Cb [(51,(.bool false))] (FI J)<|hJ5 false _ _ ⟨J,J⟩
     ·refine A3 (t:=38) hb9 J<|Ac 4 [0,1] [(42,(.sl 1 (List.map rS y.Names))),(40,(.sl 1 (List.map rS a.Names)))] ?_
      refine Bw [(.sl 1 (List.map rS a.Names)),(.sl 1 (List.map rS y.Names))] J (Ch (tj:=38) J J) J J ((Nf a.Names y.Names) _) (fun v _=>B9 Tryz.func74 hI) fun r _=>Aa (.bool r) J (Fd (t:=true) J J)<|Bk<|Cb [(2,(.q ids 0 g)),(3,(.q ids 1 g1)),(44,(.bool r))] (FI J)<|hJ4 r _ _ ⟨J,J⟩
     refine A3 (t:=38) hb9 J<|Ac 6 [] [(44,(.bool false))] ?_
     refine Bk<|Cb [(2,(.q ids 0 g)),(3,(.q ids 1 g1)),(44,(.bool false))] (FI J)<|hJ4 false _ _ ⟨J,J⟩
    ·refine A3 (t:=31) hb7 J<|Ac 6 [0,1] [(37,(.bool (a.To==y.To)))] ?_
     exact Be hJ3 (.cons J (.cons J (.cons (I0 hb7) .nil)))
    refine A3 (t:=31) hb7 J<|Ac 6 [] [(37,(.bool false))] ?_
    exact Be hJ3 (.cons J (.cons J (.cons (I6 hb7) .nil)))
   ·refine A3 (t:=24) hb5 J<|Ac 6 [0,1] [(30,(.bool (a.From==y.From)))] ?_
    exact Be hJ2 (.cons J (.cons J (.cons (I0 hb5) .nil)))
   refine A3 (t:=24) hb5 J<|Ac 6 [] [(30,(.bool false))] ?_
   exact Be hJ2 (.cons J (.cons J (.cons (I6 hb5) .nil)))
  ·refine A3 (t:=17) hb3 J<|Ac 6 [0,1] [(23,(.bool (a.B==y.B)))] ?_
   exact Be hJ1 (.cons J (.cons J (.cons (I0 hb3) .nil)))
  refine A3 (t:=17) hb3 J<|Ac 6 [] [(23,(.bool false))] ?_
  exact Be hJ1 (.cons J (.cons J (.cons (I6 hb3) .nil)))
 ·refine A3 (t:=10) hb1 J<|Ac 6 [0,1] [(16,(.bool (a.A==y.A)))] ?_
  exact Be hJ (.cons J (.cons J (.cons (I0 hb1) .nil)))
 refine A3 (t:=10) hb1 J<|Ac 6 [] [(16,(.bool false))] ?_
 exact Be hJ (.cons J (.cons J (.cons (I6 hb1) .nil)))
theorem L6 (s1:List Route)(s2:List Route):CP Tryz.prog 73 [(.sl 7 (List.map Bs s1)),(.sl 7 (List.map Bs s2)),(.func (.func 74) [] [])] (Cs s1 s2) (fun(x:Bool)=>(AV.bool x)):=by
 refine Cq (n:=32) 2 Tryz.func73 J (by decide) J J fun h0 ids hI=>Bl (Al (Cs.eq_1 _ _) ?_)
 refine Y<|O<|Aa (.bool false) J An<|Z<|Y<|Y<|O ?_
 refine Aa (.sl 7 (List.map Bs s1)) J Ad<|Aa (.I (s1.length:Int)) J (A4 (Bf Mx))<|Aa (.sl 7 (List.map Bs s2)) J Ad<|Aa (.I (s2.length:Int)) J (A4 (Bf Mx))<|Aa (.bool ((s1.length:Int) != (s2.length:Int))) J (Bd J J J)<|Z<|B4 J (fun hc=>?_) (fun hc=>?_)
 ·refine Y<|O<|Aa (.bool false) J An<|Z<|Br (a:=false) (vs:=[(.bool false)]) Tryz.func73 hI J (.same _)
 refine Az<|Y<|Y<|O<|Aa (.sl 7 (List.map Bs s1)) J Ad<|Aa (.I (s1.length:Int)) J (A4 (Bf Mx))<|Aa (.I 0) J Ad ?_
 refine Z<|Ba<|D2 [(1,(.sl 7 (List.map Bs s2))),(2,(.func (.func 74) [] [])),(15,(.sl 7 (List.map Bs s1))),(16,(.I (s1.length:Int))),(17,(.I 0))] (FI J)<|Ee (P:=Tryz.prog) s1 (fun j a=>fun _=>Dw s2 j a) ((De (fun _=>.ok true) (fun r=>.ok r)):(Unit ⊕ Bool)→R Bool) (fun j=>fun _=>fun(fr:Nat→AV) (h:Ae)=>fr=A2 [(1,(.sl 7 (List.map Bs s2))),(2,(.func (.func 74) [] [])),(15,(.sl 7 (List.map Bs s1))),(16,(.I (s1.length:Int))),(17,(.I (j:Int)))]∧h=hp h0 ids [none,none]) () ?_ ?_ ?_
 ·exact⟨J,J⟩
 ·rintro j a ha W hW _ fr h ⟨rfl,rfl⟩
  refine Al (m':=Dw s2 j a) J (Al (Dw.eq_1 _ _ _) ?_)
  refine Y<|O<|Aa (.bool (decide ((j:Int)<(s1.length:Int)))) J (Bd J J J)<|Z<|Y<|D3 (t:=15) (L:=s1) J fun hlim=>C1 J (Int.ofNat_lt.2 (A8 ha)) ?_
  refine Az<|Y<|Ba<|Y<|O<|Aa (.I (j:Int)) J Ad<|Aa (.cp (Bs a) 0) J (Bu (Dh Mx Ie J ha)) ?_
  refine Aa (.agg (Bs a)) J (Au (Cg Ie J))<|Bb (j:=0) hI J J J J Ie J fun g=>Aa (.I (j:Int)) J An<|Ar (Ax (v:=(.agg (Bs a))) hI J J J J Ie J J J J J)<|Z<|Aj ?_
  refine Y<|O<|Ac 2 [] [(23,(.I (j:Int))),(22,(.sl 7 (List.map Bs s2)))] ?_
  refine Eb fun a1 hz hx1=>Aa (.cp (Bs a1) 0) J (Bu (Dg Mx Ie J hz hx1))<|Aa (.agg (Bs a1)) J (Au (Cg Ie J))<|Bb (j:=1) hI J J J J Ie J fun g1=>Ar (Ax (v:=(.agg (Bs a1))) hI J J J J Ie J J J J J)<|Z<|Aj ?_
  refine Y<|O<|Ac 3 [0,1] [(28,(.agg (Bs a1))),(27,(.agg (Bs a))),(26,(.func (.func 74) [] []))] ?_
  refine Bw [(.agg (Bs a)),(.agg (Bs a1))] J J J J ((Y4 a a1) _) (fun v _=>B9 Tryz.func73 hI) fun r _=>Aa (.bool (!r)) J (Ps J)<|Z<|Dy J (fun hc1=>?_) (fun hc1=>?_)
  ·refine Az<|Bo<|O<|Ac 2 [] [(17,(.I (IntKind.wrap .i64 ((j:Int)+1))))] ?_
   refine Z<|Ef [none,none] hI J (.drop (.drop .nil))<|Bp (E3 (hW () _ _ ⟨J,J⟩)) (.cons J (.cons J (.cons J (.cons J (.cons (D0 (A8 ha) hlim) .nil)))))
  refine Y<|O<|Aa (.bool false) J An<|Z<|E1<|Fu<|Br (a:=false) (vs:=[(.bool false)]) Tryz.func73 hI J (.same _)
 rintro _ fr h ⟨rfl,rfl⟩
 refine Al (E6 _ _ _)<|Y<|O<|Aa (.bool (decide ((s1.length:Int)<(s1.length:Int)))) J (Bd J J J)<|Z<|Y<|C2 J (Int.lt_irrefl _) ?_
 refine C6 J<|Y<|O<|Aa (.bool true) J An<|Z<|Br (a:=true) (vs:=[(.bool true)]) Tryz.func73 hI J (.same _)
theorem Wo (s1:List Mode)(s2:List Mode):CP Tryz.prog 77 [(.sl 2 (List.map Db s1)),(.sl 2 (List.map Db s2))] (P3 s1 s2) (fun(x:Bool)=>(AV.bool x)):=by
 refine Cq (n:=26) 0 Tryz.func77 J (by decide) J J fun h0 ids hI=>Bl (Al (P3.eq_1 _ _) ?_)
 refine Y<|O<|Aa (.bool false) J An<|Z<|Y<|Y<|O ?_
 refine Aa (.sl 2 (List.map Db s1)) J Ad<|Aa (.I (s1.length:Int)) J (A4 (Bf Mq))<|Aa (.sl 2 (List.map Db s2)) J Ad<|Aa (.I (s2.length:Int)) J (A4 (Bf Mq))<|Aa (.bool ((s1.length:Int) != (s2.length:Int))) J (Bd J J J)<|Z<|B4 J (fun hc=>?_) (fun hc=>?_)
 ·refine Y<|O<|Aa (.bool false) J An<|Z<|Br (a:=false) (vs:=[(.bool false)]) Tryz.func77 hI J (.same _)
 refine Az<|Y<|Y<|O<|Aa (.sl 2 (List.map Db s1)) J Ad<|Aa (.I (s1.length:Int)) J (A4 (Bf Mq))<|Aa (.I 0) J Ad ?_
 refine Z<|Ba<|D2 [(0,(.sl 2 (List.map Db s1))),(1,(.sl 2 (List.map Db s2))),(12,(.I (s1.length:Int))),(13,(.I 0))] (FI J)<|Ee (P:=Tryz.prog) s1 (fun j a=>fun _=>Md s2 j a) ((De (fun _=>.ok true) (fun r=>.ok r)):(Unit ⊕ Bool)→R Bool) (fun j=>fun _=>fun(fr:Nat→AV) (h:Ae)=>fr=A2 [(0,(.sl 2 (List.map Db s1))),(1,(.sl 2 (List.map Db s2))),(12,(.I (s1.length:Int))),(13,(.I (j:Int)))]∧h=hp h0 ids []) () ?_ ?_ ?_
 ·exact⟨J,J⟩
 ·rintro j a ha W hW _ fr h ⟨rfl,rfl⟩
  refine Al (m':=Md s2 j a) J (Al (Md.eq_1 _ _ _) ?_)
  refine Y<|O<|Aa (.bool (decide ((j:Int)<(s1.length:Int)))) J (Bd J J J)<|Z<|Y<|D3 (t:=0) (L:=s1) J fun hlim=>C1 J (Int.ofNat_lt.2 (A8 ha)) ?_
  refine Az<|Y<|Ba<|Y<|O<|Ac 2 [] [(5,(.I (j:Int)))] ?_
  refine Z<|Y<|C3 Fg [[],[],[0,1],[0,1,2],[],[],[4,5],[4,5,6],[0,1,2,3,4,5,6,7]] [(false,0),(false,1),(false,2),(false,3),(false,4),(false,5),(false,6),(false,7),(false,8)] (by kernel_rfl)<|Ag (.sl 2 (List.map Db s1)) J J Ad<|Ag (.I (j:Int)) J J Ad<|Ag (.cp (Db a) 0) J J (Bu (Dh Mq N8 J ha))<|Ag (.agg (Db a)) J J (Au (Cg N8 J)) ?_
  refine Ag (.sl 2 (List.map Db s2)) J J Ad<|Ag (.I (j:Int)) J J Ad<|Ny fun a1 hz hx1=>Ag (.cp (Db a1) 0) J J (Bu (Dg Mq N8 J hz hx1))<|Ag (.agg (Db a1)) J J (Au (Cg N8 J))<|Ag (.bool (!((a.Name==a1.Name)&&(a.Places==a1.Places)))) J J (Bd (Ag5 J J) J Ahc)<|Cm ?_
  refine Dy J (fun hc1=>?_) (fun hc1=>?_)
  ·refine Az<|Bo<|O<|Ac 2 [] [(13,(.I (IntKind.wrap .i64 ((j:Int)+1))))] ?_
   refine Z<|Bp (E3 (hW () _ _ ⟨J,J⟩)) (.cons J (.cons J (.cons J (.cons (D0 (A8 ha) hlim) .nil))))
  refine Y<|O<|Aa (.bool false) J An<|Z<|E1<|Fu<|Br (a:=false) (vs:=[(.bool false)]) Tryz.func77 hI J (.same _)
 rintro _ fr h ⟨rfl,rfl⟩
 refine Al (E6 _ _ _)<|Y<|O<|Aa (.bool (decide ((s1.length:Int)<(s1.length:Int)))) J (Bd J J J)<|Z<|Y<|C2 J (Int.lt_irrefl _) ?_
 refine C6 J<|Y<|O<|Aa (.bool true) J An<|Z<|Br (a:=true) (vs:=[(.bool true)]) Tryz.func77 hI J (.same _)
theorem Yy (a:Airport)(y:Airport):CP Tryz.prog 76 [(.agg (Bc a)),(.agg (Bc y))] (Rs a y) (fun(x:Bool)=>(AV.bool x)):=by
 refine Cq (n:=17) 2 Tryz.func76 J (by decide) J J fun h0 ids hI=>Bl (Al (Rs.eq_1 _ _) ?_)
 refine Y<|O<|Ck (v:=(.agg (Bc a))) (j:=0) hI J J J J J J J fun g=>Ck (v:=(.agg (Bc y))) (j:=1) hI J J J J J J J fun g1=>Aa (.bool false) J An<|Z<|Aj ?_
 refine Y<|O<|Ac 6 [0,1] [(10,(.bool (a.Name==y.Name)))] ?_
 refine C5 6 ((fun(b:Bool)=>.ok b):Bool→R Bool) (fun(b:Bool) (fr:Nat→AV) (h:Ae)=>fr=A2 [(16,(.bool b))]∧h=hp h0 ids [(some (.rows g 2 [(Bc a)])),(some (.rows g1 2 [(Bc y)]))]) ?_ fun hJ=>Du (fun hb1=>?_) (fun hb1=>?_)
 ·rintro b fr h ⟨rfl,rfl⟩
  refine Aa (.bool b) J An<|Z<|Br (a:=b) (vs:=[(.bool b)]) Tryz.func76 hI J (.same _)
 ·refine A3 (t:=10) hb1 J<|Ac 4 [0,1] [(14,(.sl 2 (List.map Db y.Modes))),(12,(.sl 2 (List.map Db a.Modes)))] ?_
  refine Bw [(.sl 2 (List.map Db a.Modes)),(.sl 2 (List.map Db y.Modes))] J (Ch (tj:=10) J J) J J ((Wo a.Modes y.Modes) _) (fun v _=>B9 Tryz.func76 hI) fun r _=>Aa (.bool r) J (Fd (t:=true) J J)<|Bk<|Cb [(16,(.bool r))] (FI J)<|hJ r _ _ ⟨J,J⟩
 refine A3 (t:=10) hb1 J<|Ac 6 [] [(16,(.bool false))] ?_
 refine Bk<|Cb [(16,(.bool false))] (FI J)<|hJ false _ _ ⟨J,J⟩
theorem Km (s1:List Airport)(s2:List Airport):CP Tryz.prog 75 [(.sl 2 (List.map Bc s1)),(.sl 2 (List.map Bc s2)),(.func (.func 76) [] [])] (Ca s1 s2) (fun(x:Bool)=>(AV.bool x)):=by
 refine Cq (n:=32) 2 Tryz.func75 J (by decide) J J fun h0 ids hI=>Bl (Al (Ca.eq_1 _ _) ?_)
 refine Y<|O<|Aa (.bool false) J An<|Z<|Y<|Y<|O ?_
 refine Aa (.sl 2 (List.map Bc s1)) J Ad<|Aa (.I (s1.length:Int)) J (A4 (Bf Mp))<|Aa (.sl 2 (List.map Bc s2)) J Ad<|Aa (.I (s2.length:Int)) J (A4 (Bf Mp))<|Aa (.bool ((s1.length:Int) != (s2.length:Int))) J (Bd J J J)<|Z<|B4 J (fun hc=>?_) (fun hc=>?_)
 ·refine Y<|O<|Aa (.bool false) J An<|Z<|Br (a:=false) (vs:=[(.bool false)]) Tryz.func75 hI J (.same _)
 refine Az<|Y<|Y<|O<|Aa (.sl 2 (List.map Bc s1)) J Ad<|Aa (.I (s1.length:Int)) J (A4 (Bf Mp))<|Aa (.I 0) J Ad ?_
 refine Z<|Ba<|D2 [(1,(.sl 2 (List.map Bc s2))),(2,(.func (.func 76) [] [])),(15,(.sl 2 (List.map Bc s1))),(16,(.I (s1.length:Int))),(17,(.I 0))] (FI J)<|Ee (P:=Tryz.prog) s1 (fun j a=>fun _=>Dc s2 j a) ((De (fun _=>.ok true) (fun r=>.ok r)):(Unit ⊕ Bool)→R Bool) (fun j=>fun _=>fun(fr:Nat→AV) (h:Ae)=>fr=A2 [(1,(.sl 2 (List.map Bc s2))),(2,(.func (.func 76) [] [])),(15,(.sl 2 (List.map Bc s1))),(16,(.I (s1.length:Int))),(17,(.I (j:Int)))]∧h=hp h0 ids [none,none]) () ?_ ?_ ?_
 ·exact⟨J,J⟩
 ·rintro j a ha W hW _ fr h ⟨rfl,rfl⟩
  refine Al (m':=Dc s2 j a) J (Al (Dc.eq_1 _ _ _) ?_)
  refine Y<|O<|Aa (.bool (decide ((j:Int)<(s1.length:Int)))) J (Bd J J J)<|Z<|Y<|D3 (t:=15) (L:=s1) J fun hlim=>C1 J (Int.ofNat_lt.2 (A8 ha)) ?_
  refine Az<|Y<|Ba<|Y<|O<|Aa (.I (j:Int)) J Ad<|Aa (.cp (Bc a) 0) J (Bu (Dh Mp If J ha)) ?_
  refine Aa (.agg (Bc a)) J (Au (Cg If J))<|Bb (j:=0) hI J J J J If J fun g=>Aa (.I (j:Int)) J An<|Ar (Ax (v:=(.agg (Bc a))) hI J J J J If J J J J J)<|Z<|Aj ?_
  refine Y<|O<|Ac 2 [] [(23,(.I (j:Int))),(22,(.sl 2 (List.map Bc s2)))] ?_
  refine Eb fun a1 hz hx1=>Aa (.cp (Bc a1) 0) J (Bu (Dg Mp If J hz hx1))<|Aa (.agg (Bc a1)) J (Au (Cg If J))<|Bb (j:=1) hI J J J J If J fun g1=>Ar (Ax (v:=(.agg (Bc a1))) hI J J J J If J J J J J)<|Z<|Aj ?_
  refine Y<|O<|Ac 3 [0,1] [(28,(.agg (Bc a1))),(27,(.agg (Bc a))),(26,(.func (.func 76) [] []))] ?_
  refine Bw [(.agg (Bc a)),(.agg (Bc a1))] J J J J ((Yy a a1) _) (fun v _=>B9 Tryz.func75 hI) fun r _=>Aa (.bool (!r)) J (Ps J)<|Z<|Dy J (fun hc1=>?_) (fun hc1=>?_)
  ·refine Az<|Bo<|O<|Ac 2 [] [(17,(.I (IntKind.wrap .i64 ((j:Int)+1))))] ?_
   refine Z<|Ef [none,none] hI J (.drop (.drop .nil))<|Bp (E3 (hW () _ _ ⟨J,J⟩)) (.cons J (.cons J (.cons J (.cons J (.cons (D0 (A8 ha) hlim) .nil)))))
  refine Y<|O<|Aa (.bool false) J An<|Z<|E1<|Fu<|Br (a:=false) (vs:=[(.bool false)]) Tryz.func75 hI J (.same _)
 rintro _ fr h ⟨rfl,rfl⟩
 refine Al (E6 _ _ _)<|Y<|O<|Aa (.bool (decide ((s1.length:Int)<(s1.length:Int)))) J (Bd J J J)<|Z<|Y<|C2 J (Int.lt_irrefl _) ?_
 refine C6 J<|Y<|O<|Aa (.bool true) J An<|Z<|Br (a:=true) (vs:=[(.bool true)]) Tryz.func75 hI J (.same _)
theorem Wd (s1:List Class)(s2:List Class):CP Tryz.prog 78 [(.sl 4 (List.map B7 s1)),(.sl 4 (List.map B7 s2))] (Ga s1 s2) (fun(x:Bool)=>(AV.bool x)):=by
 refine Cq (n:=26) 0 Tryz.func78 J (by decide) J J fun h0 ids hI=>Bl (Al (Ga.eq_1 _ _) ?_)
 refine Y<|O<|Aa (.bool false) J An<|Z<|Y<|Y<|O ?_
 refine Aa (.sl 4 (List.map B7 s1)) J Ad<|Aa (.I (s1.length:Int)) J (A4 (Bf Lq))<|Aa (.sl 4 (List.map B7 s2)) J Ad<|Aa (.I (s2.length:Int)) J (A4 (Bf Lq))<|Aa (.bool ((s1.length:Int) != (s2.length:Int))) J (Bd J J J)<|Z<|B4 J (fun hc=>?_) (fun hc=>?_)
 ·refine Y<|O<|Aa (.bool false) J An<|Z<|Br (a:=false) (vs:=[(.bool false)]) Tryz.func78 hI J (.same _)
 refine Az<|Y<|Y<|O<|Aa (.sl 4 (List.map B7 s1)) J Ad<|Aa (.I (s1.length:Int)) J (A4 (Bf Lq))<|Aa (.I 0) J Ad ?_
 refine Z<|Ba<|D2 [(0,(.sl 4 (List.map B7 s1))),(1,(.sl 4 (List.map B7 s2))),(12,(.I (s1.length:Int))),(13,(.I 0))] (FI J)<|Ee (P:=Tryz.prog) s1 (fun j a=>fun _=>Lu s2 j a) ((De (fun _=>.ok true) (fun r=>.ok r)):(Unit ⊕ Bool)→R Bool) (fun j=>fun _=>fun(fr:Nat→AV) (h:Ae)=>fr=A2 [(0,(.sl 4 (List.map B7 s1))),(1,(.sl 4 (List.map B7 s2))),(12,(.I (s1.length:Int))),(13,(.I (j:Int)))]∧h=hp h0 ids []) () ?_ ?_ ?_
 ·exact⟨J,J⟩
 ·rintro j a ha W hW _ fr h ⟨rfl,rfl⟩
  refine Al (m':=Lu s2 j a) J (Al (Lu.eq_1 _ _ _) ?_)
  refine Y<|O<|Aa (.bool (decide ((j:Int)<(s1.length:Int)))) J (Bd J J J)<|Z<|Y<|D3 (t:=0) (L:=s1) J fun hlim=>C1 J (Int.ofNat_lt.2 (A8 ha)) ?_
  refine Az<|Y<|Ba<|Y<|O<|Ac 2 [] [(5,(.I (j:Int)))] ?_
  refine Z<|Y<|C3 Fg [[],[],[0,1],[0,1,2],[],[],[4,5],[4,5,6],[0,1,2,3,4,5,6,7]] [(false,0),(false,1),(false,2),(false,3),(false,4),(false,5),(false,6),(false,7),(false,8)] (by kernel_rfl)<|Ag (.sl 4 (List.map B7 s1)) J J Ad<|Ag (.I (j:Int)) J J Ad<|Ag (.cp (B7 a) 0) J J (Bu (Dh Lq Ls J ha))<|Ag (.agg (B7 a)) J J (Au (Cg Ls J)) ?_
  refine Ag (.sl 4 (List.map B7 s2)) J J Ad<|Ag (.I (j:Int)) J J Ad<|Ny fun a1 hz hx1=>Ag (.cp (B7 a1) 0) J J (Bu (Dg Lq Ls J hz hx1))<|Ag (.agg (B7 a1)) J J (Au (Cg Ls J))<|Ag (.bool (!((a.Name==a1.Name)&&((a.Slow==a1.Slow)&&((a.Fast==a1.Fast)&&(a.Places==a1.Places)))))) J J (Bd (Aij J J) J Ahn)<|Cm ?_
  refine Dy J (fun hc1=>?_) (fun hc1=>?_)
  ·refine Az<|Bo<|O<|Ac 2 [] [(13,(.I (IntKind.wrap .i64 ((j:Int)+1))))] ?_
   refine Z<|Bp (E3 (hW () _ _ ⟨J,J⟩)) (.cons J (.cons J (.cons J (.cons (D0 (A8 ha) hlim) .nil))))
  refine Y<|O<|Aa (.bool false) J An<|Z<|E1<|Fu<|Br (a:=false) (vs:=[(.bool false)]) Tryz.func78 hI J (.same _)
 rintro _ fr h ⟨rfl,rfl⟩
 refine Al (E6 _ _ _)<|Y<|O<|Aa (.bool (decide ((s1.length:Int)<(s1.length:Int)))) J (Bd J J J)<|Z<|Y<|C2 J (Int.lt_irrefl _) ?_
 refine C6 J<|Y<|O<|Aa (.bool true) J An<|Z<|Br (a:=true) (vs:=[(.bool true)]) Tryz.func78 hI J (.same _)
theorem W7 (s1:List Rule)(s2:List Rule):CP Tryz.prog 79 [(.sl 8 (List.map A5 s1)),(.sl 8 (List.map A5 s2))] (F0 s1 s2) (fun(x:Bool)=>(AV.bool x)):=by
 refine Cq (n:=26) 0 Tryz.func79 J (by decide) J J fun h0 ids hI=>Bl (Al (F0.eq_1 _ _) ?_)
 refine Y<|O<|Aa (.bool false) J An<|Z<|Y<|Y<|O ?_
 refine Aa (.sl 8 (List.map A5 s1)) J Ad<|Aa (.I (s1.length:Int)) J (A4 (Bf E9))<|Aa (.sl 8 (List.map A5 s2)) J Ad<|Aa (.I (s2.length:Int)) J (A4 (Bf E9))<|Aa (.bool ((s1.length:Int) != (s2.length:Int))) J (Bd J J J)<|Z<|B4 J (fun hc=>?_) (fun hc=>?_)
 ·refine Y<|O<|Aa (.bool false) J An<|Z<|Br (a:=false) (vs:=[(.bool false)]) Tryz.func79 hI J (.same _)
 refine Az<|Y<|Y<|O<|Aa (.sl 8 (List.map A5 s1)) J Ad<|Aa (.I (s1.length:Int)) J (A4 (Bf E9))<|Aa (.I 0) J Ad ?_
 refine Z<|Ba<|D2 [(0,(.sl 8 (List.map A5 s1))),(1,(.sl 8 (List.map A5 s2))),(12,(.I (s1.length:Int))),(13,(.I 0))] (FI J)<|Ee (P:=Tryz.prog) s1 (fun j a=>fun _=>Mf s2 j a) ((De (fun _=>.ok true) (fun r=>.ok r)):(Unit ⊕ Bool)→R Bool) (fun j=>fun _=>fun(fr:Nat→AV) (h:Ae)=>fr=A2 [(0,(.sl 8 (List.map A5 s1))),(1,(.sl 8 (List.map A5 s2))),(12,(.I (s1.length:Int))),(13,(.I (j:Int)))]∧h=hp h0 ids []) () ?_ ?_ ?_
 ·exact⟨J,J⟩
 ·rintro j a ha W hW _ fr h ⟨rfl,rfl⟩
  refine Al (m':=Mf s2 j a) J (Al (Mf.eq_1 _ _ _) ?_)
  refine Y<|O<|Aa (.bool (decide ((j:Int)<(s1.length:Int)))) J (Bd J J J)<|Z<|Y<|D3 (t:=0) (L:=s1) J fun hlim=>C1 J (Int.ofNat_lt.2 (A8 ha)) ?_
  refine Az<|Y<|Ba<|Y<|O<|Ac 2 [] [(5,(.I (j:Int)))] ?_
  refine Z<|Y<|C3 Fg [[],[],[0,1],[0,1,2],[],[],[4,5],[4,5,6],[0,1,2,3,4,5,6,7]] [(false,0),(false,1),(false,2),(false,3),(false,4),(false,5),(false,6),(false,7),(false,8)] (by kernel_rfl)<|Ag (.sl 8 (List.map A5 s1)) J J Ad<|Ag (.I (j:Int)) J J Ad<|Ag (.cp (A5 a) 0) J J (Bu (Dh E9 Dn J ha))<|Ag (.agg (A5 a)) J J (Au (Cg Dn J)) ?_
  refine Ag (.sl 8 (List.map A5 s2)) J J Ad<|Ag (.I (j:Int)) J J Ad<|Ny fun a1 hz hx1=>Ag (.cp (A5 a1) 0) J J (Bu (Dg E9 Dn J hz hx1))<|Ag (.agg (A5 a1)) J J (Au (Cg Dn J))<|Ag (.bool (!((a.Kind==a1.Kind)&&((a.C==a1.C)&&((a.A==a1.A)&&((a.Class==a1.Class)&&((a.Airport==a1.Airport)&&((a.N==a1.N)&&((a.Hours.From==a1.Hours.From)&&(a.Hours.To==a1.Hours.To)))))))))) J J (Bd (Ad5 J J) J Ad4)<|Cm ?_
  refine Dy J (fun hc1=>?_) (fun hc1=>?_)
  ·refine Az<|Bo<|O<|Ac 2 [] [(13,(.I (IntKind.wrap .i64 ((j:Int)+1))))] ?_
   refine Z<|Bp (E3 (hW () _ _ ⟨J,J⟩)) (.cons J (.cons J (.cons J (.cons (D0 (A8 ha) hlim) .nil))))
  refine Y<|O<|Aa (.bool false) J An<|Z<|E1<|Fu<|Br (a:=false) (vs:=[(.bool false)]) Tryz.func79 hI J (.same _)
 rintro _ fr h ⟨rfl,rfl⟩
 refine Al (E6 _ _ _)<|Y<|O<|Aa (.bool (decide ((s1.length:Int)<(s1.length:Int)))) J (Bd J J J)<|Z<|Y<|C2 J (Int.lt_irrefl _) ?_
 refine C6 J<|Y<|O<|Aa (.bool true) J An<|Z<|Br (a:=true) (vs:=[(.bool true)]) Tryz.func79 hI J (.same _)
theorem V0 (a:Airspace)(b:Airspace):CP Tryz.prog 19 [(.agg (Ay a)),(.agg (Ay b))] (Nh a b) (fun(x:Bool)=>(AV.bool x)):=by
 refine Cq (n:=59) 2 Tryz.func19 J (by decide) J J fun h0 ids hI=>Bl (Al (Nh.eq_1 _ _) ?_)
 refine Y<|O<|Ck (v:=(.agg (Ay a))) (j:=0) hI J J J J J J J fun g=>Ck (v:=(.agg (Ay b))) (j:=1) hI J J J J J J J fun g1=>Aa (.bool false) J An<|Z<|Aj ?_
 refine Y<|O<|Ac 4 [0,1] [(8,(.sl 2 (List.map As b.Volumes))),(6,(.sl 2 (List.map As a.Volumes)))] ?_
 refine Bw [(.sl 2 (List.map As a.Volumes)),(.sl 2 (List.map As b.Volumes)),(.func (.func 63) [] [])] J J J J ((Lc a.Volumes b.Volumes) _) (fun v _=>B9 Tryz.func19 hI) fun r _=>Aa (.bool r) J Ad<|C5 6 ((fun(b1:Bool)=>(if b1 then(Dv a.Configs b.Configs).bind fun r2=>R.ok r2 else R.ok false).bind (fun(b2:Bool)=>(if b2 then(C0 a.Segments b.Segments).bind fun r3=>R.ok r3 else R.ok false).bind (fun(b3:Bool)=>(if b3 then(Cs a.Routes b.Routes).bind fun r4=>R.ok r4 else R.ok false).bind (fun(b4:Bool)=>(if b4 then(Ca a.Airports b.Airports).bind fun r5=>R.ok r5 else R.ok false).bind (fun(b5:Bool)=>(if b5 then(Ga a.Classes b.Classes).bind fun r6=>R.ok r6 else R.ok false).bind (fun(b6:Bool)=>(if b6 then(F0 a.Rules b.Rules).bind fun r7=>R.ok r7 else R.ok false).bind (fun(b7:Bool)=>.ok b7))))))):Bool→R Bool) (fun(b1:Bool) (fr:Nat→AV) (h:Ae)=>fr=A2 [(2,(.q ids 0 g)),(3,(.q ids 1 g1)),(16,(.bool b1))]∧h=hp h0 ids [(some (.rows g 8 [(Ay a)])),(some (.rows g1 8 [(Ay b)]))]) ?_ fun hJ=>Du (fun hb1=>?_) (fun hb1=>?_)
 ·rintro b1 fr h ⟨rfl,rfl⟩
  refine Aa (.bool b1) J Ad<|C5 6 ((fun(b2:Bool)=>(if b2 then(C0 a.Segments b.Segments).bind fun r3=>R.ok r3 else R.ok false).bind (fun(b3:Bool)=>(if b3 then(Cs a.Routes b.Routes).bind fun r4=>R.ok r4 else R.ok false).bind (fun(b4:Bool)=>(if b4 then(Ca a.Airports b.Airports).bind fun r5=>R.ok r5 else R.ok false).bind (fun(b5:Bool)=>(if b5 then(Ga a.Classes b.Classes).bind fun r6=>R.ok r6 else R.ok false).bind (fun(b6:Bool)=>(if b6 then(F0 a.Rules b.Rules).bind fun r7=>R.ok r7 else R.ok false).bind (fun(b7:Bool)=>.ok b7)))))):Bool→R Bool) (fun(b2:Bool) (fr:Nat→AV) (h:Ae)=>fr=A2 [(2,(.q ids 0 g)),(3,(.q ids 1 g1)),(23,(.bool b2))]∧h=hp h0 ids [(some (.rows g 8 [(Ay a)])),(some (.rows g1 8 [(Ay b)]))]) ?_ fun hJ1=>Du (fun hb3=>?_) (fun hb3=>?_)
  ·rintro b2 fr h ⟨rfl,rfl⟩
   refine Aa (.bool b2) J Ad<|C5 6 ((fun(b3:Bool)=>(if b3 then(Cs a.Routes b.Routes).bind fun r4=>R.ok r4 else R.ok false).bind (fun(b4:Bool)=>(if b4 then(Ca a.Airports b.Airports).bind fun r5=>R.ok r5 else R.ok false).bind (fun(b5:Bool)=>(if b5 then(Ga a.Classes b.Classes).bind fun r6=>R.ok r6 else R.ok false).bind (fun(b6:Bool)=>(if b6 then(F0 a.Rules b.Rules).bind fun r7=>R.ok r7 else R.ok false).bind (fun(b7:Bool)=>.ok b7))))):Bool→R Bool) (fun(b3:Bool) (fr:Nat→AV) (h:Ae)=>fr=A2 [(2,(.q ids 0 g)),(3,(.q ids 1 g1)),(30,(.bool b3))]∧h=hp h0 ids [(some (.rows g 8 [(Ay a)])),(some (.rows g1 8 [(Ay b)]))]) ?_ fun hJ2=>Du (fun hb5=>?_) (fun hb5=>?_)
   ·rintro b3 fr h ⟨rfl,rfl⟩
    refine Aa (.bool b3) J Ad<|C5 6 ((fun(b4:Bool)=>(if b4 then(Ca a.Airports b.Airports).bind fun r5=>R.ok r5 else R.ok false).bind (fun(b5:Bool)=>(if b5 then(Ga a.Classes b.Classes).bind fun r6=>R.ok r6 else R.ok false).bind (fun(b6:Bool)=>(if b6 then(F0 a.Rules b.Rules).bind fun r7=>R.ok r7 else R.ok false).bind (fun(b7:Bool)=>.ok b7)))):Bool→R Bool) (fun(b4:Bool) (fr:Nat→AV) (h:Ae)=>fr=A2 [(2,(.q ids 0 g)),(3,(.q ids 1 g1)),(37,(.bool b4))]∧h=hp h0 ids [(some (.rows g 8 [(Ay a)])),(some (.rows g1 8 [(Ay b)]))]) ?_ fun hJ3=>Du (fun hb7=>?_) (fun hb7=>?_)
    ·rintro b4 fr h ⟨rfl,rfl⟩
     refine Aa (.bool b4) J Ad<|C5 6 ((fun(b5:Bool)=>(if b5 then(Ga a.Classes b.Classes).bind fun r6=>R.ok r6 else R.ok false).bind (fun(b6:Bool)=>(if b6 then(F0 a.Rules b.Rules).bind fun r7=>R.ok r7 else R.ok false).bind (fun(b7:Bool)=>.ok b7))):Bool→R Bool) (fun(b5:Bool) (fr:Nat→AV) (h:Ae)=>fr=A2 [(2,(.q ids 0 g)),(3,(.q ids 1 g1)),(44,(.bool b5))]∧h=hp h0 ids [(some (.rows g 8 [(Ay a)])),(some (.rows g1 8 [(Ay b)]))]) ?_ fun hJ4=>Du (fun hb9=>?_) (fun hb9=>?_)
     ·rintro b5 fr h ⟨rfl,rfl⟩
      refine Aa (.bool b5) J Ad<|C5 6 ((fun(b6:Bool)=>(if b6 then(F0 a.Rules b.Rules).bind fun r7=>R.ok r7 else R.ok false).bind (fun(b7:Bool)=>.ok b7)):Bool→R Bool) (fun(b6:Bool) (fr:Nat→AV) (h:Ae)=>fr=A2 [(2,(.q ids 0 g)),(3,(.q ids 1 g1)),(51,(.bool b6))]∧h=hp h0 ids [(some (.rows g 8 [(Ay a)])),(some (.rows g1 8 [(Ay b)]))]) ?_ fun hJ5=>Du (fun hb11=>?_) (fun hb11=>?_)
      ·rintro b6 fr h ⟨rfl,rfl⟩
       refine Aa (.bool b6) J Ad<|C5 6 ((fun(b7:Bool)=>.ok b7):Bool→R Bool) (fun(b7:Bool) (fr:Nat→AV) (h:Ae)=>fr=A2 [(58,(.bool b7))]∧h=hp h0 ids [(some (.rows g 8 [(Ay a)])),(some (.rows g1 8 [(Ay b)]))]) ?_ fun hJ6=>Du (fun hb13=>?_) (fun hb13=>?_)
       ·rintro b7 fr h ⟨rfl,rfl⟩
        refine Aa (.bool b7) J An<|Z<|Br (a:=b7) (vs:=[(.bool b7)]) Tryz.func19 hI J (.same _)
       ·refine A3 (t:=52) hb13 J<|Ac 4 [0,1] [(56,(.sl 8 (List.map A5 b.Rules))),(54,(.sl 8 (List.map A5 a.Rules)))] ?_
        refine Bw [(.sl 8 (List.map A5 a.Rules)),(.sl 8 (List.map A5 b.Rules))] J (Ch (tj:=52) J J) J J ((W7 a.Rules b.Rules) _) (fun v _=>B9 Tryz.func19 hI) fun r7 _=>Aa (.bool r7) J (Fd (t:=true) J J)<|Bk<|Cb [(58,(.bool r7))] (FI J)<|hJ6 r7 _ _ ⟨J,J⟩
       refine A3 (t:=52) hb13 J<|Ac 6 [] [(58,(.bool false))] ?_
       refine Bk<|Cb [(58,(.bool false))] (FI J)<|hJ6 false _ _ ⟨J,J⟩
      ·refine A3 (t:=45) hb11 J<|Ac 4 [0,1] [(49,(.sl 4 (List.map B7 b.Classes))),(47,(.sl 4 (List.map B7 a.Classes)))] ?_
       refine Bw [(.sl 4 (List.map B7 a.Classes)),(.sl 4 (List.map B7 b.Classes))] J (Ch (tj:=45) J J) J J ((Wd a.Classes b.Classes) _) (fun v _=>B9 Tryz.func19 hI) fun r6 _=>Aa (.bool r6) J (Fd (t:=true) J J)<|Bk<|Cb [(2,(.q ids 0 g)),(3,(.q ids 1 g1)),(51,(.bool r6))] (FI J)<|hJ5 r6 _ _ ⟨J,J⟩
      refine A3 (t:=45) hb11 J<|Ac 6 [] [(51,(.bool false))] ?_
      refine Bk<|Cb [(2,(.q ids 0 g)),(3,(.q ids 1 g1)),(51,(.bool false))] (FI J)<|hJ5 false _ _ ⟨J,J⟩
     ·refine A3 (t:=38) hb9 J<|Ac 4 [0,1] [(42,(.sl 2 (List.map Bc b.Airports))),(40,(.sl 2 (List.map Bc a.Airports)))] ?_
      refine Bw [(.sl 2 (List.map Bc a.Airports)),(.sl 2 (List.map Bc b.Airports)),(.func (.func 76) [] [])] J (Ch (tj:=38) J J) J J ((Km a.Airports b.Airports) _) (fun v _=>B9 Tryz.func19 hI) fun r5 _=>Aa (.bool r5) J (Fd (t:=true) J J)<|Bk<|Cb [(2,(.q ids 0 g)),(3,(.q ids 1 g1)),(44,(.bool r5))] (FI J)<|hJ4 r5 _ _ ⟨J,J⟩
     refine A3 (t:=38) hb9 J<|Ac 6 [] [(44,(.bool false))] ?_
     refine Bk<|Cb [(2,(.q ids 0 g)),(3,(.q ids 1 g1)),(44,(.bool false))] (FI J)<|hJ4 false _ _ ⟨J,J⟩
    ·refine A3 (t:=31) hb7 J<|Ac 4 [0,1] [(35,(.sl 7 (List.map Bs b.Routes))),(33,(.sl 7 (List.map Bs a.Routes)))] ?_
     refine Bw [(.sl 7 (List.map Bs a.Routes)),(.sl 7 (List.map Bs b.Routes)),(.func (.func 74) [] [])] J (Ch (tj:=31) J J) J J ((L6 a.Routes b.Routes) _) (fun v _=>B9 Tryz.func19 hI) fun r4 _=>Aa (.bool r4) J (Fd (t:=true) J J)<|Bk<|Cb [(2,(.q ids 0 g)),(3,(.q ids 1 g1)),(37,(.bool r4))] (FI J)<|hJ3 r4 _ _ ⟨J,J⟩
    refine A3 (t:=31) hb7 J<|Ac 6 [] [(37,(.bool false))] ?_
    refine Bk<|Cb [(2,(.q ids 0 g)),(3,(.q ids 1 g1)),(37,(.bool false))] (FI J)<|hJ3 false _ _ ⟨J,J⟩
   ·refine A3 (t:=24) hb5 J<|Ac 4 [0,1] [(28,(.sl 5 (List.map Bg b.Segments))),(26,(.sl 5 (List.map Bg a.Segments)))] ?_
    refine Bw [(.sl 5 (List.map Bg a.Segments)),(.sl 5 (List.map Bg b.Segments)),(.func (.func 72) [] [])] J (Ch (tj:=24) J J) J J ((Kk a.Segments b.Segments) _) (fun v _=>B9 Tryz.func19 hI) fun r3 _=>Aa (.bool r3) J (Fd (t:=true) J J)<|Bk<|Cb [(2,(.q ids 0 g)),(3,(.q ids 1 g1)),(30,(.bool r3))] (FI J)<|hJ2 r3 _ _ ⟨J,J⟩
   refine A3 (t:=24) hb5 J<|Ac 6 [] [(30,(.bool false))] ?_
   refine Bk<|Cb [(2,(.q ids 0 g)),(3,(.q ids 1 g1)),(30,(.bool false))] (FI J)<|hJ2 false _ _ ⟨J,J⟩
  ·refine A3 (t:=17) hb3 J<|Ac 4 [0,1] [(21,(.sl 3 (List.map Bm b.Configs))),(19,(.sl 3 (List.map Bm a.Configs)))] ?_
   refine Bw [(.sl 3 (List.map Bm a.Configs)),(.sl 3 (List.map Bm b.Configs)),(.func (.func 70) [] [])] J (Ch (tj:=17) J J) J J ((Lb a.Configs b.Configs) _) (fun v _=>B9 Tryz.func19 hI) fun r2 _=>Aa (.bool r2) J (Fd (t:=true) J J)<|Bk<|Cb [(2,(.q ids 0 g)),(3,(.q ids 1 g1)),(23,(.bool r2))] (FI J)<|hJ1 r2 _ _ ⟨J,J⟩
  refine A3 (t:=17) hb3 J<|Ac 6 [] [(23,(.bool false))] ?_
  refine Bk<|Cb [(2,(.q ids 0 g)),(3,(.q ids 1 g1)),(23,(.bool false))] (FI J)<|hJ1 false _ _ ⟨J,J⟩
 ·refine A3 (t:=10) hb1 J<|Ac 4 [0,1] [(14,(.sl 5 (List.map A7 b.Sectors))),(12,(.sl 5 (List.map A7 a.Sectors)))] ?_
  refine Bw [(.sl 5 (List.map A7 a.Sectors)),(.sl 5 (List.map A7 b.Sectors)),(.func (.func 66) [] [])] J (Ch (tj:=10) J J) J J ((K8 a.Sectors b.Sectors) _) (fun v _=>B9 Tryz.func19 hI) fun r1 _=>Aa (.bool r1) J (Fd (t:=true) J J)<|Bk<|Cb [(2,(.q ids 0 g)),(3,(.q ids 1 g1)),(16,(.bool r1))] (FI J)<|hJ r1 _ _ ⟨J,J⟩
 refine A3 (t:=10) hb1 J<|Ac 6 [] [(16,(.bool false))] ?_
 refine Bk<|Cb [(2,(.q ids 0 g)),(3,(.q ids 1 g1)),(16,(.bool false))] (FI J)<|hJ false _ _ ⟨J,J⟩
theorem Acm:CP Tryz.prog 9 [] (Q4) (fun(x:Bool)=>(AV.bool x)):=by
 refine Cq (n:=158) 7 Tryz.func9 J (by decide) J J fun h0 ids hI=>Bl (Al (Q4.eq_1) ?_)
 refine Y<|O<|Aa (.bool false) J An<|Z<|Y<|O<|Bw [(.str [])] J J J J ((Ka []) _) (fun v _=>B9 Tryz.func9 hI) fun r _=>?_
 refine Ac 4 [] [(28,(.I r.2.2)),(27,(.I r.2.1)),(26,(.agg (Ay r.1)))] ?_
 refine Bb (j:=0) hI J J J J Ei J fun g=>Ar (Ax (v:=(.agg (Ay r.1))) hI J J J J Ei J J J J J)<|Ac 2 [] [(3,(.I r.2.2)),(2,(.I r.2.1))] ?_
 refine Z<|Aj ?_
 refine Y<|O<|Bw [(.str [118,111,108,117,109,101,32,97,32,99,108,111,115,101,100,32,54,48,32,116,111,32,54,48,59])] J J J J ((Ka [118,111,108,117,109,101,32,97,32,99,108,111,115,101,100,32,54,48,32,116,111,32,54,48,59]) _) (fun v _=>B9 Tryz.func9 hI) fun r1 _=>Ac 4 [] [(33,(.I r1.2.2)),(32,(.I r1.2.1)),(31,(.agg (Ay r1.1)))] ?_
 refine Bb (j:=1) hI J J J J Ei J fun g1=>Ar (Ax (v:=(.agg (Ay r1.1))) hI J J J J Ei J J J J J)<|Ac 2 [] [(6,(.I r1.2.2)),(5,(.I r1.2.1))] ?_
 refine Z<|Aj ?_
 refine Y<|O<|Bw [(.str [101,120,101,109,112,116,32,104,101,97,118,121])] J J J J ((Ka [101,120,101,109,112,116,32,104,101,97,118,121]) _) (fun v _=>B9 Tryz.func9 hI) fun r2 _=>Ac 4 [] [(38,(.I r2.2.2)),(37,(.I r2.2.1)),(36,(.agg (Ay r2.1)))] ?_
 refine Bb (j:=2) hI J J J J Ei J fun g2=>Ar (Ax (v:=(.agg (Ay r2.1))) hI J J J J Ei J J J J J)<|Ac 2 [] [(9,(.I r2.2.2)),(8,(.I r2.2.1))] ?_
 refine Z<|Aj ?_
 refine Y<|O<|Bw [(.str [108,111,110,103,101,115,116,32,104,101,97,118,121,32,51,53,59])] J J J J ((Ka [108,111,110,103,101,115,116,32,104,101,97,118,121,32,51,53,59]) _) (fun v _=>B9 Tryz.func9 hI) fun r3 _=>Ac 4 [] [(43,(.I r3.2.2)),(42,(.I r3.2.1)),(41,(.agg (Ay r3.1)))] ?_
 refine Bb (j:=3) hI J J J J Ei J fun g3=>Ar (Ax (v:=(.agg (Ay r3.1))) hI J J J J Ei J J J J J)<|Ac 2 [] [(12,(.I r3.2.2)),(11,(.I r3.2.1))] ?_
 refine Z<|Aj ?_
 refine Y<|O<|Aa (.agg [(.str [120]),.emp]) J (K6 (Po If Am3 J))<|C8 (e:=Bc) (L:=[({ Name:=[120],Modes:=[] }:Airport)]) (st:=2) (rows:=[[(.str [120]),.emp]]) J Mp If J J J J J (.cons (.cons (.same _) (.cons (.emp _) .nil)) .nil) (fun x=>T3 x) J J<|Aa (.agg [.emp,.emp,.emp,.emp,.emp,(.sl 2 (List.map Bc [({ Name:=[120],Modes:=[] }:Airport)])),.emp,.emp]) J (K6 (Po Ei Agn J))<|Bw [(.agg [.emp,.emp,.emp,.emp,.emp,(.sl 2 (List.map Bc [({ Name:=[120],Modes:=[] }:Airport)])),.emp,.emp])] J J J J (fun hb=>Bi.weak (.cons (.aggL (.cons (.emp _) (.cons (.emp _) (.cons (.emp _) (.cons (.emp _) (.cons (.emp _) (.cons (.same _) (.cons (.emp _) (.cons (.emp _) .nil))))))))) .nil) ((Re ({ Volumes:=[],Sectors:=[],Configs:=[],Segments:=[],Routes:=[],Airports:=[({ Name:=[120],Modes:=[] }:Airport)],Classes:=[],Rules:=[] }:Airspace)) _ hb)) (fun v _=>B9 Tryz.func9 hI) fun r4 _=>Ac 5 [] [(14,(.I r4.2))] ?_
 refine Z<|Y<|O<|Aa (.agg [(.str [97]),.emp]) J (K6 (Po Jd Ane J))<|C8 (e:=As) (L:=[({ Name:=[97],Closed:=[] }:Volume)]) (st:=2) (rows:=[[(.str [97]),.emp]]) J Ii Jd J J J J J (.cons (.cons (.same _) (.cons (.emp _) .nil)) .nil) (fun x=>Vk x) J J<|Aa (.agg [(.sl 2 (List.map As [({ Name:=[97],Closed:=[] }:Volume)])),.emp,.emp,.emp,.emp,.emp,.emp,.emp]) J (K6 (Po Ei Agn J))<|Bw [(.agg [(.sl 2 (List.map As [({ Name:=[97],Closed:=[] }:Volume)])),.emp,.emp,.emp,.emp,.emp,.emp,.emp])] J J J J (fun hb=>Bi.weak (.cons (.aggL (.cons (.same _) (.cons (.emp _) (.cons (.emp _) (.cons (.emp _) (.cons (.emp _) (.cons (.emp _) (.cons (.emp _) (.cons (.emp _) .nil))))))))) .nil) ((Re ({ Volumes:=[({ Name:=[97],Closed:=[] }:Volume)],Sectors:=[],Configs:=[],Segments:=[],Routes:=[],Airports:=[],Classes:=[],Rules:=[] }:Airspace)) _ hb)) (fun v _=>B9 Tryz.func9 hI) fun r5 _=>?_
 refine Ac 5 [] [(16,(.I r5.2)),(15,(.str r5.1))] ?_
 refine Z<|Y<|O<|Bw [(.str [99,117,114,102,101,119,32,104,101,97,118,121,32,97,116,32,120,32,48,32,116,111,32,51,48,48,59,32,115,101,99,116,111,114,32,115,32,61,32,97,44,32,98,32,114,97,100,97,114,32,57,32,112,114,111,99,101,100,117,114,97,108,32,52,59])] J J J J ((Ka [99,117,114,102,101,119,32,104,101,97,118,121,32,97,116,32,120,32,48,32,116,111,32,51,48,48,59,32,115,101,99,116,111,114,32,115,32,61,32,97,44,32,98,32,114,97,100,97,114,32,57,32,112,114,111,99,101,100,117,114,97,108,32,52,59]) _) (fun v _=>B9 Tryz.func9 hI) fun r6 _=>Ac 4 [] [(62,(.I r6.2.2)),(61,(.I r6.2.1)),(60,(.agg (Ay r6.1)))] ?_
 refine Bb (j:=4) hI J J J J Ei J fun g4=>Ar (Ax (v:=(.agg (Ay r6.1))) hI J J J J Ei J J J J J)<|Ac 2 [] [(19,(.I r6.2.2)),(18,(.I r6.2.1))] ?_
 refine Z<|Aj ?_
 refine Y<|O<|C8 (e:=rS) (L:=[[97],[98]]) (st:=1) (rows:=[[(.str [97])],[(.str [98])]]) J Do Cl J J J J J (.cons (RowSim.refl _) (.cons (RowSim.refl _) .nil)) (fun x=>F2 x) J J<|Aa (.agg [(.str [115]),(.sl 1 (List.map rS [[97],[98]])),.emp,(.I 9),(.I 4)]) J (K6 (Po Gx Am2 J))<|C8 (e:=A7) (L:=[({ Name:=[115],Names:=[[97],[98]],Volumes:=[],Radar:=9,Procedural:=4 }:Sector)]) (st:=5) (rows:=[[(.str [115]),(.sl 1 (List.map rS [[97],[98]])),.emp,(.I 9),(.I 4)]]) J Lo Gx J J J J J (.cons (.cons (.same _) (.cons (.same _) (.cons (.emp _) (.cons (.same _) (.cons (.same _) .nil))))) .nil) (fun x=>Sp x) J J<|Ac 2 [] [(67,(.agg [(.I 1),(.str [104,101,97,118,121]),(.str [120]),(.I 0),(.I 0),(.I 0),(.I 0),(.I 300)]))] ?_
 refine C8 (e:=A5) (L:=[({ Kind:=1,C:=[104,101,97,118,121],A:=[120],Class:=0,Airport:=0,N:=0,Hours:=({ From:=0,To:=300 }:Span) }:Rule)]) (st:=8) (rows:=[[(.I 1),(.str [104,101,97,118,121]),(.str [120]),(.I 0),(.I 0),(.I 0),(.I 0),(.I 300)]]) J E9 Dn J J J J J (.cons (.cons (.same _) (.cons (.same _) (.cons (.same _) (.cons (.same _) (.cons (.same _) (.cons (.same _) (.cons (.same _) (.cons (.same _) .nil)))))))) .nil) (fun x=>R3 x) J J<|Aa (.agg [.emp,(.sl 5 (List.map A7 [({ Name:=[115],Names:=[[97],[98]],Volumes:=[],Radar:=9,Procedural:=4 }:Sector)])),.emp,.emp,.emp,.emp,.emp,(.sl 8 (List.map A5 [({ Kind:=1,C:=[104,101,97,118,121],A:=[120],Class:=0,Airport:=0,N:=0,Hours:=({ From:=0,To:=300 }:Span) }:Rule)]))]) J (K6 (Po Ei Agn J))<|Bb (j:=5) hI J J J J Ei J fun g5=>Ar (Ax (v:=(.agg [.emp,(.sl 5 (List.map A7 [({ Name:=[115],Names:=[[97],[98]],Volumes:=[],Radar:=9,Procedural:=4 }:Sector)])),.emp,.emp,.emp,.emp,.emp,(.sl 8 (List.map A5 [({ Kind:=1,C:=[104,101,97,118,121],A:=[120],Class:=0,Airport:=0,N:=0,Hours:=({ From:=0,To:=300 }:Span) }:Rule)]))])) hI J J J J Ei J J J J J)<|Z<|Aj ?_
 refine Y<|O<|Ac 1 [5] [(70,(.agg [.emp,(.sl 5 (List.map A7 [({ Name:=[115],Names:=[[97],[98]],Volumes:=[],Radar:=9,Procedural:=4 }:Sector)])),.emp,.emp,.emp,.emp,.emp,(.sl 8 (List.map A5 [({ Kind:=1,C:=[104,101,97,118,121],A:=[120],Class:=0,Airport:=0,N:=0,Hours:=({ From:=0,To:=300 }:Span) }:Rule)]))]))] ?_
 refine Bb (j:=6) hI J J J J Ei J fun g6=>Ar (Ax (v:=(.agg [.emp,(.sl 5 (List.map A7 [({ Name:=[115],Names:=[[97],[98]],Volumes:=[],Radar:=9,Procedural:=4 }:Sector)])),.emp,.emp,.emp,.emp,.emp,(.sl 8 (List.map A5 [({ Kind:=1,C:=[104,101,97,118,121],A:=[120],Class:=0,Airport:=0,N:=0,Hours:=({ From:=0,To:=300 }:Span) }:Rule)]))])) hI J J J J Ei J J J J J)<|Z<|Aj ?_
 refine Y<|O<|C8 (e:=rS) (L:=[[97],[98]]) (st:=1) (rows:=[[(.str [97])],[(.str [98])]]) J Do Cl J J J J J (.cons (RowSim.refl _) (.cons (RowSim.refl _) .nil)) (fun x=>F2 x) J J<|C8 (e:=(rI .i64)) (L:=[0,1]) (st:=1) (rows:=[[(.I 0)],[(.I 1)]]) J O9 Ds J J J J J (.cons (RowSim.refl _) (.cons (RowSim.refl _) .nil)) (fun x=>Agj x) J J<|Aa (.agg [(.str [115]),(.sl 1 (List.map rS [[97],[98]])),(.sl 1 (List.map (rI .i64) [0,1])),(.I 9),(.I 4)]) J (K6 (Po Gx Am2 J))<|C8 (e:=A7) (L:=[({ Name:=[115],Names:=[[97],[98]],Volumes:=[0,1],Radar:=9,Procedural:=4 }:Sector)]) (st:=5) (rows:=[[(.str [115]),(.sl 1 (List.map rS [[97],[98]])),(.sl 1 (List.map (rI .i64) [0,1])),(.I 9),(.I 4)]]) J Lo Gx J J J J J (.cons (.cons (.same _) (.cons (.same _) (.cons (.same _) (.cons (.same _) (.cons (.same _) .nil))))) .nil) (fun x=>Sp x) J J<|Aa (.ptr (ix ids 6) g6 0 1) J (Cc (B2 (c:=0) (off:=1) (i:=1) Ei J Lo J)) ?_
 refine Ar (Ax (v:=(.sl 5 (List.map A7 [({ Name:=[115],Names:=[[97],[98]],Volumes:=[0,1],Radar:=9,Procedural:=4 }:Sector)]))) hI J J J J Lo J J J J J)<|Z<|Aj ?_
 refine Y<|O<|Ac 1 [6] [(77,(.agg [.emp,(.sl 5 (List.map A7 [({ Name:=[115],Names:=[[97],[98]],Volumes:=[0,1],Radar:=9,Procedural:=4 }:Sector)])),.emp,.emp,.emp,.emp,.emp,(.sl 8 (List.map A5 [({ Kind:=1,C:=[104,101,97,118,121],A:=[120],Class:=0,Airport:=0,N:=0,Hours:=({ From:=0,To:=300 }:Span) }:Rule)]))]))] ?_
 refine Bw [(.agg [.emp,(.sl 5 (List.map A7 [({ Name:=[115],Names:=[[97],[98]],Volumes:=[0,1],Radar:=9,Procedural:=4 }:Sector)])),.emp,.emp,.emp,.emp,.emp,(.sl 8 (List.map A5 [({ Kind:=1,C:=[104,101,97,118,121],A:=[120],Class:=0,Airport:=0,N:=0,Hours:=({ From:=0,To:=300 }:Span) }:Rule)]))])] J J J J (fun hb=>Bi.weak (.cons (.aggL (.cons (.emp _) (.cons (.same _) (.cons (.emp _) (.cons (.emp _) (.cons (.emp _) (.cons (.emp _) (.cons (.emp _) (.cons (.same _) .nil))))))))) .nil) ((Re ({ Volumes:=[],Sectors:=[({ Name:=[115],Names:=[[97],[98]],Volumes:=[0,1],Radar:=9,Procedural:=4 }:Sector)],Configs:=[],Segments:=[],Routes:=[],Airports:=[],Classes:=[],Rules:=[({ Kind:=1,C:=[104,101,97,118,121],A:=[120],Class:=0,Airport:=0,N:=0,Hours:=({ From:=0,To:=300 }:Span) }:Rule)] }:Airspace)) _ hb)) (fun v _=>B9 Tryz.func9 hI) fun r7 _=>Ac 5 [] [(23,(.I r7.2)),(22,(.str r7.1))] ?_
 refine Z<|Y<|Y<|O<|Ac 3 [] [(83,(.bool (r.2.2 != 0)))] ?_
 refine By 3 [(1,(.q ids 0 g)),(2,(.I r.2.1)),(5,(.I r1.2.1)),(8,(.I r2.2.1)),(9,(.I r2.2.2)),(11,(.I r3.2.1)),(12,(.I r3.2.2)),(14,(.I r4.2)),(15,(.str r5.1)),(16,(.I r5.2)),(17,(.q ids 4 g4)),(18,(.I r6.2.1)),(19,(.I r6.2.2)),(20,(.q ids 5 g5)),(21,(.q ids 6 g6)),(22,(.str r7.1)),(23,(.I r7.2)),(86,(.bool ((r.2.2 != 0)||(r1.2.2 != 80))))] ?_ fun hJ=>Bq (r.2.2 != 0) (fun hb1=>?_) (fun hb1=>?_)
 ·refine Aa (.bool ((r.2.2 != 0)||(r1.2.2 != 80))) J Ad<|By 3 [(1,(.q ids 0 g)),(2,(.I r.2.1)),(5,(.I r1.2.1)),(8,(.I r2.2.1)),(11,(.I r3.2.1)),(12,(.I r3.2.2)),(14,(.I r4.2)),(15,(.str r5.1)),(16,(.I r5.2)),(17,(.q ids 4 g4)),(18,(.I r6.2.1)),(19,(.I r6.2.2)),(20,(.q ids 5 g5)),(21,(.q ids 6 g6)),(22,(.str r7.1)),(23,(.I r7.2)),(90,(.bool (((r.2.2 != 0)||(r1.2.2 != 80))||(r2.2.2 != 80))))] ?_ fun hJ1=>Bq ((r.2.2 != 0)||(r1.2.2 != 80)) (fun hb3=>?_) (fun hb3=>?_)
  ·refine Aa (.bool (((r.2.2 != 0)||(r1.2.2 != 80))||(r2.2.2 != 80))) J Ad<|By 3 [(1,(.q ids 0 g)),(2,(.I r.2.1)),(5,(.I r1.2.1)),(8,(.I r2.2.1)),(11,(.I r3.2.1)),(14,(.I r4.2)),(15,(.str r5.1)),(16,(.I r5.2)),(17,(.q ids 4 g4)),(18,(.I r6.2.1)),(19,(.I r6.2.2)),(20,(.q ids 5 g5)),(21,(.q ids 6 g6)),(22,(.str r7.1)),(23,(.I r7.2)),(94,(.bool ((((r.2.2 != 0)||(r1.2.2 != 80))||(r2.2.2 != 80))||(r3.2.2 != 80))))] ?_ fun hJ2=>Bq (((r.2.2 != 0)||(r1.2.2 != 80))||(r2.2.2 != 80)) (fun hb5=>?_) (fun hb5=>?_)
   ·refine Aa (.bool ((((r.2.2 != 0)||(r1.2.2 != 80))||(r2.2.2 != 80))||(r3.2.2 != 80))) J Ad<|By 3 [(1,(.q ids 0 g)),(2,(.I r.2.1)),(5,(.I r1.2.1)),(8,(.I r2.2.1)),(11,(.I r3.2.1)),(15,(.str r5.1)),(16,(.I r5.2)),(17,(.q ids 4 g4)),(18,(.I r6.2.1)),(19,(.I r6.2.2)),(20,(.q ids 5 g5)),(21,(.q ids 6 g6)),(22,(.str r7.1)),(23,(.I r7.2)),(98,(.bool (((((r.2.2 != 0)||(r1.2.2 != 80))||(r2.2.2 != 80))||(r3.2.2 != 80))||(r4.2 != 80))))] ?_ fun hJ3=>Bq ((((r.2.2 != 0)||(r1.2.2 != 80))||(r2.2.2 != 80))||(r3.2.2 != 80)) (fun hb7=>?_) (fun hb7=>?_)
    ·refine Aa (.bool (((((r.2.2 != 0)||(r1.2.2 != 80))||(r2.2.2 != 80))||(r3.2.2 != 80))||(r4.2 != 80))) J Ad<|By 3 [(1,(.q ids 0 g)),(2,(.I r.2.1)),(5,(.I r1.2.1)),(8,(.I r2.2.1)),(11,(.I r3.2.1)),(15,(.str r5.1)),(17,(.q ids 4 g4)),(18,(.I r6.2.1)),(19,(.I r6.2.2)),(20,(.q ids 5 g5)),(21,(.q ids 6 g6)),(22,(.str r7.1)),(23,(.I r7.2)),(102,(.bool ((((((r.2.2 != 0)||(r1.2.2 != 80))||(r2.2.2 != 80))||(r3.2.2 != 80))||(r4.2 != 80))||(r5.2 != 0))))] ?_ fun hJ4=>Bq (((((r.2.2 != 0)||(r1.2.2 != 80))||(r2.2.2 != 80))||(r3.2.2 != 80))||(r4.2 != 80)) (fun hb9=>?_) (fun hb9=>?_)
     ·refine Aa (.bool ((((((r.2.2 != 0)||(r1.2.2 != 80))||(r2.2.2 != 80))||(r3.2.2 != 80))||(r4.2 != 80))||(r5.2 != 0))) J Ad<|By 3 [(1,(.q ids 0 g)),(2,(.I r.2.1)),(5,(.I r1.2.1)),(8,(.I r2.2.1)),(11,(.I r3.2.1)),(15,(.str r5.1)),(17,(.q ids 4 g4)),(18,(.I r6.2.1)),(20,(.q ids 5 g5)),(21,(.q ids 6 g6)),(22,(.str r7.1)),(23,(.I r7.2)),(106,(.bool (((((((r.2.2 != 0)||(r1.2.2 != 80))||(r2.2.2 != 80))||(r3.2.2 != 80))||(r4.2 != 80))||(r5.2 != 0))||(r6.2.2 != 0))))] ?_ fun hJ5=>Bq ((((((r.2.2 != 0)||(r1.2.2 != 80))||(r2.2.2 != 80))||(r3.2.2 != 80))||(r4.2 != 80))||(r5.2 != 0)) (fun hb11=>?_) (fun hb11=>?_)
      ·refine Aa (.bool (((((((r.2.2 != 0)||(r1.2.2 != 80))||(r2.2.2 != 80))||(r3.2.2 != 80))||(r4.2 != 80))||(r5.2 != 0))||(r6.2.2 != 0))) J Ad<|By 3 [(1,(.q ids 0 g)),(2,(.I r.2.1)),(5,(.I r1.2.1)),(8,(.I r2.2.1)),(11,(.I r3.2.1)),(15,(.str r5.1)),(17,(.q ids 4 g4)),(18,(.I r6.2.1)),(20,(.q ids 5 g5)),(21,(.q ids 6 g6)),(22,(.str r7.1)),(110,(.bool ((((((((r.2.2 != 0)||(r1.2.2 != 80))||(r2.2.2 != 80))||(r3.2.2 != 80))||(r4.2 != 80))||(r5.2 != 0))||(r6.2.2 != 0))||(r7.2 != 0))))] ?_ fun hJ6=>Bq (((((((r.2.2 != 0)||(r1.2.2 != 80))||(r2.2.2 != 80))||(r3.2.2 != 80))||(r4.2 != 80))||(r5.2 != 0))||(r6.2.2 != 0)) (fun hb13=>?_) (fun hb13=>?_)
       ·refine Aa (.bool ((((((((r.2.2 != 0)||(r1.2.2 != 80))||(r2.2.2 != 80))||(r3.2.2 != 80))||(r4.2 != 80))||(r5.2 != 0))||(r6.2.2 != 0))||(r7.2 != 0))) J Ad<|By 3 [(1,(.q ids 0 g)),(5,(.I r1.2.1)),(8,(.I r2.2.1)),(11,(.I r3.2.1)),(15,(.str r5.1)),(17,(.q ids 4 g4)),(18,(.I r6.2.1)),(20,(.q ids 5 g5)),(21,(.q ids 6 g6)),(22,(.str r7.1)),(114,(.bool (((((((((r.2.2 != 0)||(r1.2.2 != 80))||(r2.2.2 != 80))||(r3.2.2 != 80))||(r4.2 != 80))||(r5.2 != 0))||(r6.2.2 != 0))||(r7.2 != 0))||(r.2.1 != 0))))] ?_ fun hJ7=>Bq ((((((((r.2.2 != 0)||(r1.2.2 != 80))||(r2.2.2 != 80))||(r3.2.2 != 80))||(r4.2 != 80))||(r5.2 != 0))||(r6.2.2 != 0))||(r7.2 != 0)) (fun hb15=>?_) (fun hb15=>?_)
        ·refine Aa (.bool (((((((((r.2.2 != 0)||(r1.2.2 != 80))||(r2.2.2 != 80))||(r3.2.2 != 80))||(r4.2 != 80))||(r5.2 != 0))||(r6.2.2 != 0))||(r7.2 != 0))||(r.2.1 != 0))) J Ad<|By 3 [(1,(.q ids 0 g)),(8,(.I r2.2.1)),(11,(.I r3.2.1)),(15,(.str r5.1)),(17,(.q ids 4 g4)),(18,(.I r6.2.1)),(20,(.q ids 5 g5)),(21,(.q ids 6 g6)),(22,(.str r7.1)),(118,(.bool ((((((((((r.2.2 != 0)||(r1.2.2 != 80))||(r2.2.2 != 80))||(r3.2.2 != 80))||(r4.2 != 80))||(r5.2 != 0))||(r6.2.2 != 0))||(r7.2 != 0))||(r.2.1 != 0))||(r1.2.1 != 22))))] ?_ fun hJ8=>Bq (((((((((r.2.2 != 0)||(r1.2.2 != 80))||(r2.2.2 != 80))||(r3.2.2 != 80))||(r4.2 != 80))||(r5.2 != 0))||(r6.2.2 != 0))||(r7.2 != 0))||(r.2.1 != 0)) (fun hb17=>?_) (fun hb17=>?_)
         ·refine Aa (.bool ((((((((((r.2.2 != 0)||(r1.2.2 != 80))||(r2.2.2 != 80))||(r3.2.2 != 80))||(r4.2 != 80))||(r5.2 != 0))||(r6.2.2 != 0))||(r7.2 != 0))||(r.2.1 != 0))||(r1.2.1 != 22))) J Ad<|By 3 [(1,(.q ids 0 g)),(11,(.I r3.2.1)),(15,(.str r5.1)),(17,(.q ids 4 g4)),(18,(.I r6.2.1)),(20,(.q ids 5 g5)),(21,(.q ids 6 g6)),(22,(.str r7.1)),(122,(.bool (((((((((((r.2.2 != 0)||(r1.2.2 != 80))||(r2.2.2 != 80))||(r3.2.2 != 80))||(r4.2 != 80))||(r5.2 != 0))||(r6.2.2 != 0))||(r7.2 != 0))||(r.2.1 != 0))||(r1.2.1 != 22))||(r2.2.1 != 12))))] ?_ fun hJ9=>Bq ((((((((((r.2.2 != 0)||(r1.2.2 != 80))||(r2.2.2 != 80))||(r3.2.2 != 80))||(r4.2 != 80))||(r5.2 != 0))||(r6.2.2 != 0))||(r7.2 != 0))||(r.2.1 != 0))||(r1.2.1 != 22)) (fun hb19=>?_) (fun hb19=>?_)
          ·refine Aa (.bool (((((((((((r.2.2 != 0)||(r1.2.2 != 80))||(r2.2.2 != 80))||(r3.2.2 != 80))||(r4.2 != 80))||(r5.2 != 0))||(r6.2.2 != 0))||(r7.2 != 0))||(r.2.1 != 0))||(r1.2.1 != 22))||(r2.2.1 != 12))) J Ad<|By 3 [(1,(.q ids 0 g)),(15,(.str r5.1)),(17,(.q ids 4 g4)),(18,(.I r6.2.1)),(20,(.q ids 5 g5)),(21,(.q ids 6 g6)),(22,(.str r7.1)),(126,(.bool ((((((((((((r.2.2 != 0)||(r1.2.2 != 80))||(r2.2.2 != 80))||(r3.2.2 != 80))||(r4.2 != 80))||(r5.2 != 0))||(r6.2.2 != 0))||(r7.2 != 0))||(r.2.1 != 0))||(r1.2.1 != 22))||(r2.2.1 != 12))||(r3.2.1 != 14))))] ?_ fun hJ10=>Bq (((((((((((r.2.2 != 0)||(r1.2.2 != 80))||(r2.2.2 != 80))||(r3.2.2 != 80))||(r4.2 != 80))||(r5.2 != 0))||(r6.2.2 != 0))||(r7.2 != 0))||(r.2.1 != 0))||(r1.2.1 != 22))||(r2.2.1 != 12)) (fun hb21=>?_) (fun hb21=>?_)
           ·refine Aa (.bool ((((((((((((r.2.2 != 0)||(r1.2.2 != 80))||(r2.2.2 != 80))||(r3.2.2 != 80))||(r4.2 != 80))||(r5.2 != 0))||(r6.2.2 != 0))||(r7.2 != 0))||(r.2.1 != 0))||(r1.2.1 != 22))||(r2.2.1 != 12))||(r3.2.1 != 14))) J Ad<|By 3 [(1,(.q ids 0 g)),(15,(.str r5.1)),(17,(.q ids 4 g4)),(20,(.q ids 5 g5)),(21,(.q ids 6 g6)),(22,(.str r7.1)),(130,(.bool (((((((((((((r.2.2 != 0)||(r1.2.2 != 80))||(r2.2.2 != 80))||(r3.2.2 != 80))||(r4.2 != 80))||(r5.2 != 0))||(r6.2.2 != 0))||(r7.2 != 0))||(r.2.1 != 0))||(r1.2.1 != 22))||(r2.2.1 != 12))||(r3.2.1 != 14))||(r6.2.1 != 0))))] ?_ fun hJ11=>Bq ((((((((((((r.2.2 != 0)||(r1.2.2 != 80))||(r2.2.2 != 80))||(r3.2.2 != 80))||(r4.2 != 80))||(r5.2 != 0))||(r6.2.2 != 0))||(r7.2 != 0))||(r.2.1 != 0))||(r1.2.1 != 22))||(r2.2.1 != 12))||(r3.2.1 != 14)) (fun hb23=>?_) (fun hb23=>?_)
            ·refine Z<|B4 J (fun hc=>?_) (fun hc=>?_)
             ·refine Y<|O<|Aa (.bool false) J An<|Z<|Br (a:=false) (vs:=[(.bool false)]) Tryz.func9 hI J (.same _)
             refine Az<|Y<|O<|Ac 2 [0] [(132,(.agg [.emp,.emp,.emp,.emp,.emp,.emp,.emp,.emp])),(131,(.agg (Ay r.1)))] ?_
             refine Bw [(.agg (Ay r.1)),(.agg [.emp,.emp,.emp,.emp,.emp,.emp,.emp,.emp])] J J J J (fun hb=>Bi.weak (.cons (.same _) (.cons (.aggL (.cons (.emp _) (.cons (.emp _) (.cons (.emp _) (.cons (.emp _) (.cons (.emp _) (.cons (.emp _) (.cons (.emp _) (.cons (.emp _) .nil))))))))) .nil)) ((Ti r.1 ({ Volumes:=[],Sectors:=[],Configs:=[],Segments:=[],Routes:=[],Airports:=[],Classes:=[],Rules:=[] }:Airspace)) _ hb)) (fun v _=>B9 Tryz.func9 hI) fun r8 _=>Aa (.bool r8) J Ad<|By 3 [(17,(.q ids 4 g4)),(20,(.q ids 5 g5)),(21,(.q ids 6 g6)),(22,(.str r7.1)),(137,(.bool (r8&&(r5.1==[118,111,108,117,109,101,32,97,32,59]))))] ?_ fun hJ12=>Bq r8 (fun hb25=>?_) (fun hb25=>?_)
             ·refine Aa (.bool (r8&&(r5.1==[118,111,108,117,109,101,32,97,32,59]))) J Ad<|C5 4 ((fun(b:Bool)=>(if(b&&(r7.1==[115,101,99,116,111,114,32,115,32,61,32,97,32,44,32,98,32,114,97,100,97,114,32,57,32,112,114,111,99,101,100,117,114,97,108,32,52,32,59,32,99,117,114,102,101,119,32,104,101,97,118,121,32,97,116,32,120,32,48,32,116,111,32,51,48,48,32,59])) then(Nh r6.1 ({ Volumes:=[],Sectors:=[({ Name:=[115],Names:=[[97],[98]],Volumes:=[],Radar:=9,Procedural:=4 }:Sector)],Configs:=[],Segments:=[],Routes:=[],Airports:=[],Classes:=[],Rules:=[({ Kind:=1,C:=[104,101,97,118,121],A:=[120],Class:=0,Airport:=0,N:=0,Hours:=({ From:=0,To:=300 }:Span) }:Rule)] }:Airspace)).bind fun r10=>R.ok r10 else R.ok false).bind (fun(b1:Bool)=>(if b1 then(Nh r6.1 ({ Volumes:=[],Sectors:=[({ Name:=[115],Names:=[[97],[98]],Volumes:=[0,1],Radar:=9,Procedural:=4 }:Sector)],Configs:=[],Segments:=[],Routes:=[],Airports:=[],Classes:=[],Rules:=[({ Kind:=1,C:=[104,101,97,118,121],A:=[120],Class:=0,Airport:=0,N:=0,Hours:=({ From:=0,To:=300 }:Span) }:Rule)] }:Airspace)).bind fun r11=>R.ok (!r11) else R.ok false).bind (fun(b2:Bool)=>.ok b2))):Bool→R Bool) (fun(b:Bool) (fr:Nat→AV) (h:Ae)=>fr=A2 [(17,(.q ids 4 g4)),(20,(.q ids 5 g5)),(21,(.q ids 6 g6)),(22,(.str r7.1)),(142,(.bool b))]∧h=hp h0 ids [(some (.rows g 8 [(Ay r.1)])),(some (.rows g1 8 [(Ay r1.1)])),(some (.rows g2 8 [(Ay r2.1)])),(some (.rows g3 8 [(Ay r3.1)])),(some (.rows g4 8 [(Ay r6.1)])),(some (.rows g5 8 [[.emp,(.sl 5 (List.map A7 [({ Name:=[115],Names:=[[97],[98]],Volumes:=[],Radar:=9,Procedural:=4 }:Sector)])),.emp,.emp,.emp,.emp,.emp,(.sl 8 (List.map A5 [({ Kind:=1,C:=[104,101,97,118,121],A:=[120],Class:=0,Airport:=0,N:=0,Hours:=({ From:=0,To:=300 }:Span) }:Rule)]))]])),(some (.rows g6 8 [[.emp,(.sl 5 (List.map A7 [({ Name:=[115],Names:=[[97],[98]],Volumes:=[0,1],Radar:=9,Procedural:=4 }:Sector)])),.emp,.emp,.emp,.emp,.emp,(.sl 8 (List.map A5 [({ Kind:=1,C:=[104,101,97,118,121],A:=[120],Class:=0,Airport:=0,N:=0,Hours:=({ From:=0,To:=300 }:Span) }:Rule)]))]]))]) ?_ fun hJ13=>Du (fun hb27=>?_) (fun hb27=>?_)
              ·rintro b fr h ⟨rfl,rfl⟩
               refine Aa (.bool b) J Ad<|By 3 [(17,(.q ids 4 g4)),(20,(.q ids 5 g5)),(21,(.q ids 6 g6)),(146,(.bool (b&&(r7.1==[115,101,99,116,111,114,32,115,32,61,32,97,32,44,32,98,32,114,97,100,97,114,32,57,32,112,114,111,99,101,100,117,114,97,108,32,52,32,59,32,99,117,114,102,101,119,32,104,101,97,118,121,32,97,116,32,120,32,48,32,116,111,32,51,48,48,32,59]))))] ?_ fun hJ14=>Bq b (fun hb29=>?_) (fun hb29=>?_)
               ·refine Aa (.bool (b&&(r7.1==[115,101,99,116,111,114,32,115,32,61,32,97,32,44,32,98,32,114,97,100,97,114,32,57,32,112,114,111,99,101,100,117,114,97,108,32,52,32,59,32,99,117,114,102,101,119,32,104,101,97,118,121,32,97,116,32,120,32,48,32,116,111,32,51,48,48,32,59]))) J Ad<|C5 4 ((fun(b1:Bool)=>(if b1 then(Nh r6.1 ({ Volumes:=[],Sectors:=[({ Name:=[115],Names:=[[97],[98]],Volumes:=[0,1],Radar:=9,Procedural:=4 }:Sector)],Configs:=[],Segments:=[],Routes:=[],Airports:=[],Classes:=[],Rules:=[({ Kind:=1,C:=[104,101,97,118,121],A:=[120],Class:=0,Airport:=0,N:=0,Hours:=({ From:=0,To:=300 }:Span) }:Rule)] }:Airspace)).bind fun r11=>R.ok (!r11) else R.ok false).bind (fun(b2:Bool)=>.ok b2)):Bool→R Bool) (fun(b1:Bool) (fr:Nat→AV) (h:Ae)=>fr=A2 [(17,(.q ids 4 g4)),(21,(.q ids 6 g6)),(151,(.bool b1))]∧h=hp h0 ids [(some (.rows g 8 [(Ay r.1)])),(some (.rows g1 8 [(Ay r1.1)])),(some (.rows g2 8 [(Ay r2.1)])),(some (.rows g3 8 [(Ay r3.1)])),(some (.rows g4 8 [(Ay r6.1)])),(some (.rows g5 8 [[.emp,(.sl 5 (List.map A7 [({ Name:=[115],Names:=[[97],[98]],Volumes:=[],Radar:=9,Procedural:=4 }:Sector)])),.emp,.emp,.emp,.emp,.emp,(.sl 8 (List.map A5 [({ Kind:=1,C:=[104,101,97,118,121],A:=[120],Class:=0,Airport:=0,N:=0,Hours:=({ From:=0,To:=300 }:Span) }:Rule)]))]])),(some (.rows g6 8 [[.emp,(.sl 5 (List.map A7 [({ Name:=[115],Names:=[[97],[98]],Volumes:=[0,1],Radar:=9,Procedural:=4 }:Sector)])),.emp,.emp,.emp,.emp,.emp,(.sl 8 (List.map A5 [({ Kind:=1,C:=[104,101,97,118,121],A:=[120],Class:=0,Airport:=0,N:=0,Hours:=({ From:=0,To:=300 }:Span) }:Rule)]))]]))]) ?_ fun hJ15=>Du (fun hb31=>?_) (fun hb31=>?_)
                ·rintro b1 fr h ⟨rfl,rfl⟩
                 refine Aa (.bool b1) J Ad<|C5 5 ((fun(b2:Bool)=>.ok b2):Bool→R Bool) (fun(b2:Bool) (fr:Nat→AV) (h:Ae)=>fr=A2 [(157,(.bool b2))]∧h=hp h0 ids [(some (.rows g 8 [(Ay r.1)])),(some (.rows g1 8 [(Ay r1.1)])),(some (.rows g2 8 [(Ay r2.1)])),(some (.rows g3 8 [(Ay r3.1)])),(some (.rows g4 8 [(Ay r6.1)])),(some (.rows g5 8 [[.emp,(.sl 5 (List.map A7 [({ Name:=[115],Names:=[[97],[98]],Volumes:=[],Radar:=9,Procedural:=4 }:Sector)])),.emp,.emp,.emp,.emp,.emp,(.sl 8 (List.map A5 [({ Kind:=1,C:=[104,101,97,118,121],A:=[120],Class:=0,Airport:=0,N:=0,Hours:=({ From:=0,To:=300 }:Span) }:Rule)]))]])),(some (.rows g6 8 [[.emp,(.sl 5 (List.map A7 [({ Name:=[115],Names:=[[97],[98]],Volumes:=[0,1],Radar:=9,Procedural:=4 }:Sector)])),.emp,.emp,.emp,.emp,.emp,(.sl 8 (List.map A5 [({ Kind:=1,C:=[104,101,97,118,121],A:=[120],Class:=0,Airport:=0,N:=0,Hours:=({ From:=0,To:=300 }:Span) }:Rule)]))]]))]) ?_ fun hJ16=>Du (fun hb33=>?_) (fun hb33=>?_)
                 ·rintro b2 fr h ⟨rfl,rfl⟩
                  refine Aa (.bool b2) J An<|Z<|Br (a:=b2) (vs:=[(.bool b2)]) Tryz.func9 hI J (.same _)
                 ·refine A3 (t:=152) hb33 J<|Ac 2 [4,6] [(154,(.agg [.emp,(.sl 5 (List.map A7 [({ Name:=[115],Names:=[[97],[98]],Volumes:=[0,1],Radar:=9,Procedural:=4 }:Sector)])),.emp,.emp,.emp,.emp,.emp,(.sl 8 (List.map A5 [({ Kind:=1,C:=[104,101,97,118,121],A:=[120],Class:=0,Airport:=0,N:=0,Hours:=({ From:=0,To:=300 }:Span) }:Rule)]))])),(153,(.agg (Ay r6.1)))] ?_
                  refine Bw [(.agg (Ay r6.1)),(.agg [.emp,(.sl 5 (List.map A7 [({ Name:=[115],Names:=[[97],[98]],Volumes:=[0,1],Radar:=9,Procedural:=4 }:Sector)])),.emp,.emp,.emp,.emp,.emp,(.sl 8 (List.map A5 [({ Kind:=1,C:=[104,101,97,118,121],A:=[120],Class:=0,Airport:=0,N:=0,Hours:=({ From:=0,To:=300 }:Span) }:Rule)]))])] J (Ch (tj:=152) J J) J J (fun hb=>Bi.weak (.cons (.same _) (.cons (.aggL (.cons (.emp _) (.cons (.same _) (.cons (.emp _) (.cons (.emp _) (.cons (.emp _) (.cons (.emp _) (.cons (.emp _) (.cons (.same _) .nil))))))))) .nil)) ((V0 r6.1 ({ Volumes:=[],Sectors:=[({ Name:=[115],Names:=[[97],[98]],Volumes:=[0,1],Radar:=9,Procedural:=4 }:Sector)],Configs:=[],Segments:=[],Routes:=[],Airports:=[],Classes:=[],Rules:=[({ Kind:=1,C:=[104,101,97,118,121],A:=[120],Class:=0,Airport:=0,N:=0,Hours:=({ From:=0,To:=300 }:Span) }:Rule)] }:Airspace)) _ hb)) (fun v _=>B9 Tryz.func9 hI) fun r11 _=>Ac 2 [] [(157,(.bool (!r11)))] ?_
                  refine Bk<|Cb [(157,(.bool (!r11)))] (FI J)<|hJ16 (!r11) _ _ ⟨J,J⟩
                 refine A3 (t:=152) hb33 J<|Ac 5 [] [(157,(.bool false))] ?_
                 refine Bk<|Cb [(157,(.bool false))] (FI J)<|hJ16 false _ _ ⟨J,J⟩
                ·refine A3 (t:=147) hb31 J<|Ac 2 [4,5] [(149,(.agg [.emp,(.sl 5 (List.map A7 [({ Name:=[115],Names:=[[97],[98]],Volumes:=[],Radar:=9,Procedural:=4 }:Sector)])),.emp,.emp,.emp,.emp,.emp,(.sl 8 (List.map A5 [({ Kind:=1,C:=[104,101,97,118,121],A:=[120],Class:=0,Airport:=0,N:=0,Hours:=({ From:=0,To:=300 }:Span) }:Rule)]))])),(148,(.agg (Ay r6.1)))] ?_
                 refine Bw [(.agg (Ay r6.1)),(.agg [.emp,(.sl 5 (List.map A7 [({ Name:=[115],Names:=[[97],[98]],Volumes:=[],Radar:=9,Procedural:=4 }:Sector)])),.emp,.emp,.emp,.emp,.emp,(.sl 8 (List.map A5 [({ Kind:=1,C:=[104,101,97,118,121],A:=[120],Class:=0,Airport:=0,N:=0,Hours:=({ From:=0,To:=300 }:Span) }:Rule)]))])] J (Ch (tj:=147) J J) J J (fun hb=>Bi.weak (.cons (.same _) (.cons (.aggL (.cons (.emp _) (.cons (.same _) (.cons (.emp _) (.cons (.emp _) (.cons (.emp _) (.cons (.emp _) (.cons (.emp _) (.cons (.same _) .nil))))))))) .nil)) ((V0 r6.1 ({ Volumes:=[],Sectors:=[({ Name:=[115],Names:=[[97],[98]],Volumes:=[],Radar:=9,Procedural:=4 }:Sector)],Configs:=[],Segments:=[],Routes:=[],Airports:=[],Classes:=[],Rules:=[({ Kind:=1,C:=[104,101,97,118,121],A:=[120],Class:=0,Airport:=0,N:=0,Hours:=({ From:=0,To:=300 }:Span) }:Rule)] }:Airspace)) _ hb)) (fun v _=>B9 Tryz.func9 hI) fun r10 _=>Aa (.bool r10) J (Fd (t:=true) J J)<|Bk<|Cb [(17,(.q ids 4 g4)),(21,(.q ids 6 g6)),(151,(.bool r10))] (FI J)<|hJ15 r10 _ _ ⟨J,J⟩
                refine A3 (t:=147) hb31 J<|Ac 4 [] [(151,(.bool false))] ?_
                refine Bk<|Cb [(17,(.q ids 4 g4)),(21,(.q ids 6 g6)),(151,(.bool false))] (FI J)<|hJ15 false _ _ ⟨J,J⟩
               ·refine A3 (t:=143) hb29 J<|Ac 3 [] [(146,(.bool (r7.1==[115,101,99,116,111,114,32,115,32,61,32,97,32,44,32,98,32,114,97,100,97,114,32,57,32,112,114,111,99,101,100,117,114,97,108,32,52,32,59,32,99,117,114,102,101,119,32,104,101,97,118,121,32,97,116,32,120,32,48,32,116,111,32,51,48,48,32,59])))] ?_
                exact Be hJ14 (.cons J (.cons J (.cons J (.cons (I0 hb29) .nil))))
               refine A3 (t:=143) hb29 J<|Ac 3 [] [(146,(.bool false))] ?_
               exact Be hJ14 (.cons J (.cons J (.cons J (.cons (I6 hb29) .nil))))
              ·refine A3 (t:=138) hb27 J<|Ac 2 [4,5] [(140,(.agg [.emp,(.sl 5 (List.map A7 [({ Name:=[115],Names:=[[97],[98]],Volumes:=[],Radar:=9,Procedural:=4 }:Sector)])),.emp,.emp,.emp,.emp,.emp,(.sl 8 (List.map A5 [({ Kind:=1,C:=[104,101,97,118,121],A:=[120],Class:=0,Airport:=0,N:=0,Hours:=({ From:=0,To:=300 }:Span) }:Rule)]))])),(139,(.agg (Ay r6.1)))] ?_
               refine Bw [(.agg (Ay r6.1)),(.agg [.emp,(.sl 5 (List.map A7 [({ Name:=[115],Names:=[[97],[98]],Volumes:=[],Radar:=9,Procedural:=4 }:Sector)])),.emp,.emp,.emp,.emp,.emp,(.sl 8 (List.map A5 [({ Kind:=1,C:=[104,101,97,118,121],A:=[120],Class:=0,Airport:=0,N:=0,Hours:=({ From:=0,To:=300 }:Span) }:Rule)]))])] J (Ch (tj:=138) J J) J J (fun hb=>Bi.weak (.cons (.same _) (.cons (.aggL (.cons (.emp _) (.cons (.same _) (.cons (.emp _) (.cons (.emp _) (.cons (.emp _) (.cons (.emp _) (.cons (.emp _) (.cons (.same _) .nil))))))))) .nil)) ((Ti r6.1 ({ Volumes:=[],Sectors:=[({ Name:=[115],Names:=[[97],[98]],Volumes:=[],Radar:=9,Procedural:=4 }:Sector)],Configs:=[],Segments:=[],Routes:=[],Airports:=[],Classes:=[],Rules:=[({ Kind:=1,C:=[104,101,97,118,121],A:=[120],Class:=0,Airport:=0,N:=0,Hours:=({ From:=0,To:=300 }:Span) }:Rule)] }:Airspace)) _ hb)) (fun v _=>B9 Tryz.func9 hI) fun r9 _=>Aa (.bool r9) J (Fd (t:=true) J J)<|Bk<|Cb [(17,(.q ids 4 g4)),(20,(.q ids 5 g5)),(21,(.q ids 6 g6)),(22,(.str r7.1)),(142,(.bool r9))] (FI J)<|hJ13 r9 _ _ ⟨J,J⟩
              refine A3 (t:=138) hb27 J<|Ac 4 [] [(142,(.bool false))] ?_
              refine Bk<|Cb [(17,(.q ids 4 g4)),(20,(.q ids 5 g5)),(21,(.q ids 6 g6)),(22,(.str r7.1)),(142,(.bool false))] (FI J)<|hJ13 false _ _ ⟨J,J⟩
             ·refine A3 (t:=134) hb25 J<|Ac 3 [] [(137,(.bool (r5.1==[118,111,108,117,109,101,32,97,32,59])))] ?_
              exact Be hJ12 (.cons J (.cons J (.cons J (.cons J (.cons (I0 hb25) .nil)))))
             refine A3 (t:=134) hb25 J<|Ac 3 [] [(137,(.bool false))] ?_
             exact Be hJ12 (.cons J (.cons J (.cons J (.cons J (.cons (I6 hb25) .nil)))))
            ·refine A3 (t:=127) hb23 J<|Ac 3 [] [(130,(.bool true))] ?_
             exact Be hJ11 (.cons J (.cons J (.cons J (.cons J (.cons J (.cons J (.cons (E0 hb23) .nil)))))))
            refine A3 (t:=127) hb23 J<|Ac 3 [] [(130,(.bool (r6.2.1 != 0)))] ?_
            exact Be hJ11 (.cons J (.cons J (.cons J (.cons J (.cons J (.cons J (.cons (Ey hb23) .nil)))))))
           ·refine A3 (t:=123) hb21 J<|Ac 3 [] [(126,(.bool true))] ?_
            exact Be hJ10 (.cons J (.cons J (.cons J (.cons J (.cons J (.cons J (.cons J (.cons (E0 hb21) .nil))))))))
           refine A3 (t:=123) hb21 J<|Ac 3 [] [(126,(.bool (r3.2.1 != 14)))] ?_
           exact Be hJ10 (.cons J (.cons J (.cons J (.cons J (.cons J (.cons J (.cons J (.cons (Ey hb21) .nil))))))))
          ·refine A3 (t:=119) hb19 J<|Ac 3 [] [(122,(.bool true))] ?_
           exact Be hJ9 (.cons J (.cons J (.cons J (.cons J (.cons J (.cons J (.cons J (.cons J (.cons (E0 hb19) .nil)))))))))
          refine A3 (t:=119) hb19 J<|Ac 3 [] [(122,(.bool (r2.2.1 != 12)))] ?_
          exact Be hJ9 (.cons J (.cons J (.cons J (.cons J (.cons J (.cons J (.cons J (.cons J (.cons (Ey hb19) .nil)))))))))
         ·refine A3 (t:=115) hb17 J<|Ac 3 [] [(118,(.bool true))] ?_
          exact Be hJ8 (.cons J (.cons J (.cons J (.cons J (.cons J (.cons J (.cons J (.cons J (.cons J (.cons (E0 hb17) .nil))))))))))
         refine A3 (t:=115) hb17 J<|Ac 3 [] [(118,(.bool (r1.2.1 != 22)))] ?_
         exact Be hJ8 (.cons J (.cons J (.cons J (.cons J (.cons J (.cons J (.cons J (.cons J (.cons J (.cons (Ey hb17) .nil))))))))))
        ·refine A3 (t:=111) hb15 J<|Ac 3 [] [(114,(.bool true))] ?_
         exact Be hJ7 (.cons J (.cons J (.cons J (.cons J (.cons J (.cons J (.cons J (.cons J (.cons J (.cons J (.cons (E0 hb15) .nil)))))))))))
        refine A3 (t:=111) hb15 J<|Ac 3 [] [(114,(.bool (r.2.1 != 0)))] ?_
        exact Be hJ7 (.cons J (.cons J (.cons J (.cons J (.cons J (.cons J (.cons J (.cons J (.cons J (.cons J (.cons (Ey hb15) .nil)))))))))))
       ·refine A3 (t:=107) hb13 J<|Ac 3 [] [(110,(.bool true))] ?_
        exact Be hJ6 (.cons J (.cons J (.cons J (.cons J (.cons J (.cons J (.cons J (.cons J (.cons J (.cons J (.cons J (.cons (E0 hb13) .nil))))))))))))
       refine A3 (t:=107) hb13 J<|Ac 3 [] [(110,(.bool (r7.2 != 0)))] ?_
       exact Be hJ6 (.cons J (.cons J (.cons J (.cons J (.cons J (.cons J (.cons J (.cons J (.cons J (.cons J (.cons J (.cons (Ey hb13) .nil))))))))))))
      ·refine A3 (t:=103) hb11 J<|Ac 3 [] [(106,(.bool true))] ?_
       exact Be hJ5 (.cons J (.cons J (.cons J (.cons J (.cons J (.cons J (.cons J (.cons J (.cons J (.cons J (.cons J (.cons J (.cons (E0 hb11) .nil)))))))))))))
      refine A3 (t:=103) hb11 J<|Ac 3 [] [(106,(.bool (r6.2.2 != 0)))] ?_
      exact Be hJ5 (.cons J (.cons J (.cons J (.cons J (.cons J (.cons J (.cons J (.cons J (.cons J (.cons J (.cons J (.cons J (.cons (Ey hb11) .nil)))))))))))))
     ·refine A3 (t:=99) hb9 J<|Ac 3 [] [(102,(.bool true))] ?_
      exact Be hJ4 (.cons J (.cons J (.cons J (.cons J (.cons J (.cons J (.cons J (.cons J (.cons J (.cons J (.cons J (.cons J (.cons J (.cons (E0 hb9) .nil))))))))))))))
     refine A3 (t:=99) hb9 J<|Ac 3 [] [(102,(.bool (r5.2 != 0)))] ?_
     exact Be hJ4 (.cons J (.cons J (.cons J (.cons J (.cons J (.cons J (.cons J (.cons J (.cons J (.cons J (.cons J (.cons J (.cons J (.cons (Ey hb9) .nil))))))))))))))
    ·refine A3 (t:=95) hb7 J<|Ac 3 [] [(98,(.bool true))] ?_
     exact Be hJ3 (.cons J (.cons J (.cons J (.cons J (.cons J (.cons J (.cons J (.cons J (.cons J (.cons J (.cons J (.cons J (.cons J (.cons J (.cons (E0 hb7) .nil)))))))))))))))
    refine A3 (t:=95) hb7 J<|Ac 3 [] [(98,(.bool (r4.2 != 80)))] ?_
    exact Be hJ3 (.cons J (.cons J (.cons J (.cons J (.cons J (.cons J (.cons J (.cons J (.cons J (.cons J (.cons J (.cons J (.cons J (.cons J (.cons (Ey hb7) .nil)))))))))))))))
   ·refine A3 (t:=91) hb5 J<|Ac 3 [] [(94,(.bool true))] ?_
    exact Be hJ2 (.cons J (.cons J (.cons J (.cons J (.cons J (.cons J (.cons J (.cons J (.cons J (.cons J (.cons J (.cons J (.cons J (.cons J (.cons J (.cons (E0 hb5) .nil))))))))))))))))
   refine A3 (t:=91) hb5 J<|Ac 3 [] [(94,(.bool (r3.2.2 != 80)))] ?_
   exact Be hJ2 (.cons J (.cons J (.cons J (.cons J (.cons J (.cons J (.cons J (.cons J (.cons J (.cons J (.cons J (.cons J (.cons J (.cons J (.cons J (.cons (Ey hb5) .nil))))))))))))))))
  ·refine A3 (t:=87) hb3 J<|Ac 3 [] [(90,(.bool true))] ?_
   exact Be hJ1 (.cons J (.cons J (.cons J (.cons J (.cons J (.cons J (.cons J (.cons J (.cons J (.cons J (.cons J (.cons J (.cons J (.cons J (.cons J (.cons J (.cons (E0 hb3) .nil)))))))))))))))))
  refine A3 (t:=87) hb3 J<|Ac 3 [] [(90,(.bool (r2.2.2 != 80)))] ?_
  exact Be hJ1 (.cons J (.cons J (.cons J (.cons J (.cons J (.cons J (.cons J (.cons J (.cons J (.cons J (.cons J (.cons J (.cons J (.cons J (.cons J (.cons J (.cons (Ey hb3) .nil)))))))))))))))))
 ·refine A3 (t:=83) hb1 J<|Ac 3 [] [(86,(.bool true))] ?_
  exact Be hJ (.cons J (.cons J (.cons J (.cons J (.cons J (.cons J (.cons J (.cons J (.cons J (.cons J (.cons J (.cons J (.cons J (.cons J (.cons J (.cons J (.cons J (.cons (E0 hb1) .nil))))))))))))))))))
 refine A3 (t:=83) hb1 J<|Ac 3 [] [(86,(.bool (r1.2.2 != 80)))] ?_
 exact Be hJ (.cons J (.cons J (.cons J (.cons J (.cons J (.cons J (.cons J (.cons J (.cons J (.cons J (.cons J (.cons J (.cons J (.cons J (.cons J (.cons J (.cons J (.cons (Ey hb1) .nil))))))))))))))))))
end Go.Am
namespace Go.Am
open Go Go.Proofs
set_option maxRecDepth 100000
set_option maxHeartbeats 4000000
set_option linter.unusedSimpArgs false
set_option linter.unusedVariables false
theorem V1 (src:Aw):CP Tryz.prog 6 [(.str src)] (M7 src) (fun(x:Bool)=>(AV.bool x)):=by
 refine Cq (n:=69) 2 Tryz.func6 J (by decide) J J fun h0 ids hI=>Bl (Al (M7.eq_1 _) ?_)
 refine Y<|O<|Aa (.bool false) J An<|Z<|Y<|Y<|O ?_
 refine Bw [] J J J J ((Acm) _) (fun v _=>B9 Tryz.func6 hI) fun r _=>Aa (.bool (!r)) J (Ps J)<|Z<|Dy J (fun hc=>?_) (fun hc=>?_)
 ·refine Az<|Y<|Y<|O<|Aa (.str src) J Ad<|Aa (.I (src.length:Int)) J (A4 (K3 Cl))<|Aa (.bool (decide ((src.length:Int) > 4000))) J (Bd J J J) ?_
  refine Z<|Ot J (fun hc1=>?_) (fun hc1=>?_)
  ·refine Y<|O<|Aa (.bool true) J An<|Z<|Br (a:=true) (vs:=[(.bool true)]) Tryz.func6 hI J (.same _)
  refine Az<|Y<|O<|Aa (.str src) J Ad<|Bw [(.str src)] J J J J ((Ka src) _) (fun v _=>B9 Tryz.func6 hI) fun r1 _=>Ac 4 [] [(24,(.I r1.2.2)),(23,(.I r1.2.1)),(22,(.agg (Ay r1.1)))] ?_
  refine Bb (j:=0) hI J J J J Ei J fun g=>Ar (Ax (v:=(.agg (Ay r1.1))) hI J J J J Ei J J J J J)<|Ac 2 [] [(5,(.I r1.2.2)),(4,(.I r1.2.1))] ?_
  refine Z<|Aj ?_
  refine Y<|O<|Aa (.str src) J Ad<|Bw [(.str src)] J J J J ((Zy src) _) (fun v _=>B9 Tryz.func6 hI) fun r2 _=>Ac 7 [] [(8,(.I r2.2.2)),(7,(.I r2.2.1)),(6,(.sl 4 (List.map Ab r2.1)))] ?_
  refine Z<|Y<|Y<|O<|Ac 2 [] [(32,(.bool (r2.2.2 != 0)))] ?_
  refine Z<|B4 J (fun hc2=>?_) (fun hc2=>?_)
  ·refine Y<|O<|Ac 4 [] [(36,(.bool (r1.2.2==r2.2.2)))] ?_
   refine By 4 [(40,(.bool ((r1.2.2==r2.2.2)&&(r1.2.1==r2.2.1))))] ?_ fun hJ=>Bq (r1.2.2==r2.2.2) (fun hb1=>?_) (fun hb1=>?_)
   ·refine Aa (.bool ((r1.2.2==r2.2.2)&&(r1.2.1==r2.2.1))) J An<|Z<|Br (a:=((r1.2.2==r2.2.2)&&(r1.2.1==r2.2.1))) (vs:=[(.bool ((r1.2.2==r2.2.2)&&(r1.2.1==r2.2.1)))]) Tryz.func6 hI J (.same _)
   ·refine A3 (t:=36) hb1 J<|Ac 4 [] [(40,(.bool (r1.2.1==r2.2.1)))] ?_
    exact Be hJ (.cons (I0 hb1) .nil)
   refine A3 (t:=36) hb1 J<|Ac 4 [] [(40,(.bool false))] ?_
   exact Be hJ (.cons (I6 hb1) .nil)
  refine Az<|Y<|O<|Aa (.sl 4 (List.map Ab r2.1)) J Ad<|Bw [(.sl 4 (List.map Ab r2.1))] J J J J ((Zd r2.1) _) (fun v _=>B9 Tryz.func6 hI) fun r3 _=>Ac 5 [] [(10,(.I r3.2)),(9,(.str r3.1))] ?_
  refine Z<|Y<|Y<|O<|Ac 3 [] [(48,(.bool (r3.2 != 0)))] ?_
  refine By 4 [(3,(.q ids 0 g)),(5,(.I r1.2.2)),(9,(.str r3.1)),(10,(.I r3.2)),(52,(.bool ((r3.2 != 0)||(decide ((r3.1.length:Int) > 65536)))))] ?_ fun hJ1=>Bq (r3.2 != 0) (fun hb3=>?_) (fun hb3=>?_)
  ·refine Z<|B4 J (fun hc3=>?_) (fun hc3=>?_)
   ·refine Y<|O<|Ac 3 [] [(2,(.bool (r3.2==0)))] ?_
    refine Z<|Br (a:=(r3.2==0)) (vs:=[(.bool (r3.2==0))]) Tryz.func6 hI J (.same _)
   refine Az<|Y<|O<|Aa (.str r3.1) J Ad<|Bw [(.str r3.1)] J J J J ((Ka r3.1) _) (fun v _=>B9 Tryz.func6 hI) fun r4 _=>Ac 4 [] [(60,(.I r4.2.2)),(59,(.I r4.2.1)),(58,(.agg (Ay r4.1)))] ?_
   refine Bb (j:=1) hI J J J J Ei J fun g1=>Ar (Ax (v:=(.agg (Ay r4.1))) hI J J J J Ei J J J J J)<|Ac 2 [] [(13,(.I r4.2.2))] ?_
   refine Z<|Aj ?_
   refine Y<|O<|Ac 2 [0,1] [(62,(.agg (Ay r4.1))),(61,(.agg (Ay r1.1)))] ?_
   refine Bw [(.agg (Ay r1.1)),(.agg (Ay r4.1))] J J J J ((Ti r1.1 r4.1) _) (fun v _=>B9 Tryz.func6 hI) fun r5 _=>Aa (.bool r5) J Ad<|By 4 [(68,(.bool (r5&&(r1.2.2==r4.2.2))))] ?_ fun hJ2=>Bq r5 (fun hb5=>?_) (fun hb5=>?_)
   ·refine Aa (.bool (r5&&(r1.2.2==r4.2.2))) J An<|Z<|Br (a:=(r5&&(r1.2.2==r4.2.2))) (vs:=[(.bool (r5&&(r1.2.2==r4.2.2)))]) Tryz.func6 hI J (.same _)
   ·refine A3 (t:=64) hb5 J<|Ac 4 [] [(68,(.bool (r1.2.2==r4.2.2)))] ?_
    exact Be hJ2 (.cons (I0 hb5) .nil)
   refine A3 (t:=64) hb5 J<|Ac 4 [] [(68,(.bool false))] ?_
   exact Be hJ2 (.cons (I6 hb5) .nil)
  ·refine A3 (t:=48) hb3 J<|Ac 4 [] [(52,(.bool true))] ?_
   exact Be hJ1 (.cons J (.cons J (.cons J (.cons J (.cons (E0 hb3) .nil)))))
  refine A3 (t:=48) hb3 J<|Bz (tj:=48) (.str r3.1) J J J Ad<|Bz (tj:=48) (.I (r3.1.length:Int)) J J J (A4 (K3 Cl))<|Ac 2 [] [(52,(.bool (decide ((r3.1.length:Int) > 65536))))] ?_
  exact Be hJ1 (.cons J (.cons J (.cons J (.cons J (.cons (Ey hb3) .nil)))))
 refine Y<|O<|Aa (.bool false) J An<|Z<|Br (a:=false) (vs:=[(.bool false)]) Tryz.func6 hI J (.same _)
end Go.Am
namespace Go.Am
open Go Go.Proofs
set_option maxRecDepth 100000
set_option maxHeartbeats 4000000
set_option linter.unusedSimpArgs false
set_option linter.unusedVariables false
end Go.Am
namespace Go.Proofs.YtjidhdlbojmlfaaGreatDoor.laws
open Go Go.Am Go.ChangeShapes Go.WideShapes Go.ChangeAt Go.RowKit
set_option maxRecDepth 100000
set_option linter.unusedVariables false
set_option linter.unusedSimpArgs false
theorem own:ownKnob Tryz.prog.godebug=none:=by kernel_rfl
theorem Aky:laidOutB Tryz.prog=true:=by kernel_rfl
def Aj9:DataW Unit:=match (Rows.laid_overflight_syntax_definitions:DataW Unit) with
 | .iface _ d=>d
 | d=>d
theorem Al4 {W : World} (h0 : laidMetH Tryz.prog [("math/bits.deBruijn32tab", Rows.laid_math_bits_deBruijn32tab), ("math/bits.deBruijn64tab", Rows.laid_math_bits_deBruijn64tab), ("internal/strconv.uint64pow10", Rows.laid_internal_strconv_uint64pow10), ("strconv.ErrRange", Rows.laid_strconv_ErrRange), ("strconv.ErrSyntax", Rows.laid_strconv_ErrSyntax), ("overflight/syntax.definitions", Rows.laid_overflight_syntax_definitions)] W) : GW.n Tryz.prog ≤ W.heap.size ∧ GW.G Tryz.prog W.heap.size W := by
 have h := (laidMetH_iff.1 h0).1
 rw [show (List.filter (fun x => x.2.handleName?.isNone) [("math/bits.deBruijn32tab", Rows.laid_math_bits_deBruijn32tab), ("math/bits.deBruijn64tab", Rows.laid_math_bits_deBruijn64tab), ("internal/strconv.uint64pow10", Rows.laid_internal_strconv_uint64pow10), ("strconv.ErrRange", Rows.laid_strconv_ErrRange), ("strconv.ErrSyntax", Rows.laid_strconv_ErrSyntax), ("overflight/syntax.definitions", Rows.laid_overflight_syntax_definitions)]) = [("math/bits.deBruijn32tab", Rows.laid_math_bits_deBruijn32tab), ("math/bits.deBruijn64tab", Rows.laid_math_bits_deBruijn64tab), ("internal/strconv.uint64pow10", Rows.laid_internal_strconv_uint64pow10), ("strconv.ErrRange", Rows.laid_strconv_ErrRange), ("strconv.ErrSyntax", Rows.laid_strconv_ErrSyntax)] by kernel_rfl] at h
 have hn := Amh (g := 6) (by kernel_rfl) (Lib.laidMet.reads h (n := "math/bits.deBruijn64tab") (d := Rows.laid_math_bits_deBruijn64tab) (by repeat (first | exact List.mem_cons_self .. | apply List.mem_cons_of_mem)))
 exact ⟨hn, ⟨(Ab2 (g := 2) (t := 169) (by kernel_rfl) (by kernel_rfl) Tryz.underlying169 (Lib.laidMet.reads h (n := "strconv.ErrRange") (d := Rows.laid_strconv_ErrRange) (by repeat (first | exact List.mem_cons_self .. | apply List.mem_cons_of_mem)))), (Ab2 (g := 1) (t := 169) (by kernel_rfl) (by kernel_rfl) Tryz.underlying169 (Lib.laidMet.reads h (n := "strconv.ErrSyntax") (d := Rows.laid_strconv_ErrSyntax) (by repeat (first | exact List.mem_cons_self .. | apply List.mem_cons_of_mem)))), (Akc (g := 4) (t := 210) (by kernel_rfl) (by kernel_rfl) Tryz.underlying210 Tryz.underlying193 (by kernel_rfl) (by kernel_rfl) (Lib.laidMet.reads h (n := "internal/strconv.uint64pow10") (d := Rows.laid_internal_strconv_uint64pow10) (by repeat (first | exact List.mem_cons_self .. | apply List.mem_cons_of_mem))))⟩, Akp (d := Aj9) (l := Nk) (laidMetH.funcs h0 (n := "overflight/syntax.definitions") (d := Aj9) (by repeat (first | exact List.mem_cons_self .. | apply List.mem_cons_of_mem))) (by kernel_rfl) (by kernel_rfl) (by kernel_rfl) Tryz.underlying142 Tryz.underlying9 Tryz.underlying140 (by kernel_rfl) (by decide +kernel)⟩
theorem rd9:Tryz.prog.readableRec 9=true∧9<Tryz.prog.types.size:=by decide +kernel
theorem Aiz {H:Type}:Bulk (H:=H) Rows.uptoBulk Rows.uptoBulkAll:=⟨fun d=>by cases d with | lit l=>cases l <;> simp [Rows.uptoBulk] | _=>simp [Rows.uptoBulk],fun l=>by simp [Rows.uptoBulk],fun e s=>by simp only [Rows.uptoBulk]; omega,fun l=>by simp [Rows.uptoBulk],by simp [Rows.uptoBulkAll],fun d l=>by simp [Rows.uptoBulkAll]⟩
theorem on9:Aj6 Tryz.prog 9 Aee:=Ah6 Tryz.underlying9
end Go.Proofs.YtjidhdlbojmlfaaGreatDoor.laws
