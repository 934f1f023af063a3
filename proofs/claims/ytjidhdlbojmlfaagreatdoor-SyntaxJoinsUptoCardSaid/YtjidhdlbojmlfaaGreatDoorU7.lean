/- Written by shrink.py from texts of ours: comments struck, what is not reached left out, names short. -/
import Derived.Test.YtjidhdlbojmlfaaGreatDoorU6
namespace Go.Am
open Go Go.Proofs
set_option maxRecDepth 100000
set_option maxHeartbeats 4000000
set_option linter.unusedSimpArgs false
set_option linter.unusedVariables false
theorem S7 (text:Au)(l:List Config)(most:Int)(s0_bad:Bool)(l1:List Token)(h0:Ag)(o0:Nat)(o1:Nat)(o2:Nat)(g:Nat)(v1:AV)(g1:Nat)(g2:Nat)(vH:A3 v1 o1 g1 l1.length)(hI0:Ids h0 [o0,o1,o2] 3):Ks text l most s0_bad l1≠.bad→Bl Tryz.prog 38 [(.ptr o0 g 0 0),(.str text),(.sl 3 (List.map Bk l)),(.int .i64 most),(.func (.func 39) [] [(.ptr o2 g2 0 0)])] (hp h0 [o0,o1,o2] [some (.rows g 2 [[v1,(.bool s0_bad)]]),Ai v1 g1 4 (List.map Ac l1),some (.rows g2 1 [[(.ptr o0 g 0 0)]])]) (Ci (fun a_ v h' => ∃ (v7:AV),∃ (g9:Nat),A3 v7 o1 g9 a_.2.length∧v=(.tup [])∧h'=hp h0 [o0,o1,o2] [some (.rows g 2 [[v7,(.bool a_.1)]]),Ai v7 g9 4 (List.map Ac a_.2),some (.rows g2 1 [[(.ptr o0 g 0 0)]])]) h0 (Ks text l most s0_bad l1)):=by
 refine A9 (n:=44) 1 Tryz.func38 J (by decide) J J hI0 J fun ids he hI=>?_
 clear hI0
 obtain rfl:ix ids 0=o0:=he 0 rfl
 obtain rfl:ix ids 1=o1:=he 1 rfl
 obtain rfl:ix ids 2=o2:=he 2 rfl
 clear he
 refine Bo (Al (Ks.eq_1 _ _ _ _ _) ?_)
 refine Aj ?_
 refine Y<|O<|Ab 6 [0] [(17,(.bool s0_bad)),(12,(.q ids 0 g))] ?_
 refine Bw 5 [(0,(.q ids 0 g)),(1,(.str text)),(2,(.sl 3 (List.map Bk l))),(4,(.func (.func 39) [] [(.q ids 2 g2)])),(12,(.q ids 0 g)),(22,(.bool (s0_bad||(decide ((l.length:Int) > most)))))] ?_ fun hJ=>Bq s0_bad (fun hb1=>?_) (fun hb1=>?_)
 ·refine Ab 2 [] [(24,(.ptr (ix ids 0) g 0 1))] ?_
  refine Ar (Ax (v:=(.bool (s0_bad||(decide ((l.length:Int) > most))))) hI J J J J Pi J J J J J)<|Aa<|Aj ?_
  refine Y<|O<|Z (.sl 3 (List.map Bk l)) J Ae<|Z (.I (l.length:Int)) J (Ay (A8 Gl))<|Z (.I 0) J Ae<|Aa<|Bf ?_
  refine Ea [(0,(.q ids 0 g)),(1,(.str text)),(4,(.func (.func 39) [] [(.q ids 2 g2)])),(25,(.sl 3 (List.map Bk l))),(26,(.I (l.length:Int))),(27,(.I 0))] (FI J)<|Jw (P:=Tryz.prog) l (fun _ a=>C0 fun fBad l2=>Je text a fBad l2) (((C0 fun fBad l2=>.ok (fBad,l2))):(Bool×(List Token))→R (Bool×(List Token))) (fun j=>C0 fun fBad l2=>fun(fr:Nat→AV) (h:Ag) => ∃ (v2:AV),∃ (g3:Nat),A3 v2 (ix ids 1) g3 l2.length∧fr=A5 [(0,(.q ids 0 g)),(1,(.str text)),(4,(.func (.func 39) [] [(.q ids 2 g2)])),(25,(.sl 3 (List.map Bk l))),(26,(.I (l.length:Int))),(27,(.I (j:Int)))]∧h=hp h0 ids [(some (.rows g 2 [[v2,(.bool fBad)]])),(Ai v2 g3 4 (List.map Ac l2)),(some (.rows g2 1 [[(.q ids 0 g)]])),none]) ((s0_bad||(decide ((l.length:Int) > most))),l1) ?_ ?_ ?_
  ·exact⟨v1,g1,vH,J,J⟩
  ·rintro j a ha W hW ⟨fBad,l2⟩ fr h ⟨v2,g3,vH1,rfl,rfl⟩
   refine Al (m':=Je text a fBad l2) J (Al (Je.eq_1 _ _ _ _) ?_)
   refine Y<|O<|Z (.bool (decide ((j:Int)<(l.length:Int)))) J (Bh J J J)<|Aa<|Y<|Eb (t:=25) (L:=l) J fun hlim=>C7 J (Int.ofNat_lt.2 (Bc ha)) ?_
   refine A2<|Y<|Bf<|Y<|O<|Z (.cp (Bk a) 0) J (By (Do Gl Jg J ha))<|Z (.agg (Bk a)) J (Aq (Cl Jg J)) ?_
   refine Bg (j:=3) hI J J J J Jg J fun g4=>Ar (Ax (v:=(.agg (Bk a))) hI J J J J Jg J J J J J)<|Aa<|Aj ?_
   refine Y<|Y<|O<|Ab 2 [] [(32,(.bool (!(text==[]))))] ?_
   refine Aa<|D6 (C0 fun fBad1 l3=>I1 a fBad1 l3) (C0 fun fBad1 l3=>fun(fr:Nat→AV) (h:Ag) => ∃ (v4:AV),∃ (g6:Nat),A3 v4 (ix ids 1) g6 l3.length∧fr=A5 [(0,(.q ids 0 g)),(1,(.str text)),(4,(.func (.func 39) [] [(.q ids 2 g2)])),(11,(.q ids 3 g4)),(25,(.sl 3 (List.map Bk l))),(26,(.I (l.length:Int))),(27,(.I (j:Int)))]∧h=hp h0 ids [(some (.rows g 2 [[v4,(.bool fBad1)]])),(Ai v4 g6 4 (List.map Ac l3)),(some (.rows g2 1 [[(.q ids 0 g)]])),(some (.rows g4 3 [(Bk a)]))]) ?_ fun hJ1=>?_
   ·rintro⟨fBad1,l3⟩ fr h ⟨v4,g6,vH3,rfl,rfl⟩
    refine Al (I1.eq_1 _ _ _)<|Y<|O<|Ab 2 [3] [(38,(.agg (Bk a))),(37,(.func (.func 39) [] [(.q ids 2 g2)]))] ?_
    refine Ak [2,0,1] hI J J (Xh a fBad1 l3 _ (ix ids 2) (ix ids 0) (ix ids 1) g2 g v4 g6 vH3 (by exact hI.sub' J J)) J J J J J J (fun v _=>Ao (K:=3) (N:=1) Tryz.func38 hI) ?_
    rintro r1 _ _ _ ⟨v5,g7,vH4,rfl,rfl⟩
    refine Av [2,0,1] hI J J J ?_
    refine Ap<|Aa<|Aj ?_
    refine O<|Z (.q ids 0 g) J Ae<|Dd (e:=rS) (L:=[[59]]) (st:=1) (rows:=[[(.str [59])]]) J Dt Co J J J J J (.cons (RowSim.refl _) .nil) (fun x=>Gh x) J J<|Ak [0,1] hI J J (C2 [[59]] r1.1 r1.2 _ (ix ids 0) (ix ids 1) g v5 g7 vH4 (by exact hI.sub' J J)) J J J J J J (fun v _=>Ao (K:=3) (N:=1) Tryz.func38 hI) ?_
    rintro r2 _ _ _ ⟨v6,g8,vH5,rfl,rfl⟩
    refine Av [0,1] hI J J J ?_
    refine Ap<|Aa<|Aj ?_
    refine Bs<|O<|Ab 2 [] [(27,(.I (IntKind.wrap .i64 ((j:Int)+1))))] ?_
    refine Aa<|Eo [(some (.rows g 2 [[v6,(.bool r2.1)]])),(Ai v6 g8 4 (List.map Ac r2.2)),(some (.rows g2 1 [[(.q ids 0 g)]])),none] hI J (.keep (.keep (.keep (.drop .nil))))<|Br (Sm (hW (r2.1,r2.2) _ _ ⟨v6,g8,vH5,J,J⟩)) (.cons J (.cons J (.cons J (.cons J (.cons J (.cons (D8 (Bc ha) hlim) .nil))))))
   refine D1 J (fun hc=>?_) (fun hc=>?_)
   ·refine A2<|Br (hJ1 (fBad,l2) _ _ ⟨v2,g3,vH1,J,J⟩)
   refine O<|Ab 2 [] [(34,(.str text)),(33,(.q ids 0 g))] ?_
   refine Dd (e:=rS) (L:=[text]) (st:=1) (rows:=[[(.str text)]]) J Dt Co J J J J J (.cons (RowSim.refl _) .nil) (fun x=>Gh x) J J<|Ak [0,1] hI J J (Bx [text] fBad l2 _ (ix ids 0) (ix ids 1) g v2 g3 vH1 (by exact hI.sub' J J)) J J J J J J (fun v _=>Ao (K:=3) (N:=1) Tryz.func38 hI) ?_
   rintro r _ _ _ ⟨v3,g5,vH2,rfl,rfl⟩
   refine Av [0,1] hI J J J ?_
   refine Ap<|Aa<|Aj ?_
   exact Br (hJ1 (r.1,r.2) _ _ ⟨v3,g5,vH2,J,J⟩)
  rintro⟨fBad,l2⟩ fr h ⟨v2,g3,vH1,rfl,rfl⟩
  refine Al (Oc _ _ _)<|Y<|O<|Z (.bool (decide ((l.length:Int)<(l.length:Int)))) J (Bh J J J)<|Aa<|Y<|C6 J (Int.lt_irrefl _) ?_
  refine Db J<|B4 (K:=3) (N:=1) (a:=(fBad,l2)) (vs:=[]) [some (.rows g 2 [[v2,(.bool fBad)]]),Ai v2 g3 4 (List.map Ac l2),some (.rows g2 1 [[(.q ids 0 g)]])] Tryz.func38 hI J J J (.keep (.keep (.keep (.keep .nil)))) (.same _) ⟨v2,g3,vH1,J,J⟩
 ·refine A0 (t:=17) hb1 J<|Ab 5 [] [(22,(.bool true))] ?_
  exact Ba hJ (.cons J (.cons J (.cons J (.cons J (.cons J (.cons (Fb hb1) .nil))))))
 refine A0 (t:=17) hb1 J<|Bu (tj:=17) (.sl 3 (List.map Bk l)) J J J Ae<|Bu (tj:=17) (.I (l.length:Int)) J J J (Ay (A8 Gl))<|Ab 3 [] [(22,(.bool (decide ((l.length:Int) > most))))] ?_
 exact Ba hJ (.cons J (.cons J (.cons J (.cons J (.cons J (.cons (Fa hb1) .nil))))))
theorem Xb (a:Segment)(s1_bad:Bool)(l:List Token)(h0:Ag)(o0:Nat)(o1:Nat)(o2:Nat)(g:Nat)(g1:Nat)(v1:AV)(g2:Nat)(vH:A3 v1 o2 g2 l.length)(hI0:Ids h0 [o0,o1,o2] 3):Ny a s1_bad l≠.bad→Bl Tryz.prog 41 [(.agg (Bd a)),(.ptr o0 g 0 0)] (hp h0 [o0,o1,o2] [some (.rows g 1 [[(.ptr o1 g1 0 0)]]),some (.rows g1 2 [[v1,(.bool s1_bad)]]),Ai v1 g2 4 (List.map Ac l)]) (Ci (fun a_ v h' => ∃ (v8:AV),∃ (g10:Nat),A3 v8 o2 g10 a_.2.length∧v=(.tup [])∧h'=hp h0 [o0,o1,o2] [some (.rows g 1 [[(.ptr o1 g1 0 0)]]),some (.rows g1 2 [[v8,(.bool a_.1)]]),Ai v8 g10 4 (List.map Ac a_.2)]) h0 (Ny a s1_bad l)):=by
 refine A9 (n:=25) 1 Tryz.func41 J (by decide) J J hI0 J fun ids he hI=>?_
 clear hI0
 obtain rfl:ix ids 0=o0:=he 0 rfl
 obtain rfl:ix ids 1=o1:=he 1 rfl
 obtain rfl:ix ids 2=o2:=he 2 rfl
 clear he
 refine Bo (Al (Ny.eq_1 _ _ _) ?_)
 refine Aj ?_
 refine Y<|O<|Ck (v:=(.agg (Bd a))) (j:=3) hI J J J J J J J fun g3=>Aa<|Aj ?_
 refine Y<|O<|Ab 3 [0,3] [(5,(.str a.Name)),(3,(.q ids 1 g1))] ?_
 refine Ak [1,2] hI J J (Cw a.Name s1_bad l _ (ix ids 1) (ix ids 2) g1 v1 g2 vH (by exact hI.sub' J J)) J J J J J J (fun v _=>Ao (K:=3) (N:=1) Tryz.func41 hI) ?_
 rintro r _ _ _ ⟨v2,g4,vH1,rfl,rfl⟩
 refine Av [1,2] hI J J J ?_
 refine Ap<|Aa<|Aj ?_
 refine Y<|O<|Ab 1 [0] [(7,(.q ids 1 g1))] ?_
 refine Dd (e:=rS) (L:=[[105,110]]) (st:=1) (rows:=[[(.str [105,110])]]) J Dt Co J J J J J (.cons (RowSim.refl _) .nil) (fun x=>Gh x) J J<|Ak [1,2] hI J J (Bx [[105,110]] r.1 r.2 _ (ix ids 1) (ix ids 2) g1 v2 g4 vH1 (by exact hI.sub' J J)) J J J J J J (fun v _=>Ao (K:=3) (N:=1) Tryz.func41 hI) ?_
 rintro r1 _ _ _ ⟨v3,g5,vH2,rfl,rfl⟩
 refine Av [1,2] hI J J J ?_
 refine Ap<|Aa<|Aj ?_
 refine Y<|O<|Ab 3 [0,3] [(12,(.str a.In)),(10,(.q ids 1 g1))] ?_
 refine Ak [1,2] hI J J (Cw a.In r1.1 r1.2 _ (ix ids 1) (ix ids 2) g1 v3 g5 vH2 (by exact hI.sub' J J)) J J J J J J (fun v _=>Ao (K:=3) (N:=1) Tryz.func41 hI) ?_
 rintro r2 _ _ _ ⟨v4,g6,vH3,rfl,rfl⟩
 refine Av [1,2] hI J J J ?_
 refine Ap<|Aa<|Aj ?_
 refine Y<|O<|Ab 1 [0] [(14,(.q ids 1 g1))] ?_
 refine Dd (e:=rS) (L:=[[108,101,110,103,116,104]]) (st:=1) (rows:=[[(.str [108,101,110,103,116,104])]]) J Dt Co J J J J J (.cons (RowSim.refl _) .nil) (fun x=>Gh x) J J<|Ak [1,2] hI J J (Bx [[108,101,110,103,116,104]] r2.1 r2.2 _ (ix ids 1) (ix ids 2) g1 v4 g6 vH3 (by exact hI.sub' J J)) J J J J J J (fun v _=>Ao (K:=3) (N:=1) Tryz.func41 hI) ?_
 rintro r3 _ _ _ ⟨v5,g7,vH4,rfl,rfl⟩
 refine Av [1,2] hI J J J ?_
 refine Ap<|Aa<|Aj ?_
 refine Y<|O<|Ab 3 [0,3] [(19,(.I a.Length)),(17,(.q ids 1 g1))] ?_
 refine Ak [1,2] hI J J (Df a.Length 1 4096 r3.1 r3.2 _ (ix ids 1) (ix ids 2) g1 v5 g7 vH4 (by exact hI.sub' J J)) J J J J J J (fun v _=>Ao (K:=3) (N:=1) Tryz.func41 hI) ?_
 rintro r4 _ _ _ ⟨v6,g8,vH5,rfl,rfl⟩
 refine Av [1,2] hI J J J ?_
 refine Ap<|Aa<|Aj ?_
 refine O<|Ab 3 [0,3] [(23,(.sl 2 (List.map B5 a.Open))),(21,(.q ids 1 g1))] ?_
 refine Ak [1,2] hI J J (Pw [111,112,101,110] a.Open (r3.1||(!((decide (a.Length≥1))&&(decide (a.Length≤4096))))) r4 _ (ix ids 1) (ix ids 2) g1 v6 g8 vH5 (by exact hI.sub' J J)) J J J J J J (fun v _=>Ao (K:=3) (N:=1) Tryz.func41 hI) ?_
 rintro r5 _ _ _ ⟨v7,g9,vH6,rfl,rfl⟩
 refine Av [1,2] hI J J J ?_
 refine Ap<|Aa<|Aj ?_
 exact B4 (K:=3) (N:=1) (a:=(r5.1,r5.2)) (vs:=[]) [some (.rows g 1 [[(.q ids 1 g1)]]),some (.rows g1 2 [[v7,(.bool r5.1)]]),Ai v7 g9 4 (List.map Ac r5.2)] Tryz.func41 hI J J J (.keep (.keep (.keep (.drop .nil)))) (.same _) ⟨v7,g9,vH6,J,J⟩
theorem Sg (text:Au)(l:List Segment)(most:Int)(s0_bad:Bool)(l1:List Token)(h0:Ag)(o0:Nat)(o1:Nat)(o2:Nat)(g:Nat)(v1:AV)(g1:Nat)(g2:Nat)(vH:A3 v1 o1 g1 l1.length)(hI0:Ids h0 [o0,o1,o2] 3):J6 text l most s0_bad l1≠.bad→Bl Tryz.prog 40 [(.ptr o0 g 0 0),(.str text),(.sl 5 (List.map Bd l)),(.int .i64 most),(.func (.func 41) [] [(.ptr o2 g2 0 0)])] (hp h0 [o0,o1,o2] [some (.rows g 2 [[v1,(.bool s0_bad)]]),Ai v1 g1 4 (List.map Ac l1),some (.rows g2 1 [[(.ptr o0 g 0 0)]])]) (Ci (fun a_ v h' => ∃ (v7:AV),∃ (g9:Nat),A3 v7 o1 g9 a_.2.length∧v=(.tup [])∧h'=hp h0 [o0,o1,o2] [some (.rows g 2 [[v7,(.bool a_.1)]]),Ai v7 g9 4 (List.map Ac a_.2),some (.rows g2 1 [[(.ptr o0 g 0 0)]])]) h0 (J6 text l most s0_bad l1)):=by
 refine A9 (n:=44) 1 Tryz.func40 J (by decide) J J hI0 J fun ids he hI=>?_
 clear hI0
 obtain rfl:ix ids 0=o0:=he 0 rfl
 obtain rfl:ix ids 1=o1:=he 1 rfl
 obtain rfl:ix ids 2=o2:=he 2 rfl
 clear he
 refine Bo (Al (J6.eq_1 _ _ _ _ _) ?_)
 refine Aj ?_
 refine Y<|O<|Ab 6 [0] [(17,(.bool s0_bad)),(12,(.q ids 0 g))] ?_
 refine Bw 5 [(0,(.q ids 0 g)),(1,(.str text)),(2,(.sl 5 (List.map Bd l))),(4,(.func (.func 41) [] [(.q ids 2 g2)])),(12,(.q ids 0 g)),(22,(.bool (s0_bad||(decide ((l.length:Int) > most)))))] ?_ fun hJ=>Bq s0_bad (fun hb1=>?_) (fun hb1=>?_)
 ·refine Ab 2 [] [(24,(.ptr (ix ids 0) g 0 1))] ?_
  refine Ar (Ax (v:=(.bool (s0_bad||(decide ((l.length:Int) > most))))) hI J J J J Pi J J J J J)<|Aa<|Aj ?_
  refine Y<|O<|Z (.sl 5 (List.map Bd l)) J Ae<|Z (.I (l.length:Int)) J (Ay (A8 Gk))<|Z (.I 0) J Ae<|Aa<|Bf ?_
  refine Ea [(0,(.q ids 0 g)),(1,(.str text)),(4,(.func (.func 41) [] [(.q ids 2 g2)])),(25,(.sl 5 (List.map Bd l))),(26,(.I (l.length:Int))),(27,(.I 0))] (FI J)<|Jw (P:=Tryz.prog) l (fun _ a=>C0 fun fBad l2=>Ie text a fBad l2) (((C0 fun fBad l2=>.ok (fBad,l2))):(Bool×(List Token))→R (Bool×(List Token))) (fun j=>C0 fun fBad l2=>fun(fr:Nat→AV) (h:Ag) => ∃ (v2:AV),∃ (g3:Nat),A3 v2 (ix ids 1) g3 l2.length∧fr=A5 [(0,(.q ids 0 g)),(1,(.str text)),(4,(.func (.func 41) [] [(.q ids 2 g2)])),(25,(.sl 5 (List.map Bd l))),(26,(.I (l.length:Int))),(27,(.I (j:Int)))]∧h=hp h0 ids [(some (.rows g 2 [[v2,(.bool fBad)]])),(Ai v2 g3 4 (List.map Ac l2)),(some (.rows g2 1 [[(.q ids 0 g)]])),none]) ((s0_bad||(decide ((l.length:Int) > most))),l1) ?_ ?_ ?_
  ·exact⟨v1,g1,vH,J,J⟩
  ·rintro j a ha W hW ⟨fBad,l2⟩ fr h ⟨v2,g3,vH1,rfl,rfl⟩
   refine Al (m':=Ie text a fBad l2) J (Al (Ie.eq_1 _ _ _ _) ?_)
   refine Y<|O<|Z (.bool (decide ((j:Int)<(l.length:Int)))) J (Bh J J J)<|Aa<|Y<|Eb (t:=25) (L:=l) J fun hlim=>C7 J (Int.ofNat_lt.2 (Bc ha)) ?_
   refine A2<|Y<|Bf<|Y<|O<|Z (.cp (Bd a) 0) J (By (Do Gk Hq J ha))<|Z (.agg (Bd a)) J (Aq (Cl Hq J)) ?_
   refine Bg (j:=3) hI J J J J Hq J fun g4=>Ar (Ax (v:=(.agg (Bd a))) hI J J J J Hq J J J J J)<|Aa<|Aj ?_
   refine Y<|Y<|O<|Ab 2 [] [(32,(.bool (!(text==[]))))] ?_
   refine Aa<|D6 (C0 fun fBad1 l3=>H9 a fBad1 l3) (C0 fun fBad1 l3=>fun(fr:Nat→AV) (h:Ag) => ∃ (v4:AV),∃ (g6:Nat),A3 v4 (ix ids 1) g6 l3.length∧fr=A5 [(0,(.q ids 0 g)),(1,(.str text)),(4,(.func (.func 41) [] [(.q ids 2 g2)])),(11,(.q ids 3 g4)),(25,(.sl 5 (List.map Bd l))),(26,(.I (l.length:Int))),(27,(.I (j:Int)))]∧h=hp h0 ids [(some (.rows g 2 [[v4,(.bool fBad1)]])),(Ai v4 g6 4 (List.map Ac l3)),(some (.rows g2 1 [[(.q ids 0 g)]])),(some (.rows g4 5 [(Bd a)]))]) ?_ fun hJ1=>?_
   ·rintro⟨fBad1,l3⟩ fr h ⟨v4,g6,vH3,rfl,rfl⟩
    refine Al (H9.eq_1 _ _ _)<|Y<|O<|Ab 2 [3] [(38,(.agg (Bd a))),(37,(.func (.func 41) [] [(.q ids 2 g2)]))] ?_
    refine Ak [2,0,1] hI J J (Xb a fBad1 l3 _ (ix ids 2) (ix ids 0) (ix ids 1) g2 g v4 g6 vH3 (by exact hI.sub' J J)) J J J J J J (fun v _=>Ao (K:=3) (N:=1) Tryz.func40 hI) ?_
    rintro r1 _ _ _ ⟨v5,g7,vH4,rfl,rfl⟩
    refine Av [2,0,1] hI J J J ?_
    refine Ap<|Aa<|Aj ?_
    refine O<|Z (.q ids 0 g) J Ae<|Dd (e:=rS) (L:=[[59]]) (st:=1) (rows:=[[(.str [59])]]) J Dt Co J J J J J (.cons (RowSim.refl _) .nil) (fun x=>Gh x) J J<|Ak [0,1] hI J J (C2 [[59]] r1.1 r1.2 _ (ix ids 0) (ix ids 1) g v5 g7 vH4 (by exact hI.sub' J J)) J J J J J J (fun v _=>Ao (K:=3) (N:=1) Tryz.func40 hI) ?_
    rintro r2 _ _ _ ⟨v6,g8,vH5,rfl,rfl⟩
    refine Av [0,1] hI J J J ?_
    refine Ap<|Aa<|Aj ?_
    refine Bs<|O<|Ab 2 [] [(27,(.I (IntKind.wrap .i64 ((j:Int)+1))))] ?_
    refine Aa<|Eo [(some (.rows g 2 [[v6,(.bool r2.1)]])),(Ai v6 g8 4 (List.map Ac r2.2)),(some (.rows g2 1 [[(.q ids 0 g)]])),none] hI J (.keep (.keep (.keep (.drop .nil))))<|Br (Sm (hW (r2.1,r2.2) _ _ ⟨v6,g8,vH5,J,J⟩)) (.cons J (.cons J (.cons J (.cons J (.cons J (.cons (D8 (Bc ha) hlim) .nil))))))
   refine D1 J (fun hc=>?_) (fun hc=>?_)
   ·refine A2<|Br (hJ1 (fBad,l2) _ _ ⟨v2,g3,vH1,J,J⟩)
   refine O<|Ab 2 [] [(34,(.str text)),(33,(.q ids 0 g))] ?_
   refine Dd (e:=rS) (L:=[text]) (st:=1) (rows:=[[(.str text)]]) J Dt Co J J J J J (.cons (RowSim.refl _) .nil) (fun x=>Gh x) J J<|Ak [0,1] hI J J (Bx [text] fBad l2 _ (ix ids 0) (ix ids 1) g v2 g3 vH1 (by exact hI.sub' J J)) J J J J J J (fun v _=>Ao (K:=3) (N:=1) Tryz.func40 hI) ?_
   rintro r _ _ _ ⟨v3,g5,vH2,rfl,rfl⟩
   refine Av [0,1] hI J J J ?_
   refine Ap<|Aa<|Aj ?_
   exact Br (hJ1 (r.1,r.2) _ _ ⟨v3,g5,vH2,J,J⟩)
  rintro⟨fBad,l2⟩ fr h ⟨v2,g3,vH1,rfl,rfl⟩
  refine Al (Oc _ _ _)<|Y<|O<|Z (.bool (decide ((l.length:Int)<(l.length:Int)))) J (Bh J J J)<|Aa<|Y<|C6 J (Int.lt_irrefl _) ?_
  refine Db J<|B4 (K:=3) (N:=1) (a:=(fBad,l2)) (vs:=[]) [some (.rows g 2 [[v2,(.bool fBad)]]),Ai v2 g3 4 (List.map Ac l2),some (.rows g2 1 [[(.q ids 0 g)]])] Tryz.func40 hI J J J (.keep (.keep (.keep (.keep .nil)))) (.same _) ⟨v2,g3,vH1,J,J⟩
 ·refine A0 (t:=17) hb1 J<|Ab 5 [] [(22,(.bool true))] ?_
  exact Ba hJ (.cons J (.cons J (.cons J (.cons J (.cons J (.cons (Fb hb1) .nil))))))
 refine A0 (t:=17) hb1 J<|Bu (tj:=17) (.sl 5 (List.map Bd l)) J J J Ae<|Bu (tj:=17) (.I (l.length:Int)) J J J (Ay (A8 Gk))<|Ab 3 [] [(22,(.bool (decide ((l.length:Int) > most))))] ?_
 exact Ba hJ (.cons J (.cons J (.cons J (.cons J (.cons J (.cons (Fa hb1) .nil))))))
theorem W7 (a:Route)(s1_bad:Bool)(l:List Token)(h0:Ag)(o0:Nat)(o1:Nat)(o2:Nat)(g:Nat)(g1:Nat)(v1:AV)(g2:Nat)(vH:A3 v1 o2 g2 l.length)(hI0:Ids h0 [o0,o1,o2] 3):N4 a s1_bad l≠.bad→Bl Tryz.prog 43 [(.agg (Bt a)),(.ptr o0 g 0 0)] (hp h0 [o0,o1,o2] [some (.rows g 1 [[(.ptr o1 g1 0 0)]]),some (.rows g1 2 [[v1,(.bool s1_bad)]]),Ai v1 g2 4 (List.map Ac l)]) (Ci (fun a_ v h' => ∃ (v9:AV),∃ (g11:Nat),A3 v9 o2 g11 a_.2.length∧v=(.tup [])∧h'=hp h0 [o0,o1,o2] [some (.rows g 1 [[(.ptr o1 g1 0 0)]]),some (.rows g1 2 [[v9,(.bool a_.1)]]),Ai v9 g11 4 (List.map Ac a_.2)]) h0 (N4 a s1_bad l)):=by
 refine A9 (n:=30) 1 Tryz.func43 J (by decide) J J hI0 J fun ids he hI=>?_
 clear hI0
 obtain rfl:ix ids 0=o0:=he 0 rfl
 obtain rfl:ix ids 1=o1:=he 1 rfl
 obtain rfl:ix ids 2=o2:=he 2 rfl
 clear he
 refine Bo (Al (N4.eq_1 _ _ _) ?_)
 refine Aj ?_
 refine Y<|O<|Ck (v:=(.agg (Bt a))) (j:=3) hI J J J J J J J fun g3=>Aa<|Aj ?_
 refine Y<|O<|Ab 3 [0,3] [(5,(.str a.Name)),(3,(.q ids 1 g1))] ?_
 refine Ak [1,2] hI J J (Cw a.Name s1_bad l _ (ix ids 1) (ix ids 2) g1 v1 g2 vH (by exact hI.sub' J J)) J J J J J J (fun v _=>Ao (K:=3) (N:=1) Tryz.func43 hI) ?_
 rintro r _ _ _ ⟨v2,g4,vH1,rfl,rfl⟩
 refine Av [1,2] hI J J J ?_
 refine Ap<|Aa<|Aj ?_
 refine Y<|O<|Ab 1 [0] [(7,(.q ids 1 g1))] ?_
 refine Dd (e:=rS) (L:=[[102,114,111,109]]) (st:=1) (rows:=[[(.str [102,114,111,109])]]) J Dt Co J J J J J (.cons (RowSim.refl _) .nil) (fun x=>Gh x) J J<|Ak [1,2] hI J J (Bx [[102,114,111,109]] r.1 r.2 _ (ix ids 1) (ix ids 2) g1 v2 g4 vH1 (by exact hI.sub' J J)) J J J J J J (fun v _=>Ao (K:=3) (N:=1) Tryz.func43 hI) ?_
 rintro r1 _ _ _ ⟨v3,g5,vH2,rfl,rfl⟩
 refine Av [1,2] hI J J J ?_
 refine Ap<|Aa<|Aj ?_
 refine Y<|O<|Ab 3 [0,3] [(12,(.str a.A)),(10,(.q ids 1 g1))] ?_
 refine Ak [1,2] hI J J (Cw a.A r1.1 r1.2 _ (ix ids 1) (ix ids 2) g1 v3 g5 vH2 (by exact hI.sub' J J)) J J J J J J (fun v _=>Ao (K:=3) (N:=1) Tryz.func43 hI) ?_
 rintro r2 _ _ _ ⟨v4,g6,vH3,rfl,rfl⟩
 refine Av [1,2] hI J J J ?_
 refine Ap<|Aa<|Aj ?_
 refine Y<|O<|Ab 1 [0] [(14,(.q ids 1 g1))] ?_
 refine Dd (e:=rS) (L:=[[116,111]]) (st:=1) (rows:=[[(.str [116,111])]]) J Dt Co J J J J J (.cons (RowSim.refl _) .nil) (fun x=>Gh x) J J<|Ak [1,2] hI J J (Bx [[116,111]] r2.1 r2.2 _ (ix ids 1) (ix ids 2) g1 v4 g6 vH3 (by exact hI.sub' J J)) J J J J J J (fun v _=>Ao (K:=3) (N:=1) Tryz.func43 hI) ?_
 rintro r3 _ _ _ ⟨v5,g7,vH4,rfl,rfl⟩
 refine Av [1,2] hI J J J ?_
 refine Ap<|Aa<|Aj ?_
 refine Y<|O<|Ab 3 [0,3] [(19,(.str a.B)),(17,(.q ids 1 g1))] ?_
 refine Ak [1,2] hI J J (Cw a.B r3.1 r3.2 _ (ix ids 1) (ix ids 2) g1 v5 g7 vH4 (by exact hI.sub' J J)) J J J J J J (fun v _=>Ao (K:=3) (N:=1) Tryz.func43 hI) ?_
 rintro r4 _ _ _ ⟨v6,g8,vH5,rfl,rfl⟩
 refine Av [1,2] hI J J J ?_
 refine Ap<|Aa<|Aj ?_
 refine Y<|O<|Ab 1 [0] [(21,(.q ids 1 g1))] ?_
 refine Dd (e:=rS) (L:=[[118,105,97]]) (st:=1) (rows:=[[(.str [118,105,97])]]) J Dt Co J J J J J (.cons (RowSim.refl _) .nil) (fun x=>Gh x) J J<|Ak [1,2] hI J J (Bx [[118,105,97]] r4.1 r4.2 _ (ix ids 1) (ix ids 2) g1 v6 g8 vH5 (by exact hI.sub' J J)) J J J J J J (fun v _=>Ao (K:=3) (N:=1) Tryz.func43 hI) ?_
 rintro r5 _ _ _ ⟨v7,g9,vH6,rfl,rfl⟩
 refine Av [1,2] hI J J J ?_
 refine Ap<|Aa<|Aj ?_
 refine O<|Ab 5 [0,3,0] [(28,(.func (.func 30) [(.q ids 1 g1)] [])),(26,(.sl 1 (List.map rS a.Names))),(24,(.q ids 1 g1))] ?_
 refine Ak [1,2] hI J J (Ly a.Names 8 r5.1 r5.2 _ (ix ids 1) (ix ids 2) g1 v7 g9 vH6 (by exact hI.sub' J J)) J J J J J J (fun v _=>Ao (K:=3) (N:=1) Tryz.func43 hI) ?_
 rintro r6 _ _ _ ⟨v8,g10,vH7,rfl,rfl⟩
 refine Av [1,2] hI J J J ?_
 refine Ap<|Aa<|Aj ?_
 exact B4 (K:=3) (N:=1) (a:=(r6.1,r6.2)) (vs:=[]) [some (.rows g 1 [[(.q ids 1 g1)]]),some (.rows g1 2 [[v8,(.bool r6.1)]]),Ai v8 g10 4 (List.map Ac r6.2)] Tryz.func43 hI J J J (.keep (.keep (.keep (.drop .nil)))) (.same _) ⟨v8,g10,vH7,J,J⟩
theorem Tt (text:Au)(l:List Route)(most:Int)(s0_bad:Bool)(l1:List Token)(h0:Ag)(o0:Nat)(o1:Nat)(o2:Nat)(g:Nat)(v1:AV)(g1:Nat)(g2:Nat)(vH:A3 v1 o1 g1 l1.length)(hI0:Ids h0 [o0,o1,o2] 3):K9 text l most s0_bad l1≠.bad→Bl Tryz.prog 42 [(.ptr o0 g 0 0),(.str text),(.sl 7 (List.map Bt l)),(.int .i64 most),(.func (.func 43) [] [(.ptr o2 g2 0 0)])] (hp h0 [o0,o1,o2] [some (.rows g 2 [[v1,(.bool s0_bad)]]),Ai v1 g1 4 (List.map Ac l1),some (.rows g2 1 [[(.ptr o0 g 0 0)]])]) (Ci (fun a_ v h' => ∃ (v7:AV),∃ (g9:Nat),A3 v7 o1 g9 a_.2.length∧v=(.tup [])∧h'=hp h0 [o0,o1,o2] [some (.rows g 2 [[v7,(.bool a_.1)]]),Ai v7 g9 4 (List.map Ac a_.2),some (.rows g2 1 [[(.ptr o0 g 0 0)]])]) h0 (K9 text l most s0_bad l1)):=by
 refine A9 (n:=44) 1 Tryz.func42 J (by decide) J J hI0 J fun ids he hI=>?_
 clear hI0
 obtain rfl:ix ids 0=o0:=he 0 rfl
 obtain rfl:ix ids 1=o1:=he 1 rfl
 obtain rfl:ix ids 2=o2:=he 2 rfl
 clear he
 refine Bo (Al (K9.eq_1 _ _ _ _ _) ?_)
 refine Aj ?_
 refine Y<|O<|Ab 6 [0] [(17,(.bool s0_bad)),(12,(.q ids 0 g))] ?_
 refine Bw 5 [(0,(.q ids 0 g)),(1,(.str text)),(2,(.sl 7 (List.map Bt l))),(4,(.func (.func 43) [] [(.q ids 2 g2)])),(12,(.q ids 0 g)),(22,(.bool (s0_bad||(decide ((l.length:Int) > most)))))] ?_ fun hJ=>Bq s0_bad (fun hb1=>?_) (fun hb1=>?_)
 ·refine Ab 2 [] [(24,(.ptr (ix ids 0) g 0 1))] ?_
  refine Ar (Ax (v:=(.bool (s0_bad||(decide ((l.length:Int) > most))))) hI J J J J Pi J J J J J)<|Aa<|Aj ?_
  refine Y<|O<|Z (.sl 7 (List.map Bt l)) J Ae<|Z (.I (l.length:Int)) J (Ay (A8 Gi))<|Z (.I 0) J Ae<|Aa<|Bf ?_
  refine Ea [(0,(.q ids 0 g)),(1,(.str text)),(4,(.func (.func 43) [] [(.q ids 2 g2)])),(25,(.sl 7 (List.map Bt l))),(26,(.I (l.length:Int))),(27,(.I 0))] (FI J)<|Jw (P:=Tryz.prog) l (fun _ a=>C0 fun fBad l2=>Jr text a fBad l2) (((C0 fun fBad l2=>.ok (fBad,l2))):(Bool×(List Token))→R (Bool×(List Token))) (fun j=>C0 fun fBad l2=>fun(fr:Nat→AV) (h:Ag) => ∃ (v2:AV),∃ (g3:Nat),A3 v2 (ix ids 1) g3 l2.length∧fr=A5 [(0,(.q ids 0 g)),(1,(.str text)),(4,(.func (.func 43) [] [(.q ids 2 g2)])),(25,(.sl 7 (List.map Bt l))),(26,(.I (l.length:Int))),(27,(.I (j:Int)))]∧h=hp h0 ids [(some (.rows g 2 [[v2,(.bool fBad)]])),(Ai v2 g3 4 (List.map Ac l2)),(some (.rows g2 1 [[(.q ids 0 g)]])),none]) ((s0_bad||(decide ((l.length:Int) > most))),l1) ?_ ?_ ?_
  ·exact⟨v1,g1,vH,J,J⟩
  ·rintro j a ha W hW ⟨fBad,l2⟩ fr h ⟨v2,g3,vH1,rfl,rfl⟩
   refine Al (m':=Jr text a fBad l2) J (Al (Jr.eq_1 _ _ _ _) ?_)
   refine Y<|O<|Z (.bool (decide ((j:Int)<(l.length:Int)))) J (Bh J J J)<|Aa<|Y<|Eb (t:=25) (L:=l) J fun hlim=>C7 J (Int.ofNat_lt.2 (Bc ha)) ?_
   refine A2<|Y<|Bf<|Y<|O<|Z (.cp (Bt a) 0) J (By (Do Gi Hp J ha))<|Z (.agg (Bt a)) J (Aq (Cl Hp J)) ?_
   refine Bg (j:=3) hI J J J J Hp J fun g4=>Ar (Ax (v:=(.agg (Bt a))) hI J J J J Hp J J J J J)<|Aa<|Aj ?_
   refine Y<|Y<|O<|Ab 2 [] [(32,(.bool (!(text==[]))))] ?_
   refine Aa<|D6 (C0 fun fBad1 l3=>Jk a fBad1 l3) (C0 fun fBad1 l3=>fun(fr:Nat→AV) (h:Ag) => ∃ (v4:AV),∃ (g6:Nat),A3 v4 (ix ids 1) g6 l3.length∧fr=A5 [(0,(.q ids 0 g)),(1,(.str text)),(4,(.func (.func 43) [] [(.q ids 2 g2)])),(11,(.q ids 3 g4)),(25,(.sl 7 (List.map Bt l))),(26,(.I (l.length:Int))),(27,(.I (j:Int)))]∧h=hp h0 ids [(some (.rows g 2 [[v4,(.bool fBad1)]])),(Ai v4 g6 4 (List.map Ac l3)),(some (.rows g2 1 [[(.q ids 0 g)]])),(some (.rows g4 7 [(Bt a)]))]) ?_ fun hJ1=>?_
   ·rintro⟨fBad1,l3⟩ fr h ⟨v4,g6,vH3,rfl,rfl⟩
    refine Al (Jk.eq_1 _ _ _)<|Y<|O<|Ab 2 [3] [(38,(.agg (Bt a))),(37,(.func (.func 43) [] [(.q ids 2 g2)]))] ?_
    refine Ak [2,0,1] hI J J (W7 a fBad1 l3 _ (ix ids 2) (ix ids 0) (ix ids 1) g2 g v4 g6 vH3 (by exact hI.sub' J J)) J J J J J J (fun v _=>Ao (K:=3) (N:=1) Tryz.func42 hI) ?_
    rintro r1 _ _ _ ⟨v5,g7,vH4,rfl,rfl⟩
    refine Av [2,0,1] hI J J J ?_
    refine Ap<|Aa<|Aj ?_
    refine O<|Z (.q ids 0 g) J Ae<|Dd (e:=rS) (L:=[[59]]) (st:=1) (rows:=[[(.str [59])]]) J Dt Co J J J J J (.cons (RowSim.refl _) .nil) (fun x=>Gh x) J J<|Ak [0,1] hI J J (C2 [[59]] r1.1 r1.2 _ (ix ids 0) (ix ids 1) g v5 g7 vH4 (by exact hI.sub' J J)) J J J J J J (fun v _=>Ao (K:=3) (N:=1) Tryz.func42 hI) ?_
    rintro r2 _ _ _ ⟨v6,g8,vH5,rfl,rfl⟩
    refine Av [0,1] hI J J J ?_
    refine Ap<|Aa<|Aj ?_
    refine Bs<|O<|Ab 2 [] [(27,(.I (IntKind.wrap .i64 ((j:Int)+1))))] ?_
    refine Aa<|Eo [(some (.rows g 2 [[v6,(.bool r2.1)]])),(Ai v6 g8 4 (List.map Ac r2.2)),(some (.rows g2 1 [[(.q ids 0 g)]])),none] hI J (.keep (.keep (.keep (.drop .nil))))<|Br (Sm (hW (r2.1,r2.2) _ _ ⟨v6,g8,vH5,J,J⟩)) (.cons J (.cons J (.cons J (.cons J (.cons J (.cons (D8 (Bc ha) hlim) .nil))))))
   refine D1 J (fun hc=>?_) (fun hc=>?_)
   ·refine A2<|Br (hJ1 (fBad,l2) _ _ ⟨v2,g3,vH1,J,J⟩)
   refine O<|Ab 2 [] [(34,(.str text)),(33,(.q ids 0 g))] ?_
   refine Dd (e:=rS) (L:=[text]) (st:=1) (rows:=[[(.str text)]]) J Dt Co J J J J J (.cons (RowSim.refl _) .nil) (fun x=>Gh x) J J<|Ak [0,1] hI J J (Bx [text] fBad l2 _ (ix ids 0) (ix ids 1) g v2 g3 vH1 (by exact hI.sub' J J)) J J J J J J (fun v _=>Ao (K:=3) (N:=1) Tryz.func42 hI) ?_
   rintro r _ _ _ ⟨v3,g5,vH2,rfl,rfl⟩
   refine Av [0,1] hI J J J ?_
   refine Ap<|Aa<|Aj ?_
   exact Br (hJ1 (r.1,r.2) _ _ ⟨v3,g5,vH2,J,J⟩)
  rintro⟨fBad,l2⟩ fr h ⟨v2,g3,vH1,rfl,rfl⟩
  refine Al (Oc _ _ _)<|Y<|O<|Z (.bool (decide ((l.length:Int)<(l.length:Int)))) J (Bh J J J)<|Aa<|Y<|C6 J (Int.lt_irrefl _) ?_
  refine Db J<|B4 (K:=3) (N:=1) (a:=(fBad,l2)) (vs:=[]) [some (.rows g 2 [[v2,(.bool fBad)]]),Ai v2 g3 4 (List.map Ac l2),some (.rows g2 1 [[(.q ids 0 g)]])] Tryz.func42 hI J J J (.keep (.keep (.keep (.keep .nil)))) (.same _) ⟨v2,g3,vH1,J,J⟩
 ·refine A0 (t:=17) hb1 J<|Ab 5 [] [(22,(.bool true))] ?_
  exact Ba hJ (.cons J (.cons J (.cons J (.cons J (.cons J (.cons (Fb hb1) .nil))))))
 refine A0 (t:=17) hb1 J<|Bu (tj:=17) (.sl 7 (List.map Bt l)) J J J Ae<|Bu (tj:=17) (.I (l.length:Int)) J J J (Ay (A8 Gi))<|Ab 3 [] [(22,(.bool (decide ((l.length:Int) > most))))] ?_
 exact Ba hJ (.cons J (.cons J (.cons J (.cons J (.cons J (.cons (Fa hb1) .nil))))))
theorem Vj (m:Mode)(s1_bad:Bool)(l:List Token)(h0:Ag)(o0:Nat)(o1:Nat)(o2:Nat)(g:Nat)(g1:Nat)(v1:AV)(g2:Nat)(vH:A3 v1 o2 g2 l.length)(hI0:Ids h0 [o0,o1,o2] 3):Mt m s1_bad l≠.bad→Bl Tryz.prog 47 [(.agg (Dh m)),(.ptr o0 g 0 0)] (hp h0 [o0,o1,o2] [some (.rows g 1 [[(.ptr o1 g1 0 0)]]),some (.rows g1 2 [[v1,(.bool s1_bad)]]),Ai v1 g2 4 (List.map Ac l)]) (Ci (fun a_ v h' => ∃ (v5:AV),∃ (g7:Nat),A3 v5 o2 g7 a_.2.length∧v=(.tup [])∧h'=hp h0 [o0,o1,o2] [some (.rows g 1 [[(.ptr o1 g1 0 0)]]),some (.rows g1 2 [[v5,(.bool a_.1)]]),Ai v5 g7 4 (List.map Ac a_.2)]) h0 (Mt m s1_bad l)):=by
 refine A9 (n:=14) 1 Tryz.func47 J (by decide) J J hI0 J fun ids he hI=>?_
 clear hI0
 obtain rfl:ix ids 0=o0:=he 0 rfl
 obtain rfl:ix ids 1=o1:=he 1 rfl
 obtain rfl:ix ids 2=o2:=he 2 rfl
 clear he
 refine Bo (Al (Mt.eq_1 _ _ _) ?_)
 refine Aj ?_
 refine Y<|O<|Ck (v:=(.agg (Dh m))) (j:=3) hI J J J J J J J fun g3=>Aa<|Aj ?_
 refine Y<|O<|Ab 1 [0] [(3,(.q ids 1 g1))] ?_
 refine Dd (e:=rS) (L:=[[109,111,100,101]]) (st:=1) (rows:=[[(.str [109,111,100,101])]]) J Dt Co J J J J J (.cons (RowSim.refl _) .nil) (fun x=>Gh x) J J<|Ak [1,2] hI J J (Bx [[109,111,100,101]] s1_bad l _ (ix ids 1) (ix ids 2) g1 v1 g2 vH (by exact hI.sub' J J)) J J J J J J (fun v _=>Ao (K:=3) (N:=1) Tryz.func47 hI) ?_
 rintro r _ _ _ ⟨v2,g4,vH1,rfl,rfl⟩
 refine Av [1,2] hI J J J ?_
 refine Ap<|Aa<|Aj ?_
 refine Y<|O<|Ab 3 [0,3] [(8,(.str m.Name)),(6,(.q ids 1 g1))] ?_
 refine Ak [1,2] hI J J (Cw m.Name r.1 r.2 _ (ix ids 1) (ix ids 2) g1 v2 g4 vH1 (by exact hI.sub' J J)) J J J J J J (fun v _=>Ao (K:=3) (N:=1) Tryz.func47 hI) ?_
 rintro r1 _ _ _ ⟨v3,g5,vH2,rfl,rfl⟩
 refine Av [1,2] hI J J J ?_
 refine Ap<|Aa<|Aj ?_
 refine O<|Ab 3 [0,3] [(12,(.I m.Places)),(10,(.q ids 1 g1))] ?_
 refine Ak [1,2] hI J J (Df m.Places 0 64 r1.1 r1.2 _ (ix ids 1) (ix ids 2) g1 v3 g5 vH2 (by exact hI.sub' J J)) J J J J J J (fun v _=>Ao (K:=3) (N:=1) Tryz.func47 hI) ?_
 rintro r2 _ _ _ ⟨v4,g6,vH3,rfl,rfl⟩
 refine Av [1,2] hI J J J ?_
 refine Ap<|Aa<|Aj ?_
 exact B4 (K:=3) (N:=1) (a:=((r1.1||(!((decide (m.Places≥0))&&(decide (m.Places≤64))))),r2)) (vs:=[]) [some (.rows g 1 [[(.q ids 1 g1)]]),some (.rows g1 2 [[v4,(.bool (r1.1||(!((decide (m.Places≥0))&&(decide (m.Places≤64))))))]]),Ai v4 g6 4 (List.map Ac r2)] Tryz.func47 hI J J J (.keep (.keep (.keep (.drop .nil)))) (.same _) ⟨v4,g6,vH3,J,J⟩
theorem Vk (l:List Mode)(most:Int)(s0_bad:Bool)(l1:List Token)(h0:Ag)(o0:Nat)(o1:Nat)(o2:Nat)(g:Nat)(v1:AV)(g1:Nat)(g2:Nat)(vH:A3 v1 o1 g1 l1.length)(hI0:Ids h0 [o0,o1,o2] 3):Mv l most s0_bad l1≠.bad→Bl Tryz.prog 46 [(.ptr o0 g 0 0),(.sl 2 (List.map Dh l)),(.int .i64 most),(.func (.func 47) [] [(.ptr o2 g2 0 0)])] (hp h0 [o0,o1,o2] [some (.rows g 2 [[v1,(.bool s0_bad)]]),Ai v1 g1 4 (List.map Ac l1),some (.rows g2 1 [[(.ptr o0 g 0 0)]])]) (Ci (fun a_ v h' => ∃ (v6:AV),∃ (g8:Nat),A3 v6 o1 g8 a_.2.length∧v=(.tup [])∧h'=hp h0 [o0,o1,o2] [some (.rows g 2 [[v6,(.bool a_.1)]]),Ai v6 g8 4 (List.map Ac a_.2),some (.rows g2 1 [[(.ptr o0 g 0 0)]])]) h0 (Mv l most s0_bad l1)):=by
 refine A9 (n:=44) 1 Tryz.func46 J (by decide) J J hI0 J fun ids he hI=>?_
 clear hI0
 obtain rfl:ix ids 0=o0:=he 0 rfl
 obtain rfl:ix ids 1=o1:=he 1 rfl
 obtain rfl:ix ids 2=o2:=he 2 rfl
 clear he
 refine Bo (Al (Mv.eq_1 _ _ _ _) ?_)
 refine Aj ?_
 refine Y<|O<|Ab 6 [0] [(15,(.bool s0_bad)),(10,(.q ids 0 g))] ?_
 refine Bw 4 [(0,(.q ids 0 g)),(1,(.sl 2 (List.map Dh l))),(2,(.I most)),(3,(.func (.func 47) [] [(.q ids 2 g2)])),(10,(.q ids 0 g)),(19,(.bool (s0_bad||((l.length:Int)==0))))] ?_ fun hJ=>Bq s0_bad (fun hb1=>?_) (fun hb1=>?_)
 ·refine Z (.bool (s0_bad||((l.length:Int)==0))) J Ae<|Bw 5 [(0,(.q ids 0 g)),(1,(.sl 2 (List.map Dh l))),(3,(.func (.func 47) [] [(.q ids 2 g2)])),(10,(.q ids 0 g)),(25,(.bool ((s0_bad||((l.length:Int)==0))||(decide ((l.length:Int) > most)))))] ?_ fun hJ1=>Bq (s0_bad||((l.length:Int)==0)) (fun hb3=>?_) (fun hb3=>?_)
  ·refine Ab 2 [] [(27,(.ptr (ix ids 0) g 0 1))] ?_
   refine Ar (Ax (v:=(.bool ((s0_bad||((l.length:Int)==0))||(decide ((l.length:Int) > most))))) hI J J J J Pi J J J J J)<|Aa<|Aj ?_
   refine Y<|O<|Z (.sl 2 (List.map Dh l)) J Ae<|Z (.I (l.length:Int)) J (Ay (A8 M6))<|Z (.I 0) J Ae<|Aa<|Bf ?_
   refine Ea [(0,(.q ids 0 g)),(3,(.func (.func 47) [] [(.q ids 2 g2)])),(28,(.sl 2 (List.map Dh l))),(29,(.I (l.length:Int))),(30,(.I 0))] (FI J)<|Jw (P:=Tryz.prog) l (fun j a=>C0 fun fBad l2=>Ld j a fBad l2) (((C0 fun fBad l2=>.ok (fBad,l2))):(Bool×(List Token))→R (Bool×(List Token))) (fun j=>C0 fun fBad l2=>fun(fr:Nat→AV) (h:Ag) => ∃ (v2:AV),∃ (g3:Nat),A3 v2 (ix ids 1) g3 l2.length∧fr=A5 [(0,(.q ids 0 g)),(3,(.func (.func 47) [] [(.q ids 2 g2)])),(28,(.sl 2 (List.map Dh l))),(29,(.I (l.length:Int))),(30,(.I (j:Int)))]∧h=hp h0 ids [(some (.rows g 2 [[v2,(.bool fBad)]])),(Ai v2 g3 4 (List.map Ac l2)),(some (.rows g2 1 [[(.q ids 0 g)]])),none]) (((s0_bad||((l.length:Int)==0))||(decide ((l.length:Int) > most))),l1) ?_ ?_ ?_
   ·exact⟨v1,g1,vH,J,J⟩
   ·rintro j a ha W hW ⟨fBad,l2⟩ fr h ⟨v2,g3,vH1,rfl,rfl⟩
    refine Al (m':=Ld j a fBad l2) J (Al (Ld.eq_1 _ _ _ _) ?_)
    refine Y<|O<|Z (.bool (decide ((j:Int)<(l.length:Int)))) J (Bh J J J)<|Aa<|Y<|Eb (t:=28) (L:=l) J fun hlim=>C7 J (Int.ofNat_lt.2 (Bc ha)) ?_
    refine A2<|Y<|Bf<|Y<|O<|Z (.I (j:Int)) J Ae<|Z (.cp (Dh a) 0) J (By (Do M6 Oe J ha)) ?_
    refine Z (.agg (Dh a)) J (Aq (Cl Oe J))<|Bg (j:=3) hI J J J J Oe J fun g4=>Z (.I (j:Int)) J An<|Ar (Ax (v:=(.agg (Dh a))) hI J J J J Oe J J J J J)<|Aa<|Aj ?_
    refine Y<|Y<|O<|Ab 2 [] [(36,(.bool (decide ((j:Int) > 0))))] ?_
    refine Aa<|D6 (C0 fun fBad1 l3=>La a fBad1 l3) (C0 fun fBad1 l3=>fun(fr:Nat→AV) (h:Ag) => ∃ (v4:AV),∃ (g6:Nat),A3 v4 (ix ids 1) g6 l3.length∧fr=A5 [(0,(.q ids 0 g)),(3,(.func (.func 47) [] [(.q ids 2 g2)])),(9,(.q ids 3 g4)),(28,(.sl 2 (List.map Dh l))),(29,(.I (l.length:Int))),(30,(.I (j:Int)))]∧h=hp h0 ids [(some (.rows g 2 [[v4,(.bool fBad1)]])),(Ai v4 g6 4 (List.map Ac l3)),(some (.rows g2 1 [[(.q ids 0 g)]])),(some (.rows g4 2 [(Dh a)]))]) ?_ fun hJ2=>?_
    ·rintro⟨fBad1,l3⟩ fr h ⟨v4,g6,vH3,rfl,rfl⟩
     refine Al (La.eq_1 _ _ _)<|O<|Ab 2 [3] [(41,(.agg (Dh a))),(40,(.func (.func 47) [] [(.q ids 2 g2)]))] ?_
     refine Ak [2,0,1] hI J J (Vj a fBad1 l3 _ (ix ids 2) (ix ids 0) (ix ids 1) g2 g v4 g6 vH3 (by exact hI.sub' J J)) J J J J J J (fun v _=>Ao (K:=3) (N:=1) Tryz.func46 hI) ?_
     rintro r1 _ _ _ ⟨v5,g7,vH4,rfl,rfl⟩
     refine Av [2,0,1] hI J J J ?_
     refine Ap<|Aa<|Aj ?_
     refine Bs<|O<|Ab 2 [] [(30,(.I (IntKind.wrap .i64 ((j:Int)+1))))] ?_
     refine Aa<|Eo [(some (.rows g 2 [[v5,(.bool r1.1)]])),(Ai v5 g7 4 (List.map Ac r1.2)),(some (.rows g2 1 [[(.q ids 0 g)]])),none] hI J (.keep (.keep (.keep (.drop .nil))))<|Br (Sm (hW (r1.1,r1.2) _ _ ⟨v5,g7,vH4,J,J⟩)) (.cons J (.cons J (.cons J (.cons J (.cons (D8 (Bc ha) hlim) .nil)))))
    refine Ph J (fun hc=>?_) (fun hc=>?_)
    ·refine O<|Z (.q ids 0 g) J Ae<|Dd (e:=rS) (L:=[[44]]) (st:=1) (rows:=[[(.str [44])]]) J Dt Co J J J J J (.cons (RowSim.refl _) .nil) (fun x=>Gh x) J J<|Ak [0,1] hI J J (C2 [[44]] fBad l2 _ (ix ids 0) (ix ids 1) g v2 g3 vH1 (by exact hI.sub' J J)) J J J J J J (fun v _=>Ao (K:=3) (N:=1) Tryz.func46 hI) ?_
     rintro r _ _ _ ⟨v3,g5,vH2,rfl,rfl⟩
     refine Av [0,1] hI J J J ?_
     refine Ap<|Aa<|Aj ?_
     exact Br (hJ2 (r.1,r.2) _ _ ⟨v3,g5,vH2,J,J⟩)
    refine A2<|Br (hJ2 (fBad,l2) _ _ ⟨v2,g3,vH1,J,J⟩)
   rintro⟨fBad,l2⟩ fr h ⟨v2,g3,vH1,rfl,rfl⟩
   refine Al (Oc _ _ _)<|Y<|O<|Z (.bool (decide ((l.length:Int)<(l.length:Int)))) J (Bh J J J)<|Aa<|Y<|C6 J (Int.lt_irrefl _) ?_
   refine Db J<|B4 (K:=3) (N:=1) (a:=(fBad,l2)) (vs:=[]) [some (.rows g 2 [[v2,(.bool fBad)]]),Ai v2 g3 4 (List.map Ac l2),some (.rows g2 1 [[(.q ids 0 g)]])] Tryz.func46 hI J J J (.keep (.keep (.keep (.keep .nil)))) (.same _) ⟨v2,g3,vH1,J,J⟩
  ·refine A0 (t:=20) hb3 J<|Ab 5 [] [(25,(.bool true))] ?_
   exact Ba hJ1 (.cons J (.cons J (.cons J (.cons J (.cons (Fb hb3) .nil)))))
  refine A0 (t:=20) hb3 J<|Bu (tj:=20) (.sl 2 (List.map Dh l)) J J J Ae<|Bu (tj:=20) (.I (l.length:Int)) J J J (Ay (A8 M6))<|Ab 3 [] [(25,(.bool (decide ((l.length:Int) > most))))] ?_
  exact Ba hJ1 (.cons J (.cons J (.cons J (.cons J (.cons (Fa hb3) .nil)))))
 ·refine A0 (t:=15) hb1 J<|Ab 4 [] [(19,(.bool true))] ?_
  exact Ba hJ (.cons J (.cons J (.cons J (.cons J (.cons J (.cons (Fb hb1) .nil))))))
 refine A0 (t:=15) hb1 J<|Bu (tj:=15) (.sl 2 (List.map Dh l)) J J J Ae<|Bu (tj:=15) (.I (l.length:Int)) J J J (Ay (A8 M6))<|Ab 2 [] [(19,(.bool ((l.length:Int)==0)))] ?_
 exact Ba hJ (.cons J (.cons J (.cons J (.cons J (.cons J (.cons (Fa hb1) .nil))))))
theorem Xn (a:Airport)(s1_bad:Bool)(l:List Token)(h0:Ag)(o0:Nat)(o1:Nat)(o2:Nat)(g:Nat)(g1:Nat)(v1:AV)(g2:Nat)(vH:A3 v1 o2 g2 l.length)(hI0:Ids h0 [o0,o1,o2] 3):Oa a s1_bad l≠.bad→Bl Tryz.prog 45 [(.agg (Bb a)),(.ptr o0 g 0 0)] (hp h0 [o0,o1,o2] [some (.rows g 1 [[(.ptr o1 g1 0 0)]]),some (.rows g1 2 [[v1,(.bool s1_bad)]]),Ai v1 g2 4 (List.map Ac l)]) (Ci (fun a_ v h' => ∃ (v4:AV),∃ (g6:Nat),A3 v4 o2 g6 a_.2.length∧v=(.tup [])∧h'=hp h0 [o0,o1,o2] [some (.rows g 1 [[(.ptr o1 g1 0 0)]]),some (.rows g1 2 [[v4,(.bool a_.1)]]),Ai v4 g6 4 (List.map Ac a_.2)]) h0 (Oa a s1_bad l)):=by
 refine A9 (n:=12) 1 Tryz.func45 J (by decide) J J hI0 J fun ids he hI=>?_
 clear hI0
 obtain rfl:ix ids 0=o0:=he 0 rfl
 obtain rfl:ix ids 1=o1:=he 1 rfl
 obtain rfl:ix ids 2=o2:=he 2 rfl
 clear he
 refine Bo (Al (Oa.eq_1 _ _ _) ?_)
 refine Aj ?_
 refine Y<|O<|Ck (v:=(.agg (Bb a))) (j:=3) hI J J J J J J J fun g3=>Aa<|Aj ?_
 refine Y<|O<|Ab 3 [0,3] [(5,(.str a.Name)),(3,(.q ids 1 g1))] ?_
 refine Ak [1,2] hI J J (Cw a.Name s1_bad l _ (ix ids 1) (ix ids 2) g1 v1 g2 vH (by exact hI.sub' J J)) J J J J J J (fun v _=>Ao (K:=3) (N:=1) Tryz.func45 hI) ?_
 rintro r _ _ _ ⟨v2,g4,vH1,rfl,rfl⟩
 refine Av [1,2] hI J J J ?_
 refine Ap<|Aa<|Aj ?_
 refine O<|Ab 4 [0,3] [(10,(.func (.func 47) [] [(.q ids 0 g)])),(9,(.sl 2 (List.map Dh a.Modes))),(7,(.q ids 1 g1))] ?_
 refine Ak [1,2,0] hI J J (Vk a.Modes 16 r.1 r.2 _ (ix ids 1) (ix ids 2) (ix ids 0) g1 v2 g4 g vH1 (by exact hI.sub' J J)) J J J J J J (fun v _=>Ao (K:=3) (N:=1) Tryz.func45 hI) ?_
 rintro r1 _ _ _ ⟨v3,g5,vH2,rfl,rfl⟩
 refine Av [1,2,0] hI J J J ?_
 refine Ap<|Aa<|Aj ?_
 exact B4 (K:=3) (N:=1) (a:=(r1.1,r1.2)) (vs:=[]) [some (.rows g 1 [[(.q ids 1 g1)]]),some (.rows g1 2 [[v3,(.bool r1.1)]]),Ai v3 g5 4 (List.map Ac r1.2)] Tryz.func45 hI J J J (.keep (.keep (.keep (.drop .nil)))) (.same _) ⟨v3,g5,vH2,J,J⟩
theorem Sb (text:Au)(l:List Airport)(most:Int)(s0_bad:Bool)(l1:List Token)(h0:Ag)(o0:Nat)(o1:Nat)(o2:Nat)(g:Nat)(v1:AV)(g1:Nat)(g2:Nat)(vH:A3 v1 o1 g1 l1.length)(hI0:Ids h0 [o0,o1,o2] 3):J7 text l most s0_bad l1≠.bad→Bl Tryz.prog 44 [(.ptr o0 g 0 0),(.str text),(.sl 2 (List.map Bb l)),(.int .i64 most),(.func (.func 45) [] [(.ptr o2 g2 0 0)])] (hp h0 [o0,o1,o2] [some (.rows g 2 [[v1,(.bool s0_bad)]]),Ai v1 g1 4 (List.map Ac l1),some (.rows g2 1 [[(.ptr o0 g 0 0)]])]) (Ci (fun a_ v h' => ∃ (v7:AV),∃ (g9:Nat),A3 v7 o1 g9 a_.2.length∧v=(.tup [])∧h'=hp h0 [o0,o1,o2] [some (.rows g 2 [[v7,(.bool a_.1)]]),Ai v7 g9 4 (List.map Ac a_.2),some (.rows g2 1 [[(.ptr o0 g 0 0)]])]) h0 (J7 text l most s0_bad l1)):=by
 refine A9 (n:=44) 1 Tryz.func44 J (by decide) J J hI0 J fun ids he hI=>?_
 clear hI0
 obtain rfl:ix ids 0=o0:=he 0 rfl
 obtain rfl:ix ids 1=o1:=he 1 rfl
 obtain rfl:ix ids 2=o2:=he 2 rfl
 clear he
 refine Bo (Al (J7.eq_1 _ _ _ _ _) ?_)
 refine Aj ?_
 refine Y<|O<|Ab 6 [0] [(17,(.bool s0_bad)),(12,(.q ids 0 g))] ?_
 refine Bw 5 [(0,(.q ids 0 g)),(1,(.str text)),(2,(.sl 2 (List.map Bb l))),(4,(.func (.func 45) [] [(.q ids 2 g2)])),(12,(.q ids 0 g)),(22,(.bool (s0_bad||(decide ((l.length:Int) > most)))))] ?_ fun hJ=>Bq s0_bad (fun hb1=>?_) (fun hb1=>?_)
 ·refine Ab 2 [] [(24,(.ptr (ix ids 0) g 0 1))] ?_
  refine Ar (Ax (v:=(.bool (s0_bad||(decide ((l.length:Int) > most))))) hI J J J J Pi J J J J J)<|Aa<|Aj ?_
  refine Y<|O<|Z (.sl 2 (List.map Bb l)) J Ae<|Z (.I (l.length:Int)) J (Ay (A8 F6))<|Z (.I 0) J Ae<|Aa<|Bf ?_
  refine Ea [(0,(.q ids 0 g)),(1,(.str text)),(4,(.func (.func 45) [] [(.q ids 2 g2)])),(25,(.sl 2 (List.map Bb l))),(26,(.I (l.length:Int))),(27,(.I 0))] (FI J)<|Jw (P:=Tryz.prog) l (fun _ a=>C0 fun fBad l2=>H6 text a fBad l2) (((C0 fun fBad l2=>.ok (fBad,l2))):(Bool×(List Token))→R (Bool×(List Token))) (fun j=>C0 fun fBad l2=>fun(fr:Nat→AV) (h:Ag) => ∃ (v2:AV),∃ (g3:Nat),A3 v2 (ix ids 1) g3 l2.length∧fr=A5 [(0,(.q ids 0 g)),(1,(.str text)),(4,(.func (.func 45) [] [(.q ids 2 g2)])),(25,(.sl 2 (List.map Bb l))),(26,(.I (l.length:Int))),(27,(.I (j:Int)))]∧h=hp h0 ids [(some (.rows g 2 [[v2,(.bool fBad)]])),(Ai v2 g3 4 (List.map Ac l2)),(some (.rows g2 1 [[(.q ids 0 g)]])),none]) ((s0_bad||(decide ((l.length:Int) > most))),l1) ?_ ?_ ?_
  ·exact⟨v1,g1,vH,J,J⟩
  ·rintro j a ha W hW ⟨fBad,l2⟩ fr h ⟨v2,g3,vH1,rfl,rfl⟩
   refine Al (m':=H6 text a fBad l2) J (Al (H6.eq_1 _ _ _ _) ?_)
   refine Y<|O<|Z (.bool (decide ((j:Int)<(l.length:Int)))) J (Bh J J J)<|Aa<|Y<|Eb (t:=25) (L:=l) J fun hlim=>C7 J (Int.ofNat_lt.2 (Bc ha)) ?_
   refine A2<|Y<|Bf<|Y<|O<|Z (.cp (Bb a) 0) J (By (Do F6 Hr J ha))<|Z (.agg (Bb a)) J (Aq (Cl Hr J)) ?_
   refine Bg (j:=3) hI J J J J Hr J fun g4=>Ar (Ax (v:=(.agg (Bb a))) hI J J J J Hr J J J J J)<|Aa<|Aj ?_
   refine Y<|Y<|O<|Ab 2 [] [(32,(.bool (!(text==[]))))] ?_
   refine Aa<|D6 (C0 fun fBad1 l3=>Ia a fBad1 l3) (C0 fun fBad1 l3=>fun(fr:Nat→AV) (h:Ag) => ∃ (v4:AV),∃ (g6:Nat),A3 v4 (ix ids 1) g6 l3.length∧fr=A5 [(0,(.q ids 0 g)),(1,(.str text)),(4,(.func (.func 45) [] [(.q ids 2 g2)])),(11,(.q ids 3 g4)),(25,(.sl 2 (List.map Bb l))),(26,(.I (l.length:Int))),(27,(.I (j:Int)))]∧h=hp h0 ids [(some (.rows g 2 [[v4,(.bool fBad1)]])),(Ai v4 g6 4 (List.map Ac l3)),(some (.rows g2 1 [[(.q ids 0 g)]])),(some (.rows g4 2 [(Bb a)]))]) ?_ fun hJ1=>?_
   ·rintro⟨fBad1,l3⟩ fr h ⟨v4,g6,vH3,rfl,rfl⟩
    refine Al (Ia.eq_1 _ _ _)<|Y<|O<|Ab 2 [3] [(38,(.agg (Bb a))),(37,(.func (.func 45) [] [(.q ids 2 g2)]))] ?_
    refine Ak [2,0,1] hI J J (Xn a fBad1 l3 _ (ix ids 2) (ix ids 0) (ix ids 1) g2 g v4 g6 vH3 (by exact hI.sub' J J)) J J J J J J (fun v _=>Ao (K:=3) (N:=1) Tryz.func44 hI) ?_
    rintro r1 _ _ _ ⟨v5,g7,vH4,rfl,rfl⟩
    refine Av [2,0,1] hI J J J ?_
    refine Ap<|Aa<|Aj ?_
    refine O<|Z (.q ids 0 g) J Ae<|Dd (e:=rS) (L:=[[59]]) (st:=1) (rows:=[[(.str [59])]]) J Dt Co J J J J J (.cons (RowSim.refl _) .nil) (fun x=>Gh x) J J<|Ak [0,1] hI J J (C2 [[59]] r1.1 r1.2 _ (ix ids 0) (ix ids 1) g v5 g7 vH4 (by exact hI.sub' J J)) J J J J J J (fun v _=>Ao (K:=3) (N:=1) Tryz.func44 hI) ?_
    rintro r2 _ _ _ ⟨v6,g8,vH5,rfl,rfl⟩
    refine Av [0,1] hI J J J ?_
    refine Ap<|Aa<|Aj ?_
    refine Bs<|O<|Ab 2 [] [(27,(.I (IntKind.wrap .i64 ((j:Int)+1))))] ?_
    refine Aa<|Eo [(some (.rows g 2 [[v6,(.bool r2.1)]])),(Ai v6 g8 4 (List.map Ac r2.2)),(some (.rows g2 1 [[(.q ids 0 g)]])),none] hI J (.keep (.keep (.keep (.drop .nil))))<|Br (Sm (hW (r2.1,r2.2) _ _ ⟨v6,g8,vH5,J,J⟩)) (.cons J (.cons J (.cons J (.cons J (.cons J (.cons (D8 (Bc ha) hlim) .nil))))))
   refine D1 J (fun hc=>?_) (fun hc=>?_)
   ·refine A2<|Br (hJ1 (fBad,l2) _ _ ⟨v2,g3,vH1,J,J⟩)
   refine O<|Ab 2 [] [(34,(.str text)),(33,(.q ids 0 g))] ?_
   refine Dd (e:=rS) (L:=[text]) (st:=1) (rows:=[[(.str text)]]) J Dt Co J J J J J (.cons (RowSim.refl _) .nil) (fun x=>Gh x) J J<|Ak [0,1] hI J J (Bx [text] fBad l2 _ (ix ids 0) (ix ids 1) g v2 g3 vH1 (by exact hI.sub' J J)) J J J J J J (fun v _=>Ao (K:=3) (N:=1) Tryz.func44 hI) ?_
   rintro r _ _ _ ⟨v3,g5,vH2,rfl,rfl⟩
   refine Av [0,1] hI J J J ?_
   refine Ap<|Aa<|Aj ?_
   exact Br (hJ1 (r.1,r.2) _ _ ⟨v3,g5,vH2,J,J⟩)
  rintro⟨fBad,l2⟩ fr h ⟨v2,g3,vH1,rfl,rfl⟩
  refine Al (Oc _ _ _)<|Y<|O<|Z (.bool (decide ((l.length:Int)<(l.length:Int)))) J (Bh J J J)<|Aa<|Y<|C6 J (Int.lt_irrefl _) ?_
  refine Db J<|B4 (K:=3) (N:=1) (a:=(fBad,l2)) (vs:=[]) [some (.rows g 2 [[v2,(.bool fBad)]]),Ai v2 g3 4 (List.map Ac l2),some (.rows g2 1 [[(.q ids 0 g)]])] Tryz.func44 hI J J J (.keep (.keep (.keep (.keep .nil)))) (.same _) ⟨v2,g3,vH1,J,J⟩
 ·refine A0 (t:=17) hb1 J<|Ab 5 [] [(22,(.bool true))] ?_
  exact Ba hJ (.cons J (.cons J (.cons J (.cons J (.cons J (.cons (Fb hb1) .nil))))))
 refine A0 (t:=17) hb1 J<|Bu (tj:=17) (.sl 2 (List.map Bb l)) J J J Ae<|Bu (tj:=17) (.I (l.length:Int)) J J J (Ay (A8 F6))<|Ab 3 [] [(22,(.bool (decide ((l.length:Int) > most))))] ?_
 exact Ba hJ (.cons J (.cons J (.cons J (.cons J (.cons J (.cons (Fa hb1) .nil))))))
theorem X3 (a:Class)(s1_bad:Bool)(l:List Token)(h0:Ag)(o0:Nat)(o1:Nat)(o2:Nat)(g:Nat)(g1:Nat)(v1:AV)(g2:Nat)(vH:A3 v1 o2 g2 l.length)(hI0:Ids h0 [o0,o1,o2] 3):N6 a s1_bad l≠.bad→Bl Tryz.prog 49 [(.agg (B2 a)),(.ptr o0 g 0 0)] (hp h0 [o0,o1,o2] [some (.rows g 1 [[(.ptr o1 g1 0 0)]]),some (.rows g1 2 [[v1,(.bool s1_bad)]]),Ai v1 g2 4 (List.map Ac l)]) (Ci (fun a_ v h' => ∃ (v9:AV),∃ (g11:Nat),A3 v9 o2 g11 a_.2.length∧v=(.tup [])∧h'=hp h0 [o0,o1,o2] [some (.rows g 1 [[(.ptr o1 g1 0 0)]]),some (.rows g1 2 [[v9,(.bool a_.1)]]),Ai v9 g11 4 (List.map Ac a_.2)]) h0 (N6 a s1_bad l)):=by
 refine A9 (n:=30) 1 Tryz.func49 J (by decide) J J hI0 J fun ids he hI=>?_
 clear hI0
 obtain rfl:ix ids 0=o0:=he 0 rfl
 obtain rfl:ix ids 1=o1:=he 1 rfl
 obtain rfl:ix ids 2=o2:=he 2 rfl
 clear he
 refine Bo (Al (N6.eq_1 _ _ _) ?_)
 refine Aj ?_
 refine Y<|O<|Ck (v:=(.agg (B2 a))) (j:=3) hI J J J J J J J fun g3=>Aa<|Aj ?_
 refine Y<|O<|Ab 3 [0,3] [(5,(.str a.Name)),(3,(.q ids 1 g1))] ?_
 refine Ak [1,2] hI J J (Cw a.Name s1_bad l _ (ix ids 1) (ix ids 2) g1 v1 g2 vH (by exact hI.sub' J J)) J J J J J J (fun v _=>Ao (K:=3) (N:=1) Tryz.func49 hI) ?_
 rintro r _ _ _ ⟨v2,g4,vH1,rfl,rfl⟩
 refine Av [1,2] hI J J J ?_
 refine Ap<|Aa<|Aj ?_
 refine Y<|O<|Ab 1 [0] [(7,(.q ids 1 g1))] ?_
 refine Dd (e:=rS) (L:=[[115,108,111,119]]) (st:=1) (rows:=[[(.str [115,108,111,119])]]) J Dt Co J J J J J (.cons (RowSim.refl _) .nil) (fun x=>Gh x) J J<|Ak [1,2] hI J J (Bx [[115,108,111,119]] r.1 r.2 _ (ix ids 1) (ix ids 2) g1 v2 g4 vH1 (by exact hI.sub' J J)) J J J J J J (fun v _=>Ao (K:=3) (N:=1) Tryz.func49 hI) ?_
 rintro r1 _ _ _ ⟨v3,g5,vH2,rfl,rfl⟩
 refine Av [1,2] hI J J J ?_
 refine Ap<|Aa<|Aj ?_
 refine Y<|O<|Ab 3 [0,3] [(12,(.I a.Slow)),(10,(.q ids 1 g1))] ?_
 refine Ak [1,2] hI J J (Df a.Slow 1 64 r1.1 r1.2 _ (ix ids 1) (ix ids 2) g1 v3 g5 vH2 (by exact hI.sub' J J)) J J J J J J (fun v _=>Ao (K:=3) (N:=1) Tryz.func49 hI) ?_
 rintro r2 _ _ _ ⟨v4,g6,vH3,rfl,rfl⟩
 refine Av [1,2] hI J J J ?_
 refine Ap<|Aa<|Aj ?_
 refine Y<|O<|Ab 1 [0] [(14,(.q ids 1 g1))] ?_
 refine Dd (e:=rS) (L:=[[102,97,115,116]]) (st:=1) (rows:=[[(.str [102,97,115,116])]]) J Dt Co J J J J J (.cons (RowSim.refl _) .nil) (fun x=>Gh x) J J<|Ak [1,2] hI J J (Bx [[102,97,115,116]] (r1.1||(!((decide (a.Slow≥1))&&(decide (a.Slow≤64))))) r2 _ (ix ids 1) (ix ids 2) g1 v4 g6 vH3 (by exact hI.sub' J J)) J J J J J J (fun v _=>Ao (K:=3) (N:=1) Tryz.func49 hI) ?_
 rintro r3 _ _ _ ⟨v5,g7,vH4,rfl,rfl⟩
 refine Av [1,2] hI J J J ?_
 refine Ap<|Aa<|Aj ?_
 refine Y<|O<|Ab 5 [0,3,3] [(21,(.I a.Slow)),(19,(.I a.Fast)),(17,(.q ids 1 g1))] ?_
 refine Ak [1,2] hI J J (Df a.Fast a.Slow 64 r3.1 r3.2 _ (ix ids 1) (ix ids 2) g1 v5 g7 vH4 (by exact hI.sub' J J)) J J J J J J (fun v _=>Ao (K:=3) (N:=1) Tryz.func49 hI) ?_
 rintro r4 _ _ _ ⟨v6,g8,vH5,rfl,rfl⟩
 refine Av [1,2] hI J J J ?_
 refine Ap<|Aa<|Aj ?_
 refine Y<|O<|Ab 1 [0] [(23,(.q ids 1 g1))] ?_
 refine Dd (e:=rS) (L:=[[112,108,97,99,101,115]]) (st:=1) (rows:=[[(.str [112,108,97,99,101,115])]]) J Dt Co J J J J J (.cons (RowSim.refl _) .nil) (fun x=>Gh x) J J<|Ak [1,2] hI J J (Bx [[112,108,97,99,101,115]] (r3.1||(!((decide (a.Fast≥a.Slow))&&(decide (a.Fast≤64))))) r4 _ (ix ids 1) (ix ids 2) g1 v6 g8 vH5 (by exact hI.sub' J J)) J J J J J J (fun v _=>Ao (K:=3) (N:=1) Tryz.func49 hI) ?_
 rintro r5 _ _ _ ⟨v7,g9,vH6,rfl,rfl⟩
 refine Av [1,2] hI J J J ?_
 refine Ap<|Aa<|Aj ?_
 refine O<|Ab 3 [0,3] [(28,(.I a.Places)),(26,(.q ids 1 g1))] ?_
 refine Ak [1,2] hI J J (Df a.Places 1 8 r5.1 r5.2 _ (ix ids 1) (ix ids 2) g1 v7 g9 vH6 (by exact hI.sub' J J)) J J J J J J (fun v _=>Ao (K:=3) (N:=1) Tryz.func49 hI) ?_
 rintro r6 _ _ _ ⟨v8,g10,vH7,rfl,rfl⟩
 refine Av [1,2] hI J J J ?_
 refine Ap<|Aa<|Aj ?_
 exact B4 (K:=3) (N:=1) (a:=((r5.1||(!((decide (a.Places≥1))&&(decide (a.Places≤8))))),r6)) (vs:=[]) [some (.rows g 1 [[(.q ids 1 g1)]]),some (.rows g1 2 [[v8,(.bool (r5.1||(!((decide (a.Places≥1))&&(decide (a.Places≤8))))))]]),Ai v8 g10 4 (List.map Ac r6)] Tryz.func49 hI J J J (.keep (.keep (.keep (.drop .nil)))) (.same _) ⟨v8,g10,vH7,J,J⟩
theorem Ts (text:Au)(l:List Class)(most:Int)(s0_bad:Bool)(l1:List Token)(h0:Ag)(o0:Nat)(o1:Nat)(o2:Nat)(g:Nat)(v1:AV)(g1:Nat)(g2:Nat)(vH:A3 v1 o1 g1 l1.length)(hI0:Ids h0 [o0,o1,o2] 3):K7 text l most s0_bad l1≠.bad→Bl Tryz.prog 48 [(.ptr o0 g 0 0),(.str text),(.sl 4 (List.map B2 l)),(.int .i64 most),(.func (.func 49) [] [(.ptr o2 g2 0 0)])] (hp h0 [o0,o1,o2] [some (.rows g 2 [[v1,(.bool s0_bad)]]),Ai v1 g1 4 (List.map Ac l1),some (.rows g2 1 [[(.ptr o0 g 0 0)]])]) (Ci (fun a_ v h' => ∃ (v7:AV),∃ (g9:Nat),A3 v7 o1 g9 a_.2.length∧v=(.tup [])∧h'=hp h0 [o0,o1,o2] [some (.rows g 2 [[v7,(.bool a_.1)]]),Ai v7 g9 4 (List.map Ac a_.2),some (.rows g2 1 [[(.ptr o0 g 0 0)]])]) h0 (K7 text l most s0_bad l1)):=by
 refine A9 (n:=44) 1 Tryz.func48 J (by decide) J J hI0 J fun ids he hI=>?_
 clear hI0
 obtain rfl:ix ids 0=o0:=he 0 rfl
 obtain rfl:ix ids 1=o1:=he 1 rfl
 obtain rfl:ix ids 2=o2:=he 2 rfl
 clear he
 refine Bo (Al (K7.eq_1 _ _ _ _ _) ?_)
 refine Aj ?_
 refine Y<|O<|Ab 6 [0] [(17,(.bool s0_bad)),(12,(.q ids 0 g))] ?_
 refine Bw 5 [(0,(.q ids 0 g)),(1,(.str text)),(2,(.sl 4 (List.map B2 l))),(4,(.func (.func 49) [] [(.q ids 2 g2)])),(12,(.q ids 0 g)),(22,(.bool (s0_bad||(decide ((l.length:Int) > most)))))] ?_ fun hJ=>Bq s0_bad (fun hb1=>?_) (fun hb1=>?_)
 ·refine Ab 2 [] [(24,(.ptr (ix ids 0) g 0 1))] ?_
  refine Ar (Ax (v:=(.bool (s0_bad||(decide ((l.length:Int) > most))))) hI J J J J Pi J J J J J)<|Aa<|Aj ?_
  refine Y<|O<|Z (.sl 4 (List.map B2 l)) J Ae<|Z (.I (l.length:Int)) J (Ay (A8 Fs))<|Z (.I 0) J Ae<|Aa<|Bf ?_
  refine Ea [(0,(.q ids 0 g)),(1,(.str text)),(4,(.func (.func 49) [] [(.q ids 2 g2)])),(25,(.sl 4 (List.map B2 l))),(26,(.I (l.length:Int))),(27,(.I 0))] (FI J)<|Jw (P:=Tryz.prog) l (fun _ a=>C0 fun fBad l2=>Jq text a fBad l2) (((C0 fun fBad l2=>.ok (fBad,l2))):(Bool×(List Token))→R (Bool×(List Token))) (fun j=>C0 fun fBad l2=>fun(fr:Nat→AV) (h:Ag) => ∃ (v2:AV),∃ (g3:Nat),A3 v2 (ix ids 1) g3 l2.length∧fr=A5 [(0,(.q ids 0 g)),(1,(.str text)),(4,(.func (.func 49) [] [(.q ids 2 g2)])),(25,(.sl 4 (List.map B2 l))),(26,(.I (l.length:Int))),(27,(.I (j:Int)))]∧h=hp h0 ids [(some (.rows g 2 [[v2,(.bool fBad)]])),(Ai v2 g3 4 (List.map Ac l2)),(some (.rows g2 1 [[(.q ids 0 g)]])),none]) ((s0_bad||(decide ((l.length:Int) > most))),l1) ?_ ?_ ?_
  ·exact⟨v1,g1,vH,J,J⟩
  ·rintro j a ha W hW ⟨fBad,l2⟩ fr h ⟨v2,g3,vH1,rfl,rfl⟩
   refine Al (m':=Jq text a fBad l2) J (Al (Jq.eq_1 _ _ _ _) ?_)
   refine Y<|O<|Z (.bool (decide ((j:Int)<(l.length:Int)))) J (Bh J J J)<|Aa<|Y<|Eb (t:=25) (L:=l) J fun hlim=>C7 J (Int.ofNat_lt.2 (Bc ha)) ?_
   refine A2<|Y<|Bf<|Y<|O<|Z (.cp (B2 a) 0) J (By (Do Fs Kd J ha))<|Z (.agg (B2 a)) J (Aq (Cl Kd J)) ?_
   refine Bg (j:=3) hI J J J J Kd J fun g4=>Ar (Ax (v:=(.agg (B2 a))) hI J J J J Kd J J J J J)<|Aa<|Aj ?_
   refine Y<|Y<|O<|Ab 2 [] [(32,(.bool (!(text==[]))))] ?_
   refine Aa<|D6 (C0 fun fBad1 l3=>Jj a fBad1 l3) (C0 fun fBad1 l3=>fun(fr:Nat→AV) (h:Ag) => ∃ (v4:AV),∃ (g6:Nat),A3 v4 (ix ids 1) g6 l3.length∧fr=A5 [(0,(.q ids 0 g)),(1,(.str text)),(4,(.func (.func 49) [] [(.q ids 2 g2)])),(11,(.q ids 3 g4)),(25,(.sl 4 (List.map B2 l))),(26,(.I (l.length:Int))),(27,(.I (j:Int)))]∧h=hp h0 ids [(some (.rows g 2 [[v4,(.bool fBad1)]])),(Ai v4 g6 4 (List.map Ac l3)),(some (.rows g2 1 [[(.q ids 0 g)]])),(some (.rows g4 4 [(B2 a)]))]) ?_ fun hJ1=>?_
   ·rintro⟨fBad1,l3⟩ fr h ⟨v4,g6,vH3,rfl,rfl⟩
    refine Al (Jj.eq_1 _ _ _)<|Y<|O<|Ab 2 [3] [(38,(.agg (B2 a))),(37,(.func (.func 49) [] [(.q ids 2 g2)]))] ?_
    refine Ak [2,0,1] hI J J (X3 a fBad1 l3 _ (ix ids 2) (ix ids 0) (ix ids 1) g2 g v4 g6 vH3 (by exact hI.sub' J J)) J J J J J J (fun v _=>Ao (K:=3) (N:=1) Tryz.func48 hI) ?_
    rintro r1 _ _ _ ⟨v5,g7,vH4,rfl,rfl⟩
    refine Av [2,0,1] hI J J J ?_
    refine Ap<|Aa<|Aj ?_
    refine O<|Z (.q ids 0 g) J Ae<|Dd (e:=rS) (L:=[[59]]) (st:=1) (rows:=[[(.str [59])]]) J Dt Co J J J J J (.cons (RowSim.refl _) .nil) (fun x=>Gh x) J J<|Ak [0,1] hI J J (C2 [[59]] r1.1 r1.2 _ (ix ids 0) (ix ids 1) g v5 g7 vH4 (by exact hI.sub' J J)) J J J J J J (fun v _=>Ao (K:=3) (N:=1) Tryz.func48 hI) ?_
    rintro r2 _ _ _ ⟨v6,g8,vH5,rfl,rfl⟩
    refine Av [0,1] hI J J J ?_
    refine Ap<|Aa<|Aj ?_
    refine Bs<|O<|Ab 2 [] [(27,(.I (IntKind.wrap .i64 ((j:Int)+1))))] ?_
    refine Aa<|Eo [(some (.rows g 2 [[v6,(.bool r2.1)]])),(Ai v6 g8 4 (List.map Ac r2.2)),(some (.rows g2 1 [[(.q ids 0 g)]])),none] hI J (.keep (.keep (.keep (.drop .nil))))<|Br (Sm (hW (r2.1,r2.2) _ _ ⟨v6,g8,vH5,J,J⟩)) (.cons J (.cons J (.cons J (.cons J (.cons J (.cons (D8 (Bc ha) hlim) .nil))))))
   refine D1 J (fun hc=>?_) (fun hc=>?_)
   ·refine A2<|Br (hJ1 (fBad,l2) _ _ ⟨v2,g3,vH1,J,J⟩)
   refine O<|Ab 2 [] [(34,(.str text)),(33,(.q ids 0 g))] ?_
   refine Dd (e:=rS) (L:=[text]) (st:=1) (rows:=[[(.str text)]]) J Dt Co J J J J J (.cons (RowSim.refl _) .nil) (fun x=>Gh x) J J<|Ak [0,1] hI J J (Bx [text] fBad l2 _ (ix ids 0) (ix ids 1) g v2 g3 vH1 (by exact hI.sub' J J)) J J J J J J (fun v _=>Ao (K:=3) (N:=1) Tryz.func48 hI) ?_
   rintro r _ _ _ ⟨v3,g5,vH2,rfl,rfl⟩
   refine Av [0,1] hI J J J ?_
   refine Ap<|Aa<|Aj ?_
   exact Br (hJ1 (r.1,r.2) _ _ ⟨v3,g5,vH2,J,J⟩)
  rintro⟨fBad,l2⟩ fr h ⟨v2,g3,vH1,rfl,rfl⟩
  refine Al (Oc _ _ _)<|Y<|O<|Z (.bool (decide ((l.length:Int)<(l.length:Int)))) J (Bh J J J)<|Aa<|Y<|C6 J (Int.lt_irrefl _) ?_
  refine Db J<|B4 (K:=3) (N:=1) (a:=(fBad,l2)) (vs:=[]) [some (.rows g 2 [[v2,(.bool fBad)]]),Ai v2 g3 4 (List.map Ac l2),some (.rows g2 1 [[(.q ids 0 g)]])] Tryz.func48 hI J J J (.keep (.keep (.keep (.keep .nil)))) (.same _) ⟨v2,g3,vH1,J,J⟩
 ·refine A0 (t:=17) hb1 J<|Ab 5 [] [(22,(.bool true))] ?_
  exact Ba hJ (.cons J (.cons J (.cons J (.cons J (.cons J (.cons (Fb hb1) .nil))))))
 refine A0 (t:=17) hb1 J<|Bu (tj:=17) (.sl 4 (List.map B2 l)) J J J Ae<|Bu (tj:=17) (.I (l.length:Int)) J J J (Ay (A8 Fs))<|Ab 3 [] [(22,(.bool (decide ((l.length:Int) > most))))] ?_
 exact Ba hJ (.cons J (.cons J (.cons J (.cons J (.cons J (.cons (Fa hb1) .nil))))))
theorem Js (text:Au)(s1_bad:Bool)(l:List Token)(s3:Rule)(h0:Ag)(o0:Nat)(o1:Nat)(o2:Nat)(o3:Nat)(g:Nat)(g1:Nat)(v1:AV)(g2:Nat)(g3:Nat)(vH:A3 v1 o2 g2 l.length)(hI0:Ids h0 [o0,o1,o2,o3] 4):Ft text s1_bad l s3≠.bad→Bl Tryz.prog 103 [(.str text),(.ptr o0 g 0 0),(.ptr o3 g3 0 0)] (hp h0 [o0,o1,o2,o3] [some (.rows g 1 [[(.ptr o1 g1 0 0)]]),some (.rows g1 2 [[v1,(.bool s1_bad)]]),Ai v1 g2 4 (List.map Ac l),some (.rows g3 8 [(A7 s3)])]) (Ci (fun a_ v h' => ∃ (v4:AV),∃ (g6:Nat),A3 v4 o2 g6 a_.2.length∧v=(.tup [])∧h'=hp h0 [o0,o1,o2,o3] [some (.rows g 1 [[(.ptr o1 g1 0 0)]]),some (.rows g1 2 [[v4,(.bool a_.1)]]),Ai v4 g6 4 (List.map Ac a_.2),some (.rows g3 8 [(A7 s3)])]) h0 (Ft text s1_bad l s3)):=by
 refine A9 (n:=12) 0 Tryz.func103 J (by decide) J J hI0 J fun ids he hI=>?_
 clear hI0
 obtain rfl:ix ids 0=o0:=he 0 rfl
 obtain rfl:ix ids 1=o1:=he 1 rfl
 obtain rfl:ix ids 2=o2:=he 2 rfl
 obtain rfl:ix ids 3=o3:=he 3 rfl
 clear he
 refine Bo (Al (Ft.eq_1 _ _ _ _) ?_)
 refine Y<|O<|Ab 2 [0] [(5,(.str text)),(4,(.q ids 1 g1))] ?_
 refine Dd (e:=rS) (L:=[text]) (st:=1) (rows:=[[(.str text)]]) J Dt Co J J J J J (.cons (RowSim.refl _) .nil) (fun x=>Gh x) J J<|Ak [1,2] hI J J (Bx [text] s1_bad l _ (ix ids 1) (ix ids 2) g1 v1 g2 vH (by exact hI.sub' J J)) J J J J J J (fun v _=>Ao (K:=4) (N:=0) Tryz.func103 hI) ?_
 rintro r _ _ _ ⟨v2,g4,vH1,rfl,rfl⟩
 refine Av [1,2] hI J J J ?_
 refine Ap<|Aa<|Aj ?_
 refine O<|Ab 3 [0,3] [(10,(.str s3.C)),(8,(.q ids 1 g1))] ?_
 refine Ak [1,2] hI J J (Cw s3.C r.1 r.2 _ (ix ids 1) (ix ids 2) g1 v2 g4 vH1 (by exact hI.sub' J J)) J J J J J J (fun v _=>Ao (K:=4) (N:=0) Tryz.func103 hI) ?_
 rintro r1 _ _ _ ⟨v3,g5,vH2,rfl,rfl⟩
 refine Av [1,2] hI J J J ?_
 refine Ap<|Aa<|Aj ?_
 exact B4 (K:=4) (N:=0) (a:=(r1.1,r1.2)) (vs:=[]) [some (.rows g 1 [[(.q ids 1 g1)]]),some (.rows g1 2 [[v3,(.bool r1.1)]]),Ai v3 g5 4 (List.map Ac r1.2),some (.rows g3 8 [(A7 s3)])] Tryz.func103 hI J J J (.keep (.keep (.keep (.keep .nil)))) (.same _) ⟨v3,g5,vH2,J,J⟩
theorem Vl (b:Rule)(s0_bad:Bool)(l:List Token)(h0:Ag)(o0:Nat)(o1:Nat)(g:Nat)(v1:AV)(g1:Nat)(vH:A3 v1 o1 g1 l.length)(hI0:Ids h0 [o0,o1] 2):Mw b s0_bad l≠.bad→Bl Tryz.prog 51 [(.ptr o0 g 0 0),(.agg (A7 b))] (hp h0 [o0,o1] [some (.rows g 2 [[v1,(.bool s0_bad)]]),Ai v1 g1 4 (List.map Ac l)]) (Ci (fun a_ v h' => ∃ (v12:AV),∃ (g16:Nat),A3 v12 o1 g16 a_.2.length∧v=(.tup [])∧h'=hp h0 [o0,o1] [some (.rows g 2 [[v12,(.bool a_.1)]]),Ai v12 g16 4 (List.map Ac a_.2)]) h0 (Mw b s0_bad l)):=by
 refine A9 (n:=93) 4 Tryz.func51 J (by decide) J J hI0 J fun ids he hI=>?_
 clear hI0
 obtain rfl:ix ids 0=o0:=he 0 rfl
 obtain rfl:ix ids 1=o1:=he 1 rfl
 clear he
 refine Bo (Al (Mw.eq_1 _ _ _) ?_)
 refine Aj ?_
 refine Y<|O<|Ck (v:=(.q ids 0 g)) (j:=2) hI J J J J J J J fun g2=>Ck (v:=(.agg (A7 b))) (j:=3) hI J J J J J J J fun g3=>Aa<|Aj ?_
 refine Y<|O<|Ab 1 [3] [(7,(.agg (A7 b)))] ?_
 refine Bg (j:=4) hI J J J J Dk J fun g4=>Ar (Ax (v:=(.agg (A7 b))) hI J J J J Dk J J J J J)<|Aa<|Aj ?_
 refine Y<|O<|Z (.ptr (ix ids 4) g4 0 3) J (Bp (Bi (c:=0) (off:=3) (i:=3) Dk J D0 J))<|Ar (Ax (v:=(.I 0)) hI J J J J D0 J J J J J)<|Z (.ptr (ix ids 4) g4 0 4) J (Bp (Bi (c:=0) (off:=4) (i:=4) Dk J D0 J))<|Ar (Ax (v:=(.I 0)) hI J J J J D0 J J J J J)<|Aa ?_
 refine Aj ?_
 refine Y<|O<|Ab 5 [3,3] [(14,(.agg [(.I b.Kind),(.str b.C),(.str []),(.I 0),(.I 0),(.I 0),(.I 0),(.I 0)]))] ?_
 refine Bg (j:=5) hI J J J J Dk J fun g5=>Ar (Ax (v:=(.agg [(.I b.Kind),(.str b.C),(.str []),(.I 0),(.I 0),(.I 0),(.I 0),(.I 0)])) hI J J J J Dk J J J J J)<|Aa<|Aj ?_
 refine Y<|O<|Ab 2 [] [(6,(.func (.func 103) [] [(.q ids 2 g2),(.q ids 3 g3)]))] ?_
 refine Aa<|Y<|Y<|O<|Ab 2 [3] [(17,(.I b.Kind))] ?_
 refine Aa<|D6 (un3 fun fBad l1 o=>E8 b fBad l1 o) (un3 fun fBad l1 o=>fun(fr:Nat→AV) (h:Ag) => ∃ (v11:AV),∃ (g15:Nat),A3 v11 (ix ids 1) g15 l1.length∧fr=A5 [(2,(.q ids 2 g2)),(4,(.q ids 4 g4)),(5,(.q ids 5 g5))]∧h=hp h0 ids [(some (.rows g 2 [[v11,(.bool fBad)]])),(Ai v11 g15 4 (List.map Ac l1)),(some (.rows g2 1 [[(.q ids 0 g)]])),none,(some (.rows g4 8 [[(.I b.Kind),(.str b.C),(.str b.A),(.I 0),(.I 0),(.I b.N),(.I b.Hours.From),(.I b.Hours.To)]])),(some (.rows g5 8 [(A7 o)]))]) ?_ fun hJ=>?_
 ·rintro⟨fBad,l1,o⟩ fr h ⟨v11,g15,vH10,rfl,rfl⟩
  refine Al (E8.eq_1 _ _ _ _)<|Cm Et [[],[],[1],[1,2],[1,2,3],[1,2,3,4],[1,2,3,4,5],[1,2,3,4,5],[1,2,3,4,5,6,7],[1,2,3,4,5,6,7,8],[0,0,1,2,3,4,5,6,7,8,9],[0,1,2,3,4,5,6,7,8,9,10],[0,1,2,3,4,5,6,7,8,9,10,11]] [(false,0),(false,1),(false,2),(false,3),(false,4),(false,5),(false,6),(false,7),(false,8),(false,9),(false,10),(false,11),(true,12)] (by kernel_rfl)<|Af (.q ids 0 g) J J (Aq (Az hI J J J Abp J))<|Af (.q ids 0 g) J J (Aq (Az hI J J J Abp J))<|Af (.q ids 0 g) J J (Bj J)<|Af (.ptr (ix ids 0) g 0 1) J J (Bp (Bi (c:=0) (off:=1) (i:=1) Wb J Pi J))<|Af (.bool fBad) J J (Aq (Az hI J J J Pi J)) ?_
  refine Af (.bool fBad) J J Ae<|L9 (fun hb1=>?_) (fun hb1=>?_)
  ·refine Jz (tj:=86) (b:=true) J J (congrArg AV.bool hb1) J J<|Jz (tj:=86) (b:=true) J J (congrArg AV.bool hb1) J J<|Jz (tj:=86) (b:=true) J J (congrArg AV.bool hb1) J J<|Af (.bool true) J J (Fj (t:=true) (congrArg AV.bool hb1) J)<|Af (.q ids 0 g) J J (Bj J)<|Af (.ptr (ix ids 0) g 0 1) J J (Bp (Bi (c:=0) (off:=1) (i:=1) Wb J Pi J))<|El J (fun _ _=>J) (fun K hK=>Cu (Ax (v:=(.bool true)) hI J J J J Pi J J J J J) (hK _ _ (Ad J (Ad J (Ad J (Ad J (Ad J (Ad J (Ad J (Ad J (Ad J (Ad J (Ad J (Ad J Be)))))))))))) ?_))
   clear hK K
   refine Cf<|Aj ?_
   exact B4 (K:=2) (N:=4) (a:=(true,l1)) (vs:=[]) [some (.rows g 2 [[v11,(.bool true)]]),Ai v11 g15 4 (List.map Ac l1)] Tryz.func51 hI J J J (.keep (.keep (.drop (.keep (.drop (.drop .nil)))))) (.same _) ⟨v11,g15,vH10,J,J⟩
  refine Hs (tj:=86) (.agg [(.I b.Kind),(.str b.C),(.str b.A),(.I 0),(.I 0),(.I b.N),(.I b.Hours.From),(.I b.Hours.To)]) J J (congrArg AV.bool hb1) J (Aq (Az hI J J J Dk J))<|Hs (tj:=86) (.agg (A7 o)) J J (congrArg AV.bool hb1) J (Aq (Az hI J J J Dk J))<|Hs (tj:=86) (.bool (!((b.Kind==o.Kind)&&((b.C==o.C)&&((b.A==o.A)&&((0==o.Class)&&((0==o.Airport)&&((b.N==o.N)&&((b.Hours.From==o.Hours.From)&&(b.Hours.To==o.Hours.To)))))))))) J J (congrArg AV.bool hb1) J (Bh (Aec J J) J Ad1)<|Af (.bool (!((b.Kind==o.Kind)&&((b.C==o.C)&&((b.A==o.A)&&((0==o.Class)&&((0==o.Airport)&&((b.N==o.N)&&((b.Hours.From==o.Hours.From)&&(b.Hours.To==o.Hours.To)))))))))) J J (Fj (t:=false) (congrArg AV.bool hb1) J)<|Af (.q ids 0 g) J J (Bj J)<|Af (.ptr (ix ids 0) g 0 1) J J (Bp (Bi (c:=0) (off:=1) (i:=1) Wb J Pi J))<|El J (fun _ _=>J) (fun K hK=>Cu (Ax (v:=(.bool (!((b.Kind==o.Kind)&&((b.C==o.C)&&((b.A==o.A)&&((0==o.Class)&&((0==o.Airport)&&((b.N==o.N)&&((b.Hours.From==o.Hours.From)&&(b.Hours.To==o.Hours.To))))))))))) hI J J J J Pi J J J J J) (hK _ _ (Ad J (Ad J (Ad J (Ad J (Ad J (Ad J (Ad J (Ad J (Ad J (Ad J (Ad J (Ad J Be)))))))))))) ?_))
  clear hK K
  refine Cf<|Aj ?_
  exact B4 (K:=2) (N:=4) (a:=((!((b.Kind==o.Kind)&&((b.C==o.C)&&((b.A==o.A)&&((0==o.Class)&&((0==o.Airport)&&((b.N==o.N)&&((b.Hours.From==o.Hours.From)&&(b.Hours.To==o.Hours.To))))))))),l1)) (vs:=[]) [some (.rows g 2 [[v11,(.bool (!((b.Kind==o.Kind)&&((b.C==o.C)&&((b.A==o.A)&&((0==o.Class)&&((0==o.Airport)&&((b.N==o.N)&&((b.Hours.From==o.Hours.From)&&(b.Hours.To==o.Hours.To))))))))))]]),Ai v11 g15 4 (List.map Ac l1)] Tryz.func51 hI J J J (.keep (.keep (.drop (.keep (.drop (.drop .nil)))))) (.same _) ⟨v11,g15,vH10,J,J⟩
 refine Bf<|Y<|O<|Ab 2 [] [(21,(.bool (b.Kind==1)))] ?_
 refine Aa<|B6 J (fun hc=>?_) (fun hc=>?_)
 ·refine Y<|Cm Et [[],[0],[],[2],[0,1],[0,1,1,4],[0,1,2,3,4,5],[0,1,2,3,3,4,5,5,6]] [(false,0),(false,1),(false,2),(false,3),(false,4),(true,5),(false,6),(true,7)] (by kernel_rfl)<|Af (.ptr (ix ids 3) g3 0 2) J J (Bp (Bi (c:=0) (off:=2) (i:=2) Dk J Co J))<|Af (.str b.A) J J (Aq (Az hI J J J Co J))<|Af (.ptr (ix ids 3) g3 0 6) J J (Bp (Bi (c:=0) (off:=6) (i:=6) Dk J K1 J))<|Af (.agg (B5 b.Hours)) J J (Aq (Az hI J J J K1 J))<|Af (.ptr (ix ids 5) g5 0 2) J J (Bp (Bi (c:=0) (off:=2) (i:=2) Dk J Co J)) ?_
  refine El J (fun _ _=>J) (fun K hK=>Cu (Ax (v:=(.str b.A)) hI J J J J Co J J J J J) (hK _ _ (Ad J (A4 J (Aq (Az hI J J J K1 J)) (A4 J (Bp (Bi (c:=0) (off:=6) (i:=6) Dk J K1 J)) (Ad J (Ad J Be))))) ?_))
  clear hK K
  refine Af (.ptr (ix ids 5) g5 0 6) J J (Bp (Bi (c:=0) (off:=6) (i:=6) Dk J K1 J))<|El J (fun _ _=>J) (fun K hK=>Cu (Ax (v:=(.agg (B5 b.Hours))) hI J J J J K1 J J J J J) (hK _ _ (Ad J (Ad J (Ad J (Ad J (Ad J (Ad J Be)))))) ?_))
  clear hK K
  refine Cf<|Aj ?_
  refine Y<|O<|Z (.func (.func 103) [] [(.q ids 2 g2),(.q ids 3 g3)]) J Ae<|Ak [2,0,1,3] hI J J (Js [99,117,114,102,101,119] s0_bad l b _ (ix ids 2) (ix ids 0) (ix ids 1) (ix ids 3) g2 g v1 g1 g3 vH (by exact hI.sub' J J)) J J J J J J (fun v _=>Ao (K:=2) (N:=4) Tryz.func51 hI) ?_
  rintro r _ _ _ ⟨v2,g6,vH1,rfl,rfl⟩
  refine Av [2,0,1,3] hI J J J ?_
  refine Ap<|Aa<|Aj ?_
  refine Y<|O<|Ab 1 [2] [(31,(.q ids 0 g))] ?_
  refine Dd (e:=rS) (L:=[[97,116]]) (st:=1) (rows:=[[(.str [97,116])]]) J Dt Co J J J J J (.cons (RowSim.refl _) .nil) (fun x=>Gh x) J J<|Ak [0,1] hI J J (Bx [[97,116]] r.1 r.2 _ (ix ids 0) (ix ids 1) g v2 g6 vH1 (by exact hI.sub' J J)) J J J J J J (fun v _=>Ao (K:=2) (N:=4) Tryz.func51 hI) ?_
  rintro r1 _ _ _ ⟨v3,g7,vH2,rfl,rfl⟩
  refine Av [0,1] hI J J J ?_
  refine Ap<|Aa<|Aj ?_
  refine Y<|O<|Ab 3 [2,3] [(36,(.str b.A)),(34,(.q ids 0 g))] ?_
  refine Ak [0,1] hI J J (Cw b.A r1.1 r1.2 _ (ix ids 0) (ix ids 1) g v3 g7 vH2 (by exact hI.sub' J J)) J J J J J J (fun v _=>Ao (K:=2) (N:=4) Tryz.func51 hI) ?_
  rintro r2 _ _ _ ⟨v4,g8,vH3,rfl,rfl⟩
  refine Av [0,1] hI J J J ?_
  refine Ap<|Aa<|Aj ?_
  refine O<|Ab 3 [2,3] [(40,(.agg (B5 b.Hours))),(38,(.q ids 0 g))] ?_
  refine Ak [0,1] hI J J (Py b.Hours r2.1 r2.2 _ (ix ids 0) (ix ids 1) g v4 g8 vH3 (by exact hI.sub' J J)) J J J J J J (fun v _=>Ao (K:=2) (N:=4) Tryz.func51 hI) ?_
  rintro r3 _ _ _ ⟨v5,g9,vH4,rfl,rfl⟩
  refine Av [0,1] hI J J J ?_
  refine Ap<|Aa<|Aj ?_
  refine Bs<|Eo [(some (.rows g 2 [[v5,(.bool r3.1)]])),(Ai v5 g9 4 (List.map Ac r3.2)),(some (.rows g2 1 [[(.q ids 0 g)]])),none,(some (.rows g4 8 [[(.I b.Kind),(.str b.C),(.str b.A),(.I 0),(.I 0),(.I b.N),(.I b.Hours.From),(.I b.Hours.To)]])),(some (.rows g5 8 [[(.I b.Kind),(.str b.C),(.str b.A),(.I 0),(.I 0),(.I 0),(.I b.Hours.From),(.I b.Hours.To)]]))] hI J (.keep (.keep (.keep (.drop (.keep (.keep .nil))))))<|Br (hJ (r3.1,r3.2,({ Kind:=b.Kind,C:=b.C,A:=b.A,Class:=0,Airport:=0,N:=0,Hours:=b.Hours }:Rule)) _ _ ⟨v5,g9,vH4,J,J⟩)
 refine Y<|O<|Ab 2 [] [(42,(.bool (b.Kind==2)))] ?_
 refine Aa<|B6 J (fun hc1=>?_) (fun hc1=>?_)
 ·refine O<|Z (.func (.func 103) [] [(.q ids 2 g2),(.q ids 3 g3)]) J Ae<|Ak [2,0,1,3] hI J J (Js [101,120,101,109,112,116] s0_bad l b _ (ix ids 2) (ix ids 0) (ix ids 1) (ix ids 3) g2 g v1 g1 g3 vH (by exact hI.sub' J J)) J J J J J J (fun v _=>Ao (K:=2) (N:=4) Tryz.func51 hI) ?_
  rintro r4 _ _ _ ⟨v6,g10,vH5,rfl,rfl⟩
  refine Av [2,0,1,3] hI J J J ?_
  refine Ap<|Aa<|Aj ?_
  refine Bs<|Eo [(some (.rows g 2 [[v6,(.bool r4.1)]])),(Ai v6 g10 4 (List.map Ac r4.2)),(some (.rows g2 1 [[(.q ids 0 g)]])),none,(some (.rows g4 8 [[(.I b.Kind),(.str b.C),(.str b.A),(.I 0),(.I 0),(.I b.N),(.I b.Hours.From),(.I b.Hours.To)]])),(some (.rows g5 8 [[(.I b.Kind),(.str b.C),(.str []),(.I 0),(.I 0),(.I 0),(.I 0),(.I 0)]]))] hI J (.keep (.keep (.keep (.drop (.keep (.keep .nil))))))<|Br (hJ (r4.1,r4.2,({ Kind:=b.Kind,C:=b.C,A:=[],Class:=0,Airport:=0,N:=0,Hours:=({ From:=0,To:=0 }:Span) }:Rule)) _ _ ⟨v6,g10,vH5,J,J⟩)
 refine Y<|O<|Ab 2 [] [(46,(.bool (b.Kind==3)))] ?_
 refine Aa<|B6 J (fun hc2=>?_) (fun hc2=>?_)
 ·refine Y<|O<|Ab 3 [3] [(50,(.ptr (ix ids 5) g5 0 5)),(49,(.I b.N))] ?_
  refine Ar (Ax (v:=(.I b.N)) hI J J J J D0 J J J J J)<|Aa<|Aj ?_
  refine Y<|O<|Z (.func (.func 103) [] [(.q ids 2 g2),(.q ids 3 g3)]) J Ae<|Ak [2,0,1,3] hI J J (Js [119,101,105,103,104,116] s0_bad l b _ (ix ids 2) (ix ids 0) (ix ids 1) (ix ids 3) g2 g v1 g1 g3 vH (by exact hI.sub' J J)) J J J J J J (fun v _=>Ao (K:=2) (N:=4) Tryz.func51 hI) ?_
  rintro r5 _ _ _ ⟨v7,g11,vH6,rfl,rfl⟩
  refine Av [2,0,1,3] hI J J J ?_
  refine Ap<|Aa<|Aj ?_
  refine O<|Ab 3 [2,3] [(55,(.I b.N)),(53,(.q ids 0 g))] ?_
  refine Ak [0,1] hI J J (Df b.N 1 8 r5.1 r5.2 _ (ix ids 0) (ix ids 1) g v7 g11 vH6 (by exact hI.sub' J J)) J J J J J J (fun v _=>Ao (K:=2) (N:=4) Tryz.func51 hI) ?_
  rintro r6 _ _ _ ⟨v8,g12,vH7,rfl,rfl⟩
  refine Av [0,1] hI J J J ?_
  refine Ap<|Aa<|Aj ?_
  refine Bs<|Eo [(some (.rows g 2 [[v8,(.bool (r5.1||(!((decide (b.N≥1))&&(decide (b.N≤8))))))]])),(Ai v8 g12 4 (List.map Ac r6)),(some (.rows g2 1 [[(.q ids 0 g)]])),none,(some (.rows g4 8 [[(.I b.Kind),(.str b.C),(.str b.A),(.I 0),(.I 0),(.I b.N),(.I b.Hours.From),(.I b.Hours.To)]])),(some (.rows g5 8 [[(.I b.Kind),(.str b.C),(.str []),(.I 0),(.I 0),(.I b.N),(.I 0),(.I 0)]]))] hI J (.keep (.keep (.keep (.drop (.keep (.keep .nil))))))<|Br (hJ ((r5.1||(!((decide (b.N≥1))&&(decide (b.N≤8))))),r6,({ Kind:=b.Kind,C:=b.C,A:=[],Class:=0,Airport:=0,N:=b.N,Hours:=({ From:=0,To:=0 }:Span) }:Rule)) _ _ ⟨v8,g12,vH7,J,J⟩)
 refine Y<|O<|Ab 2 [] [(57,(.bool (b.Kind==4)))] ?_
 refine Aa<|B6 J (fun hc3=>?_) (fun hc3=>?_)
 ·refine Y<|O<|Ab 3 [3] [(61,(.ptr (ix ids 5) g5 0 5)),(60,(.I b.N))] ?_
  refine Ar (Ax (v:=(.I b.N)) hI J J J J D0 J J J J J)<|Aa<|Aj ?_
  refine Y<|O<|Z (.func (.func 103) [] [(.q ids 2 g2),(.q ids 3 g3)]) J Ae<|Ak [2,0,1,3] hI J J (Js [108,111,110,103,101,115,116] s0_bad l b _ (ix ids 2) (ix ids 0) (ix ids 1) (ix ids 3) g2 g v1 g1 g3 vH (by exact hI.sub' J J)) J J J J J J (fun v _=>Ao (K:=2) (N:=4) Tryz.func51 hI) ?_
  rintro r7 _ _ _ ⟨v9,g13,vH8,rfl,rfl⟩
  refine Av [2,0,1,3] hI J J J ?_
  refine Ap<|Aa<|Aj ?_
  refine Y<|O<|Ab 3 [2,3] [(66,(.I b.N)),(64,(.q ids 0 g))] ?_
  refine Ak [0,1] hI J J (Df b.N 0 60 r7.1 r7.2 _ (ix ids 0) (ix ids 1) g v9 g13 vH8 (by exact hI.sub' J J)) J J J J J J (fun v _=>Ao (K:=2) (N:=4) Tryz.func51 hI) ?_
  rintro r8 _ _ _ ⟨v10,g14,vH9,rfl,rfl⟩
  refine Av [0,1] hI J J J ?_
  refine Ap<|Aa<|Aj ?_
  refine Cm Et [[],[],[1],[1,2],[1,2,3],[1,2,3,4],[1,2,3,4,5],[1,2,3,4,5,6],[1,2,3,4,5,6,7],[1,2,3,4,5,6,7,8],[1,2,3,4,5,6,7,8,9],[0,0,1,2,3,4,5,6,7,8,9,10],[0,1,2,3,4,5,6,7,8,9,10,11],[0,1,2,3,4,5,6,7,8,9,10,11,12]] [(false,0),(false,1),(false,2),(false,3),(false,4),(false,5),(false,6),(false,7),(false,8),(false,9),(false,10),(false,11),(false,12),(true,13)] (by kernel_rfl)<|Af (.q ids 0 g) J J (Aq (Az hI J J J Abp J))<|Af (.q ids 0 g) J J (Aq (Az hI J J J Abp J))<|Af (.q ids 0 g) J J (Bj J)<|Af (.ptr (ix ids 0) g 0 1) J J (Bp (Bi (c:=0) (off:=1) (i:=1) Wb J Pi J))<|Af (.bool (r7.1||(!((decide (b.N≥0))&&(decide (b.N≤60)))))) J J (Aq (Az hI J J J Pi J))<|Af (.bool (r7.1||(!((decide (b.N≥0))&&(decide (b.N≤60)))))) J J Ae ?_
  refine L9 (fun hb=>?_) (fun hb=>?_)
  ·refine Jz (tj:=73) (b:=true) J J (congrArg AV.bool hb) J J<|Jz (tj:=73) (b:=true) J J (congrArg AV.bool hb) J J<|Jz (tj:=73) (b:=true) J J (congrArg AV.bool hb) J J<|Jz (tj:=73) (b:=true) J J (congrArg AV.bool hb) J J<|Af (.bool true) J J (Fj (t:=true) (congrArg AV.bool hb) J)<|Af (.q ids 0 g) J J (Bj J)<|Af (.ptr (ix ids 0) g 0 1) J J (Bp (Bi (c:=0) (off:=1) (i:=1) Wb J Pi J)) ?_
   refine El J (fun _ _=>J) (fun K hK=>Cu (Ax (v:=(.bool true)) hI J J J J Pi J J J J J) (hK _ _ (Ad J (Ad J (Ad J (Ad J (Ad J (Ad J (Ad J (Ad J (Ad J (Ad J (Ad J (Ad J (Ad J Be))))))))))))) ?_))
   clear hK K
   refine Cf<|Aj ?_
   refine Bs<|Eo [(some (.rows g 2 [[v10,(.bool true)]])),(Ai v10 g14 4 (List.map Ac r8)),(some (.rows g2 1 [[(.q ids 0 g)]])),none,(some (.rows g4 8 [[(.I b.Kind),(.str b.C),(.str b.A),(.I 0),(.I 0),(.I b.N),(.I b.Hours.From),(.I b.Hours.To)]])),(some (.rows g5 8 [[(.I b.Kind),(.str b.C),(.str []),(.I 0),(.I 0),(.I b.N),(.I 0),(.I 0)]]))] hI J (.keep (.keep (.keep (.drop (.keep (.keep .nil))))))<|Br (hJ (true,r8,({ Kind:=b.Kind,C:=b.C,A:=[],Class:=0,Airport:=0,N:=b.N,Hours:=({ From:=0,To:=0 }:Span) }:Rule)) _ _ ⟨v10,g14,vH9,J,J⟩)
  refine Hs (tj:=73) (.ptr (ix ids 3) g3 0 5) J J (congrArg AV.bool hb) J (Bp (Bi (c:=0) (off:=5) (i:=5) Dk J D0 J))<|Hs (tj:=73) (.I b.N) J J (congrArg AV.bool hb) J (Aq (Az hI J J J D0 J))<|Hs (tj:=73) (.I (Int.tmod b.N 10)) J J (congrArg AV.bool hb) J (Bh J J (Af4 J (by decide)))<|Hs (tj:=73) (.bool ((Int.tmod b.N 10) != 0)) J J (congrArg AV.bool hb) J (Bh J J J)<|Af (.bool ((Int.tmod b.N 10) != 0)) J J (Fj (t:=false) (congrArg AV.bool hb) J)<|Af (.q ids 0 g) J J (Bj J)<|Af (.ptr (ix ids 0) g 0 1) J J (Bp (Bi (c:=0) (off:=1) (i:=1) Wb J Pi J)) ?_
  refine El J (fun _ _=>J) (fun K hK=>Cu (Ax (v:=(.bool ((Int.tmod b.N 10) != 0))) hI J J J J Pi J J J J J) (hK _ _ (Ad J (Ad J (Ad J (Ad J (Ad J (Ad J (Ad J (Ad J (Ad J (Ad J (Ad J (Ad J (Ad J Be))))))))))))) ?_))
  clear hK K
  refine Cf<|Aj ?_
  refine Bs<|Eo [(some (.rows g 2 [[v10,(.bool ((Int.tmod b.N 10) != 0))]])),(Ai v10 g14 4 (List.map Ac r8)),(some (.rows g2 1 [[(.q ids 0 g)]])),none,(some (.rows g4 8 [[(.I b.Kind),(.str b.C),(.str b.A),(.I 0),(.I 0),(.I b.N),(.I b.Hours.From),(.I b.Hours.To)]])),(some (.rows g5 8 [[(.I b.Kind),(.str b.C),(.str []),(.I 0),(.I 0),(.I b.N),(.I 0),(.I 0)]]))] hI J (.keep (.keep (.keep (.drop (.keep (.keep .nil))))))<|Br (hJ (((Int.tmod b.N 10) != 0),r8,({ Kind:=b.Kind,C:=b.C,A:=[],Class:=0,Airport:=0,N:=b.N,Hours:=({ From:=0,To:=0 }:Span) }:Rule)) _ _ ⟨v10,g14,vH9,J,J⟩)
 refine O<|Ab 3 [2] [(20,(.ptr (ix ids 0) g 0 1))] ?_
 refine Ar (Ax (v:=(.bool true)) hI J J J J Pi J J J J J)<|Aa<|Aj ?_
 refine Bs<|Eo [(some (.rows g 2 [[v1,(.bool true)]])),(Ai v1 g1 4 (List.map Ac l)),(some (.rows g2 1 [[(.q ids 0 g)]])),none,(some (.rows g4 8 [[(.I b.Kind),(.str b.C),(.str b.A),(.I 0),(.I 0),(.I b.N),(.I b.Hours.From),(.I b.Hours.To)]])),(some (.rows g5 8 [[(.I b.Kind),(.str b.C),(.str []),(.I 0),(.I 0),(.I 0),(.I 0),(.I 0)]]))] hI J (.keep (.keep (.keep (.drop (.keep (.keep .nil))))))<|Br (hJ (true,l,({ Kind:=b.Kind,C:=b.C,A:=[],Class:=0,Airport:=0,N:=0,Hours:=({ From:=0,To:=0 }:Span) }:Rule)) _ _ ⟨v1,g1,vH,J,J⟩)
theorem Te (text:Au)(l:List Rule)(most:Int)(s0_bad:Bool)(l1:List Token)(h0:Ag)(o0:Nat)(o1:Nat)(g:Nat)(v1:AV)(g1:Nat)(vH:A3 v1 o1 g1 l1.length)(hI0:Ids h0 [o0,o1] 2):Km text l most s0_bad l1≠.bad→Bl Tryz.prog 50 [(.ptr o0 g 0 0),(.str text),(.sl 8 (List.map A7 l)),(.int .i64 most),(.func (.func 51) [(.ptr o0 g 0 0)] [])] (hp h0 [o0,o1] [some (.rows g 2 [[v1,(.bool s0_bad)]]),Ai v1 g1 4 (List.map Ac l1)]) (Ci (fun a_ v h' => ∃ (v7:AV),∃ (g8:Nat),A3 v7 o1 g8 a_.2.length∧v=(.tup [])∧h'=hp h0 [o0,o1] [some (.rows g 2 [[v7,(.bool a_.1)]]),Ai v7 g8 4 (List.map Ac a_.2)]) h0 (Km text l most s0_bad l1)):=by
 refine A9 (n:=44) 1 Tryz.func50 J (by decide) J J hI0 J fun ids he hI=>?_
 clear hI0
 obtain rfl:ix ids 0=o0:=he 0 rfl
 obtain rfl:ix ids 1=o1:=he 1 rfl
 clear he
 refine Bo (Al (Km.eq_1 _ _ _ _ _) ?_)
 refine Aj ?_
 refine Y<|O<|Ab 6 [0] [(17,(.bool s0_bad)),(12,(.q ids 0 g))] ?_
 refine Bw 5 [(0,(.q ids 0 g)),(1,(.str text)),(2,(.sl 8 (List.map A7 l))),(4,(.func (.func 51) [(.q ids 0 g)] [])),(12,(.q ids 0 g)),(22,(.bool (s0_bad||(decide ((l.length:Int) > most)))))] ?_ fun hJ=>Bq s0_bad (fun hb1=>?_) (fun hb1=>?_)
 ·refine Ab 2 [] [(24,(.ptr (ix ids 0) g 0 1))] ?_
  refine Ar (Ax (v:=(.bool (s0_bad||(decide ((l.length:Int) > most))))) hI J J J J Pi J J J J J)<|Aa<|Aj ?_
  refine Y<|O<|Z (.sl 8 (List.map A7 l)) J Ae<|Z (.I (l.length:Int)) J (Ay (A8 Dz))<|Z (.I 0) J Ae<|Aa<|Bf ?_
  refine Ea [(0,(.q ids 0 g)),(1,(.str text)),(4,(.func (.func 51) [(.q ids 0 g)] [])),(25,(.sl 8 (List.map A7 l))),(26,(.I (l.length:Int))),(27,(.I 0))] (FI J)<|Jw (P:=Tryz.prog) l (fun _ a=>C0 fun fBad l2=>Jc text a fBad l2) (((C0 fun fBad l2=>.ok (fBad,l2))):(Bool×(List Token))→R (Bool×(List Token))) (fun j=>C0 fun fBad l2=>fun(fr:Nat→AV) (h:Ag) => ∃ (v2:AV),∃ (g2:Nat),A3 v2 (ix ids 1) g2 l2.length∧fr=A5 [(0,(.q ids 0 g)),(1,(.str text)),(4,(.func (.func 51) [(.q ids 0 g)] [])),(25,(.sl 8 (List.map A7 l))),(26,(.I (l.length:Int))),(27,(.I (j:Int)))]∧h=hp h0 ids [(some (.rows g 2 [[v2,(.bool fBad)]])),(Ai v2 g2 4 (List.map Ac l2)),none]) ((s0_bad||(decide ((l.length:Int) > most))),l1) ?_ ?_ ?_
  ·exact⟨v1,g1,vH,J,J⟩
  ·rintro j a ha W hW ⟨fBad,l2⟩ fr h ⟨v2,g2,vH1,rfl,rfl⟩
   refine Al (m':=Jc text a fBad l2) J (Al (Jc.eq_1 _ _ _ _) ?_)
   refine Y<|O<|Z (.bool (decide ((j:Int)<(l.length:Int)))) J (Bh J J J)<|Aa<|Y<|Eb (t:=25) (L:=l) J fun hlim=>C7 J (Int.ofNat_lt.2 (Bc ha)) ?_
   refine A2<|Y<|Bf<|Y<|O<|Z (.cp (A7 a) 0) J (By (Do Dz Dk J ha))<|Z (.agg (A7 a)) J (Aq (Cl Dk J)) ?_
   refine Bg (j:=2) hI J J J J Dk J fun g3=>Ar (Ax (v:=(.agg (A7 a))) hI J J J J Dk J J J J J)<|Aa<|Aj ?_
   refine Y<|Y<|O<|Ab 2 [] [(32,(.bool (!(text==[]))))] ?_
   refine Aa<|D6 (C0 fun fBad1 l3=>I4 a fBad1 l3) (C0 fun fBad1 l3=>fun(fr:Nat→AV) (h:Ag) => ∃ (v4:AV),∃ (g5:Nat),A3 v4 (ix ids 1) g5 l3.length∧fr=A5 [(0,(.q ids 0 g)),(1,(.str text)),(4,(.func (.func 51) [(.q ids 0 g)] [])),(11,(.q ids 2 g3)),(25,(.sl 8 (List.map A7 l))),(26,(.I (l.length:Int))),(27,(.I (j:Int)))]∧h=hp h0 ids [(some (.rows g 2 [[v4,(.bool fBad1)]])),(Ai v4 g5 4 (List.map Ac l3)),(some (.rows g3 8 [(A7 a)]))]) ?_ fun hJ1=>?_
   ·rintro⟨fBad1,l3⟩ fr h ⟨v4,g5,vH3,rfl,rfl⟩
    refine Al (I4.eq_1 _ _ _)<|Y<|O<|Ab 2 [2] [(38,(.agg (A7 a))),(37,(.func (.func 51) [(.q ids 0 g)] []))] ?_
    refine Ak [0,1] hI J J (Vl a fBad1 l3 _ (ix ids 0) (ix ids 1) g v4 g5 vH3 (by exact hI.sub' J J)) J J J J J J (fun v _=>Ao (K:=2) (N:=1) Tryz.func50 hI) ?_
    rintro r1 _ _ _ ⟨v5,g6,vH4,rfl,rfl⟩
    refine Av [0,1] hI J J J ?_
    refine Ap<|Aa<|Aj ?_
    refine O<|Z (.q ids 0 g) J Ae<|Dd (e:=rS) (L:=[[59]]) (st:=1) (rows:=[[(.str [59])]]) J Dt Co J J J J J (.cons (RowSim.refl _) .nil) (fun x=>Gh x) J J<|Ak [0,1] hI J J (C2 [[59]] r1.1 r1.2 _ (ix ids 0) (ix ids 1) g v5 g6 vH4 (by exact hI.sub' J J)) J J J J J J (fun v _=>Ao (K:=2) (N:=1) Tryz.func50 hI) ?_
    rintro r2 _ _ _ ⟨v6,g7,vH5,rfl,rfl⟩
    refine Av [0,1] hI J J J ?_
    refine Ap<|Aa<|Aj ?_
    refine Bs<|O<|Ab 2 [] [(27,(.I (IntKind.wrap .i64 ((j:Int)+1))))] ?_
    refine Aa<|Eo [(some (.rows g 2 [[v6,(.bool r2.1)]])),(Ai v6 g7 4 (List.map Ac r2.2)),none] hI J (.keep (.keep (.drop .nil)))<|Br (Sm (hW (r2.1,r2.2) _ _ ⟨v6,g7,vH5,J,J⟩)) (.cons J (.cons J (.cons J (.cons J (.cons J (.cons (D8 (Bc ha) hlim) .nil))))))
   refine D1 J (fun hc=>?_) (fun hc=>?_)
   ·refine A2<|Br (hJ1 (fBad,l2) _ _ ⟨v2,g2,vH1,J,J⟩)
   refine O<|Ab 2 [] [(34,(.str text)),(33,(.q ids 0 g))] ?_
   refine Dd (e:=rS) (L:=[text]) (st:=1) (rows:=[[(.str text)]]) J Dt Co J J J J J (.cons (RowSim.refl _) .nil) (fun x=>Gh x) J J<|Ak [0,1] hI J J (Bx [text] fBad l2 _ (ix ids 0) (ix ids 1) g v2 g2 vH1 (by exact hI.sub' J J)) J J J J J J (fun v _=>Ao (K:=2) (N:=1) Tryz.func50 hI) ?_
   rintro r _ _ _ ⟨v3,g4,vH2,rfl,rfl⟩
   refine Av [0,1] hI J J J ?_
   refine Ap<|Aa<|Aj ?_
   exact Br (hJ1 (r.1,r.2) _ _ ⟨v3,g4,vH2,J,J⟩)
  rintro⟨fBad,l2⟩ fr h ⟨v2,g2,vH1,rfl,rfl⟩
  refine Al (Oc _ _ _)<|Y<|O<|Z (.bool (decide ((l.length:Int)<(l.length:Int)))) J (Bh J J J)<|Aa<|Y<|C6 J (Int.lt_irrefl _) ?_
  refine Db J<|B4 (K:=2) (N:=1) (a:=(fBad,l2)) (vs:=[]) [some (.rows g 2 [[v2,(.bool fBad)]]),Ai v2 g2 4 (List.map Ac l2)] Tryz.func50 hI J J J (.keep (.keep (.keep .nil))) (.same _) ⟨v2,g2,vH1,J,J⟩
 ·refine A0 (t:=17) hb1 J<|Ab 5 [] [(22,(.bool true))] ?_
  exact Ba hJ (.cons J (.cons J (.cons J (.cons J (.cons J (.cons (Fb hb1) .nil))))))
 refine A0 (t:=17) hb1 J<|Bu (tj:=17) (.sl 8 (List.map A7 l)) J J J Ae<|Bu (tj:=17) (.I (l.length:Int)) J J J (Ay (A8 Dz))<|Ab 3 [] [(22,(.bool (decide ((l.length:Int) > most))))] ?_
 exact Ba hJ (.cons J (.cons J (.cons J (.cons J (.cons J (.cons (Fa hb1) .nil))))))
theorem Aa1 (l:List Au)(sep:Au):CP Tryz.prog 61 [.sl 1 (l.map rS),.str sep] (strings_Join l sep) (fun x=>AV.str x):=
 Ad7 (.mk Tryz.func61 rfl (by decide)) (fun p h=>by unfold strings_Join at h; split at h <;> cases h) fun a ha B mu h w cargs hs hl=>by
  obtain⟨c1,c2,rfl,h1,h2⟩:=Afj hl
  obtain rfl:=Abj h2
  unfold strings_Join at ha
  split at ha
  ·rename_i hn
   cases ha
   have key:l=[] ∨ ∃ bk o cap,c1=.slice (some ⟨bk,o,none⟩) l.length cap∧bk<w.heap.size∧l.length≤D2∧l.length≤cap ∧ ∀ j x,l[j]? = some x→w.cell? ⟨bk,o+j,none⟩=some (.string ⟨x.toArray⟩):=Am4 h1
   rcases key with rfl | ⟨bk,o,cap,rfl,hb,hlim,hcap,hc⟩
   ·obtain⟨a,cap,rfl⟩:=An9 h1
    refine(Go.Proofs.Tryz.strings_Join_none a cap ⟨sep.toArray⟩ w).mono ?_
    rintro e w' ⟨rfl,rfl⟩
    exact⟨Go.RowKit.Below.refl _ _,_,J,.str _⟩
   ·have em:(l.map fun x=>(⟨x.toArray⟩:ByteArray)).map (·.data.toList)=l:=by simp [Function.comp_def]
    have:=Go.Proofs.Tryz.strings_Join bk o cap (l.map fun x=>⟨x.toArray⟩) ⟨sep.toArray⟩ w (fun j x hx=>by
     rw [List.getElem?_map] at hx
     cases hq:l[j]? with
     | none=>rw [hq] at hx; cases hx
     | some y=>rw [hq] at hx; cases hx; exact hc j y hq) hb (by rw [List.length_map]; exact hlim) (by simpa using hcap) (by rw [em]; exact hn)
    rw [em,List.length_map] at this
    refine this.mono ?_
    rintro e w' ⟨rfl,hbel⟩
    exact⟨hbel,_,J,.str _⟩
  ·cases ha
theorem Afd (l:List Token):CP Tryz.prog 17 [(.sl 4 (List.map Ac l))] (Aaj l) (fun(p:(Au×Int))=>AV.tup [(.str p.1),(.int .i64 p.2)]):=by
 refine Cq (n:=39) 2 Tryz.func17 J (by decide) J J fun h0 ids hI=>Bo (Al (Aaj.eq_1 _) ?_)
 refine Y<|O<|Ab 2 [] [] ?_
 refine Aa<|Y<|O<|Z (.sl 4 (List.map Ac l)) J Ae<|Z (.I (l.length:Int)) J (Ay (A8 Cp))<|Gd fun hl=>Alq (y:=([]:Au)) (e:=rS) (st:=1) (j:=0) hI J J J J Dt Co J J hl.1 hl.2.1 hl.2.2 J J J J J fun v g vH=>?_
 refine Z v J An<|Aa<|Aj ?_
 refine Y<|Y<|O<|Z (.sl 4 (List.map Ac l)) J Ae<|Z (.I (l.length:Int)) J (Ay (A8 Cp))<|Z (.I 0) J Ae<|Aa ?_
 refine Bf<|Ea [(4,v),(10,(.sl 4 (List.map Ac l))),(11,(.I (l.length:Int))),(12,(.I 0))] (FI J)<|Ep (P:=Tryz.prog) l (fun j a=>fun words=>Sx j a words) ((Dp (fun words=>(strings_Join words [32]).bind fun src=>.ok (src,0)) (fun r=>.ok r)):((List Au) ⊕ (Au×Int))→R (Au×Int)) (fun j=>fun words=>fun(fr:Nat→AV) (h:Ag) => ∃ (v1:AV),∃ (g1:Nat),A3 v1 (ix ids 0) g1 words.length∧fr=A5 [(4,v1),(10,(.sl 4 (List.map Ac l))),(11,(.I (l.length:Int))),(12,(.I (j:Int)))]∧h=hp h0 ids [(Ai v1 g1 1 (List.map rS words)),none]) (List.replicate (Int.toNat (l.length:Int)) []) ?_ ?_ ?_
 ·exact⟨v,g,vH,J,J⟩
 ·rintro j a ha W hW words fr h ⟨v1,g1,vH1,rfl,rfl⟩
  refine Al (m':=Sx j a words) J (Al (Sx.eq_1 _ _ _) ?_)
  refine Y<|O<|Z (.bool (decide ((j:Int)<(l.length:Int)))) J (Bh J J J)<|Aa<|Y<|Eb (t:=10) (L:=l) J fun hlim=>C7 J (Int.ofNat_lt.2 (Bc ha)) ?_
  refine A2<|Y<|Bf<|Y<|O<|Z (.I (j:Int)) J Ae<|Z (.cp (Ac a) 0) J (By (Do Cp C3 J ha)) ?_
  refine Z (.agg (Ac a)) J (Aq (Cl C3 J))<|Bg (j:=1) hI J J J J C3 J fun g2=>Z (.I (j:Int)) J An<|Ar (Ax (v:=(.agg (Ac a))) hI J J J J C3 J J J J J)<|Aa<|Aj ?_
  refine Bf<|Y<|O<|Ab 1 [1] [(23,(.agg (Ac a)))] ?_
  refine B0 [(.agg (Ac a))] J J J J ((Yv a) _) (fun v _=>Cc Tryz.func17 hI) fun r _=>Ab 2 [] [(22,(.bool (!r)))] ?_
  refine Aa<|D1 J (fun hc=>?_) (fun hc=>?_)
  ·refine Y<|O<|Ab 4 [1] [(26,(.bool (a.Kind==2)))] ?_
   refine Aa<|B6 J (fun hc1=>?_) (fun hc1=>?_)
   ·refine O<|Ab 4 [1] [(33,(.I a.N)),(31,(.I (j:Int))),(30,v1)] ?_
    refine B0 [(.I a.N)] J J J J ((Vz a.N) _) (fun v _=>Cc Tryz.func17 hI) fun r1 _=>Ek fun a1 hz hx1=>Z (.ptr (ix ids 0) g1 (j:Int).toNat 0) J (By (Afy hI J vH1 J Dt Co J hz hx1))<|Ar (Ahu (y:=r1) hI J J vH1 J hx1 Co J J J J J J) ?_
    have vH2:=A3.set (i:=(j:Int).toNat) (y:=r1) vH1
    have hx2:=List.getElem?_set_self (a:=r1) (Bc hx1)
    refine Aa<|Aj ?_
    refine Bs<|Bs<|O<|Ab 2 [] [(12,(.I (IntKind.wrap .i64 ((j:Int)+1))))] ?_
    refine Aa<|Eo [(Ai v1 g1 1 (List.map rS (words.set (j:Int).toNat r1))),none] hI J (.keep (.drop .nil))<|Br (Fe (hW (words.set (j:Int).toNat r1) _ _ ⟨v1,g1,vH2,J,J⟩)) (.cons J (.cons J (.cons J (.cons (D8 (Bc ha) hlim) .nil))))
   refine O<|Ab 4 [1] [(20,(.str a.Text)),(18,(.I (j:Int))),(17,v1)] ?_
   refine Ek fun a2 hz1 hx3=>Z (.ptr (ix ids 0) g1 (j:Int).toNat 0) J (By (Afy hI J vH1 J Dt Co J hz1 hx3))<|Ar (Ahu (y:=a.Text) hI J J vH1 J hx3 Co J J J J J J) ?_
   have vH3:=A3.set (i:=(j:Int).toNat) (y:=a.Text) vH1
   have hx4:=List.getElem?_set_self (a:=a.Text) (Bc hx3)
   refine Aa<|Aj ?_
   refine Bs<|Bs<|O<|Ab 2 [] [(12,(.I (IntKind.wrap .i64 ((j:Int)+1))))] ?_
   refine Aa<|Eo [(Ai v1 g1 1 (List.map rS (words.set (j:Int).toNat a.Text))),none] hI J (.keep (.drop .nil))<|Br (Fe (hW (words.set (j:Int).toNat a.Text) _ _ ⟨v1,g1,vH3,J,J⟩)) (.cons J (.cons J (.cons J (.cons (D8 (Bc ha) hlim) .nil))))
  refine Y<|O<|Ab 2 [] [(3,(.I 70)),(2,(.str []))] ?_
  refine Aa<|Fc<|F5<|Bv (a:=([],70)) (vs:=[(.str []),(.I 70)]) Tryz.func17 hI J (.tupL (.cons (.same _) (.cons (.same _) .nil)))
 rintro words fr h ⟨v1,g1,vH1,rfl,rfl⟩
 refine Al (Fk _ _ _)<|Y<|O<|Z (.bool (decide ((l.length:Int)<(l.length:Int)))) J (Bh J J J)<|Aa<|Y<|C6 J (Int.lt_irrefl _) ?_
 refine Db J<|Y<|O<|Z v1 J Ae<|B0 [v1,(.str [32])] J J J J (CP.lend (Aa1 words [32]) (LF.lfz (.cons (Er vH1 (hI.at J J) J (fun x=>Gh x)) (.cons (.same _) .nil))) (fun _ _=>(.str _))) (fun v _=>Cc Tryz.func17 hI) fun src _=>Ab 2 [] [(3,(.I 0)),(2,(.str src))] ?_
 refine Aa<|Bv (a:=(src,0)) (vs:=[(.str src),(.I 0)]) Tryz.func17 hI J (.tupL (.cons (.same _) (.cons (.same _) .nil)))
theorem Ri (a:Airspace):CP Tryz.prog 14 [(.agg (Aw a))] (Ps a) (fun(p:(Au×Int))=>AV.tup [(.str p.1),(.int .i64 p.2)]):=by
 refine Cq (n:=59) 4 Tryz.func14 J (by decide) J J fun h0 ids hI=>Bo (Al (Ps.eq_1 _) ?_)
 refine Y<|O<|Ck (v:=(.agg (Aw a))) (j:=0) hI J J J J J J J fun g=>Ab 2 [] [] ?_
 refine Aa<|Aj ?_
 refine Y<|O<|Z (.agg [.emp,(.bool false)]) J (Ln (P9 Wb App J))<|Ck (v:=(.agg [.emp,(.bool false)])) (j:=1) hI J J J J J J J fun g1=>Bg (j:=2) hI J J J J Abp J fun g2=>Ar (Ax (v:=(.q ids 1 g1)) hI J J J J Abp J J J J J)<|Aa ?_
 refine Aj ?_
 refine Y<|O<|Ab 4 [2,0] [(10,(.func (.func 29) [] [(.q ids 2 g2)])),(9,(.sl 2 (List.map As a.Volumes))),(7,(.q ids 1 g1))] ?_
 refine Ak [1,2,3] hI J J (Td [118,111,108,117,109,101] a.Volumes 64 false _ (ix ids 1) (ix ids 2) (ix ids 3) g1 g2 (by exact hI.sub' J J)) J J J J J J (fun v _=>Cc Tryz.func14 hI) ?_
 rintro r _ _ _ ⟨v,g3,vH,rfl,rfl⟩
 refine Av [1,2,3] hI J J J ?_
 refine Ap<|Aa<|Aj ?_
 refine Y<|O<|Ab 4 [2,0] [(15,(.func (.func 33) [] [(.q ids 2 g2)])),(14,(.sl 5 (List.map A6 a.Sectors))),(12,(.q ids 1 g1))] ?_
 refine Ak [1,3,2] hI J J (Sy [115,101,99,116,111,114] a.Sectors 64 r.1 r.2 _ (ix ids 1) (ix ids 3) (ix ids 2) g1 v g3 g2 vH (by exact hI.sub' J J)) J J J J J J (fun v _=>Cc Tryz.func14 hI) ?_
 rintro r1 _ _ _ ⟨v1,g4,vH1,rfl,rfl⟩
 refine Av [1,3,2] hI J J J ?_
 refine Ap<|Aa<|Aj ?_
 refine Y<|O<|Ab 4 [2,0] [(20,(.func (.func 39) [] [(.q ids 2 g2)])),(19,(.sl 3 (List.map Bk a.Configs))),(17,(.q ids 1 g1))] ?_
 refine Ak [1,3,2] hI J J (S7 [99,111,110,102,105,103] a.Configs 32 r1.1 r1.2 _ (ix ids 1) (ix ids 3) (ix ids 2) g1 v1 g4 g2 vH1 (by exact hI.sub' J J)) J J J J J J (fun v _=>Cc Tryz.func14 hI) ?_
 rintro r2 _ _ _ ⟨v2,g5,vH2,rfl,rfl⟩
 refine Av [1,3,2] hI J J J ?_
 refine Ap<|Aa<|Aj ?_
 refine Y<|O<|Ab 4 [2,0] [(25,(.func (.func 41) [] [(.q ids 2 g2)])),(24,(.sl 5 (List.map Bd a.Segments))),(22,(.q ids 1 g1))] ?_
 refine Ak [1,3,2] hI J J (Sg [115,101,103,109,101,110,116] a.Segments 128 r2.1 r2.2 _ (ix ids 1) (ix ids 3) (ix ids 2) g1 v2 g5 g2 vH2 (by exact hI.sub' J J)) J J J J J J (fun v _=>Cc Tryz.func14 hI) ?_
 rintro r3 _ _ _ ⟨v3,g6,vH3,rfl,rfl⟩
 refine Av [1,3,2] hI J J J ?_
 refine Ap<|Aa<|Aj ?_
 refine Y<|O<|Ab 4 [2,0] [(30,(.func (.func 43) [] [(.q ids 2 g2)])),(29,(.sl 7 (List.map Bt a.Routes))),(27,(.q ids 1 g1))] ?_
 refine Ak [1,3,2] hI J J (Tt [114,111,117,116,101] a.Routes 64 r3.1 r3.2 _ (ix ids 1) (ix ids 3) (ix ids 2) g1 v3 g6 g2 vH3 (by exact hI.sub' J J)) J J J J J J (fun v _=>Cc Tryz.func14 hI) ?_
 rintro r4 _ _ _ ⟨v4,g7,vH4,rfl,rfl⟩
 refine Av [1,3,2] hI J J J ?_
 refine Ap<|Aa<|Aj ?_
 refine Y<|O<|Ab 4 [2,0] [(35,(.func (.func 45) [] [(.q ids 2 g2)])),(34,(.sl 2 (List.map Bb a.Airports))),(32,(.q ids 1 g1))] ?_
 refine Ak [1,3,2] hI J J (Sb [97,105,114,112,111,114,116] a.Airports 16 r4.1 r4.2 _ (ix ids 1) (ix ids 3) (ix ids 2) g1 v4 g7 g2 vH4 (by exact hI.sub' J J)) J J J J J J (fun v _=>Cc Tryz.func14 hI) ?_
 rintro r5 _ _ _ ⟨v5,g8,vH5,rfl,rfl⟩
 refine Av [1,3,2] hI J J J ?_
 refine Ap<|Aa<|Aj ?_
 refine Y<|O<|Ab 4 [2,0] [(40,(.func (.func 49) [] [(.q ids 2 g2)])),(39,(.sl 4 (List.map B2 a.Classes))),(37,(.q ids 1 g1))] ?_
 refine Ak [1,3,2] hI J J (Ts [99,108,97,115,115] a.Classes 8 r5.1 r5.2 _ (ix ids 1) (ix ids 3) (ix ids 2) g1 v5 g8 g2 vH5 (by exact hI.sub' J J)) J J J J J J (fun v _=>Cc Tryz.func14 hI) ?_
 rintro r6 _ _ _ ⟨v6,g9,vH6,rfl,rfl⟩
 refine Av [1,3,2] hI J J J ?_
 refine Ap<|Aa<|Aj ?_
 refine Y<|O<|Ab 5 [2,0,2] [(46,(.func (.func 51) [(.q ids 1 g1)] [])),(44,(.sl 8 (List.map A7 a.Rules))),(42,(.q ids 1 g1))] ?_
 refine Ak [1,3] hI J J (Te [] a.Rules 64 r6.1 r6.2 _ (ix ids 1) (ix ids 3) g1 v6 g9 vH6 (by exact hI.sub' J J)) J J J J J J (fun v _=>Cc Tryz.func14 hI) ?_
 rintro r7 _ _ _ ⟨v7,g10,vH7,rfl,rfl⟩
 refine Av [1,3] hI J J J ?_
 refine Ap<|Aa<|Aj ?_
 refine Y<|Y<|O<|Ab 4 [2,1] [(51,(.bool r7.1))] ?_
 refine Aa<|B6 J (fun hc=>?_) (fun hc=>?_)
 ·refine Y<|O<|Ab 2 [] [(3,(.I 80)),(2,(.str []))] ?_
  refine Aa<|Bv (a:=([],80)) (vs:=[(.str []),(.I 80)]) Tryz.func14 hI J (.tupL (.cons (.same _) (.cons (.same _) .nil)))
 refine A2<|Y<|O<|Ab 4 [2,1] [(55,v7)] ?_
 refine B0 [v7] J J J J (CP.lend (Afd r7.2) (LF.lfz (.cons (Er vH7 (hI.at J J) J (fun x=>O3 x)) .nil)) (fun _ _=>(.tup2 (.str _) (.int _ _)))) (fun v _=>Cc Tryz.func14 hI) fun r8 _=>Ab 4 [] [(3,(.I r8.2)),(2,(.str r8.1))] ?_
 refine Aa<|Bv (a:=(r8.1,r8.2)) (vs:=[(.str r8.1),(.I r8.2)]) Tryz.func14 hI J (.tupL (.cons (.same _) (.cons (.same _) .nil)))
theorem S0 (a:List Span)(b:List Span):CP Tryz.prog 24 [(.sl 2 (List.map B5 a)),(.sl 2 (List.map B5 b))] (Mg a b) (fun(x:Bool)=>(AV.bool x)):=by
 refine Cq (n:=26) 0 Tryz.func24 J (by decide) J J fun h0 ids hI=>Bo (Al (Mg.eq_1 _ _) ?_)
 refine Y<|O<|Z (.bool false) J An<|Aa<|Y<|Y<|O ?_
 refine Z (.sl 2 (List.map B5 a)) J Ae<|Z (.I (a.length:Int)) J (Ay (A8 L3))<|Z (.sl 2 (List.map B5 b)) J Ae<|Z (.I (b.length:Int)) J (Ay (A8 L3))<|Z (.bool ((a.length:Int) != (b.length:Int))) J (Bh J J J)<|Aa<|B6 J (fun hc=>?_) (fun hc=>?_)
 ·refine Y<|O<|Z (.bool false) J An<|Aa<|Bv (a:=false) (vs:=[(.bool false)]) Tryz.func24 hI J (.same _)
 refine A2<|Y<|Y<|O<|Z (.I 0) J An<|Aa<|Bf ?_
 refine Ea [(0,(.sl 2 (List.map B5 a))),(1,(.sl 2 (List.map B5 b))),(5,(.I 0))] (FI J)<|Ep (P:=Tryz.prog) a (fun j a1=>fun _=>L1 b j a1) ((Dp (fun _=>.ok true) (fun r=>.ok r)):(Unit ⊕ Bool)→R Bool) (fun j=>fun _=>fun(fr:Nat→AV) (h:Ag)=>fr=A5 [(0,(.sl 2 (List.map B5 a))),(1,(.sl 2 (List.map B5 b))),(5,(.I (j:Int)))]∧h=hp h0 ids []) () ?_ ?_ ?_
 ·exact⟨J,J⟩
 ·rintro j a1 ha1 W hW _ fr h ⟨rfl,rfl⟩
  refine Al (m':=L1 b j a1) J (Al (L1.eq_1 _ _ _) ?_)
  refine Y<|Y<|O<|Ab 2 [] [(12,(.sl 2 (List.map B5 a))),(11,(.I (j:Int)))] ?_
  refine Z (.I (a.length:Int)) J (Ay (A8 L3))<|Z (.bool (decide ((j:Int)<(a.length:Int)))) J (Bh J J J)<|Aa<|Eb (t:=0) (L:=a) J fun hlim=>C7 J (Int.ofNat_lt.2 (Bc ha1))<|A2<|Y ?_
  refine Bf<|Y<|Cm Et [[],[],[0,1],[0,1,2],[],[],[4,5],[4,5,6],[0,1,2,3,4,5,6,7]] [(false,0),(false,1),(false,2),(false,3),(false,4),(false,5),(false,6),(false,7),(false,8)] (by kernel_rfl)<|Af (.sl 2 (List.map B5 a)) J J Ae<|Af (.I (j:Int)) J J Ae<|Af (.cp (B5 a1) 0) J J (By (Do L3 K1 J ha1))<|Af (.agg (B5 a1)) J J (Aq (Cl K1 J)) ?_
  refine Af (.sl 2 (List.map B5 b)) J J Ae<|Af (.I (j:Int)) J J Ae<|Oj fun a2 hz hx1=>Af (.cp (B5 a2) 0) J J (By (Dl L3 K1 J hz hx1))<|Af (.agg (B5 a2)) J J (Aq (Cl K1 J))<|Af (.bool (!((a1.From==a2.From)&&(a1.To==a2.To)))) J J (Bh (Ait J J) J Aid)<|Cf ?_
  refine D1 J (fun hc1=>?_) (fun hc1=>?_)
  ·refine A2<|Bs<|O<|Ab 3 [] [(5,(.I (IntKind.wrap .i64 ((j:Int)+1))))] ?_
   refine Aa<|Br (Fe (hW () _ _ ⟨J,J⟩)) (.cons J (.cons J (.cons (D8 (Bc ha1) hlim) .nil)))
  refine Y<|O<|Z (.bool false) J An<|Aa<|Fc<|F5<|Bv (a:=false) (vs:=[(.bool false)]) Tryz.func24 hI J (.same _)
 rintro _ fr h ⟨rfl,rfl⟩
 refine Al (Fk _ _ _)<|Y<|Y<|O<|Ab 2 [] [(12,(.sl 2 (List.map B5 a))),(11,(.I (a.length:Int)))] ?_
 refine Z (.I (a.length:Int)) J (Ay (A8 L3))<|Z (.bool (decide ((a.length:Int)<(a.length:Int)))) J (Bh J J J)<|Aa<|C6 J (Int.lt_irrefl _)<|Db J<|Y<|O ?_
 refine Z (.bool true) J An<|Aa<|Bv (a:=true) (vs:=[(.bool true)]) Tryz.func24 hI J (.same _)
theorem Pz (a:List Au)(b:List Au):CP Tryz.prog 25 [(.sl 1 (List.map rS a)),(.sl 1 (List.map rS b))] (Ke a b) (fun(x:Bool)=>(AV.bool x)):=by
 refine Cq (n:=26) 0 Tryz.func25 J (by decide) J J fun h0 ids hI=>Bo (Al (Ke.eq_1 _ _) ?_)
 refine Y<|O<|Z (.bool false) J An<|Aa<|Y<|Y<|O ?_
 refine Z (.sl 1 (List.map rS a)) J Ae<|Z (.I (a.length:Int)) J (Ay (A8 Dt))<|Z (.sl 1 (List.map rS b)) J Ae<|Z (.I (b.length:Int)) J (Ay (A8 Dt))<|Z (.bool ((a.length:Int) != (b.length:Int))) J (Bh J J J)<|Aa<|B6 J (fun hc=>?_) (fun hc=>?_)
 ·refine Y<|O<|Z (.bool false) J An<|Aa<|Bv (a:=false) (vs:=[(.bool false)]) Tryz.func25 hI J (.same _)
 refine A2<|Y<|Y<|O<|Z (.I 0) J An<|Aa<|Bf ?_
 refine Ea [(0,(.sl 1 (List.map rS a))),(1,(.sl 1 (List.map rS b))),(5,(.I 0))] (FI J)<|Ep (P:=Tryz.prog) a (fun j a1=>fun _=>Lw b j a1) ((Dp (fun _=>.ok true) (fun r=>.ok r)):(Unit ⊕ Bool)→R Bool) (fun j=>fun _=>fun(fr:Nat→AV) (h:Ag)=>fr=A5 [(0,(.sl 1 (List.map rS a))),(1,(.sl 1 (List.map rS b))),(5,(.I (j:Int)))]∧h=hp h0 ids []) () ?_ ?_ ?_
 ·exact⟨J,J⟩
 ·rintro j a1 ha1 W hW _ fr h ⟨rfl,rfl⟩
  refine Al (m':=Lw b j a1) J (Al (Lw.eq_1 _ _ _) ?_)
  refine Y<|Y<|O<|Ab 2 [] [(12,(.sl 1 (List.map rS a))),(11,(.I (j:Int)))] ?_
  refine Z (.I (a.length:Int)) J (Ay (A8 Dt))<|Z (.bool (decide ((j:Int)<(a.length:Int)))) J (Bh J J J)<|Aa<|Eb (t:=0) (L:=a) J fun hlim=>C7 J (Int.ofNat_lt.2 (Bc ha1))<|A2<|Y ?_
  refine Bf<|Y<|Cm Et [[],[],[0,1],[0,1,2],[],[],[4,5],[4,5,6],[0,1,2,3,4,5,6,7]] [(false,0),(false,1),(false,2),(false,3),(false,4),(false,5),(false,6),(false,7),(false,8)] (by kernel_rfl)<|Af (.sl 1 (List.map rS a)) J J Ae<|Af (.I (j:Int)) J J Ae<|Af (.cp [(.str a1)] 0) J J (By (Do Dt Co J ha1))<|Af (.str a1) J J (Aq (Cl Co J)) ?_
  refine Af (.sl 1 (List.map rS b)) J J Ae<|Af (.I (j:Int)) J J Ae<|Oj fun a2 hz hx1=>Af (.cp [(.str a2)] 0) J J (By (Dl Dt Co J hz hx1))<|Af (.str a2) J J (Aq (Cl Co J))<|Af (.bool (!(a1==a2))) J J (Bh J J J)<|Cf ?_
  refine D1 J (fun hc1=>?_) (fun hc1=>?_)
  ·refine A2<|Bs<|O<|Ab 3 [] [(5,(.I (IntKind.wrap .i64 ((j:Int)+1))))] ?_
   refine Aa<|Br (Fe (hW () _ _ ⟨J,J⟩)) (.cons J (.cons J (.cons (D8 (Bc ha1) hlim) .nil)))
  refine Y<|O<|Z (.bool false) J An<|Aa<|Fc<|F5<|Bv (a:=false) (vs:=[(.bool false)]) Tryz.func25 hI J (.same _)
 rintro _ fr h ⟨rfl,rfl⟩
 refine Al (Fk _ _ _)<|Y<|Y<|O<|Ab 2 [] [(12,(.sl 1 (List.map rS a))),(11,(.I (a.length:Int)))] ?_
 refine Z (.I (a.length:Int)) J (Ay (A8 Dt))<|Z (.bool (decide ((a.length:Int)<(a.length:Int)))) J (Bh J J J)<|Aa<|C6 J (Int.lt_irrefl _)<|Db J<|Y<|O ?_
 refine Z (.bool true) J An<|Aa<|Bv (a:=true) (vs:=[(.bool true)]) Tryz.func25 hI J (.same _)
theorem Qi (a:List Int)(b:List Int):CP Tryz.prog 26 [(.sl 1 (List.map (rI .i64) a)),(.sl 1 (List.map (rI .i64) b))] (Hb a b) (fun(x:Bool)=>(AV.bool x)):=by
 refine Cq (n:=26) 0 Tryz.func26 J (by decide) J J fun h0 ids hI=>Bo (Al (Hb.eq_1 _ _) ?_)
 refine Y<|O<|Z (.bool false) J An<|Aa<|Y<|Y<|O ?_
 refine Z (.sl 1 (List.map (rI .i64) a)) J Ae<|Z (.I (a.length:Int)) J (Ay (A8 Pu))<|Z (.sl 1 (List.map (rI .i64) b)) J Ae<|Z (.I (b.length:Int)) J (Ay (A8 Pu))<|Z (.bool ((a.length:Int) != (b.length:Int))) J (Bh J J J)<|Aa<|B6 J (fun hc=>?_) (fun hc=>?_)
 ·refine Y<|O<|Z (.bool false) J An<|Aa<|Bv (a:=false) (vs:=[(.bool false)]) Tryz.func26 hI J (.same _)
 refine A2<|Y<|Y<|O<|Z (.I 0) J An<|Aa<|Bf ?_
 refine Ea [(0,(.sl 1 (List.map (rI .i64) a))),(1,(.sl 1 (List.map (rI .i64) b))),(5,(.I 0))] (FI J)<|Ep (P:=Tryz.prog) a (fun j a1=>fun _=>Mo b j a1) ((Dp (fun _=>.ok true) (fun r=>.ok r)):(Unit ⊕ Bool)→R Bool) (fun j=>fun _=>fun(fr:Nat→AV) (h:Ag)=>fr=A5 [(0,(.sl 1 (List.map (rI .i64) a))),(1,(.sl 1 (List.map (rI .i64) b))),(5,(.I (j:Int)))]∧h=hp h0 ids []) () ?_ ?_ ?_
 ·exact⟨J,J⟩
 ·rintro j a1 ha1 W hW _ fr h ⟨rfl,rfl⟩
  refine Al (m':=Mo b j a1) J (Al (Mo.eq_1 _ _ _) ?_)
  refine Y<|Y<|O<|Ab 2 [] [(12,(.sl 1 (List.map (rI .i64) a))),(11,(.I (j:Int)))] ?_
  refine Z (.I (a.length:Int)) J (Ay (A8 Pu))<|Z (.bool (decide ((j:Int)<(a.length:Int)))) J (Bh J J J)<|Aa<|Eb (t:=0) (L:=a) J fun hlim=>C7 J (Int.ofNat_lt.2 (Bc ha1))<|A2<|Y ?_
  refine Bf<|Y<|Cm Et [[],[],[0,1],[0,1,2],[],[],[4,5],[4,5,6],[0,1,2,3,4,5,6,7]] [(false,0),(false,1),(false,2),(false,3),(false,4),(false,5),(false,6),(false,7),(false,8)] (by kernel_rfl)<|Af (.sl 1 (List.map (rI .i64) a)) J J Ae<|Af (.I (j:Int)) J J Ae<|Af (.cp [(.I a1)] 0) J J (By (Do Pu D0 J ha1))<|Af (.I a1) J J (Aq (Cl D0 J)) ?_
  refine Af (.sl 1 (List.map (rI .i64) b)) J J Ae<|Af (.I (j:Int)) J J Ae<|Oj fun a2 hz hx1=>Af (.cp [(.I a2)] 0) J J (By (Dl Pu D0 J hz hx1))<|Af (.I a2) J J (Aq (Cl D0 J))<|Af (.bool (a1 != a2)) J J (Bh J J J)<|Cf ?_
  refine B6 J (fun hc1=>?_) (fun hc1=>?_)
  ·refine Y<|O<|Z (.bool false) J An<|Aa<|Fc<|F5<|Bv (a:=false) (vs:=[(.bool false)]) Tryz.func26 hI J (.same _)
  refine A2<|Bs<|O<|Ab 3 [] [(5,(.I (IntKind.wrap .i64 ((j:Int)+1))))] ?_
  refine Aa<|Br (Fe (hW () _ _ ⟨J,J⟩)) (.cons J (.cons J (.cons (D8 (Bc ha1) hlim) .nil)))
 rintro _ fr h ⟨rfl,rfl⟩
 refine Al (Fk _ _ _)<|Y<|Y<|O<|Ab 2 [] [(12,(.sl 1 (List.map (rI .i64) a))),(11,(.I (a.length:Int)))] ?_
 refine Z (.I (a.length:Int)) J (Ay (A8 Pu))<|Z (.bool (decide ((a.length:Int)<(a.length:Int)))) J (Bh J J J)<|Aa<|C6 J (Int.lt_irrefl _)<|Db J<|Y<|O ?_
 refine Z (.bool true) J An<|Aa<|Bv (a:=true) (vs:=[(.bool true)]) Tryz.func26 hI J (.same _)
theorem Tr (a:Airspace)(b:Airspace):CP Tryz.prog 12 [(.agg (Aw a)),(.agg (Aw b))] (O0 a b) (fun(x:Bool)=>(AV.bool x)):=by
 refine Cq (n:=422) 12 Tryz.func12 J (by decide) J J fun h0 ids hI=>Bo (Al (O0.eq_1 _ _) ?_)
 refine Y<|O<|Ck (v:=(.agg (Aw a))) (j:=0) hI J J J J J J J fun g=>Ck (v:=(.agg (Aw b))) (j:=1) hI J J J J J J J fun g1=>Z (.bool false) J An<|Aa<|Aj ?_
 refine Y<|Y<|O<|Ab 2 [0] [(25,(.sl 2 (List.map As a.Volumes)))] ?_
 refine Z (.I (a.Volumes.length:Int)) J (Ay (A8 Ew))<|Ab 2 [1] [(28,(.sl 2 (List.map As b.Volumes)))] ?_
 refine Z (.I (b.Volumes.length:Int)) J (Ay (A8 Ew))<|Ab 2 [] [(31,(.bool ((a.Volumes.length:Int) != (b.Volumes.length:Int))))] ?_
 refine Bw 8 [(2,(.q ids 0 g)),(3,(.q ids 1 g1)),(39,(.bool (((a.Volumes.length:Int) != (b.Volumes.length:Int))||((a.Sectors.length:Int) != (b.Sectors.length:Int)))))] ?_ fun hJ=>Bq ((a.Volumes.length:Int) != (b.Volumes.length:Int)) (fun hb1=>?_) (fun hb1=>?_)
 ·refine Z (.bool (((a.Volumes.length:Int) != (b.Volumes.length:Int))||((a.Sectors.length:Int) != (b.Sectors.length:Int)))) J Ae<|Bw 8 [(2,(.q ids 0 g)),(3,(.q ids 1 g1)),(48,(.bool ((((a.Volumes.length:Int) != (b.Volumes.length:Int))||((a.Sectors.length:Int) != (b.Sectors.length:Int)))||((a.Configs.length:Int) != (b.Configs.length:Int)))))] ?_ fun hJ1=>Bq (((a.Volumes.length:Int) != (b.Volumes.length:Int))||((a.Sectors.length:Int) != (b.Sectors.length:Int))) (fun hb3=>?_) (fun hb3=>?_)
  ·refine Z (.bool ((((a.Volumes.length:Int) != (b.Volumes.length:Int))||((a.Sectors.length:Int) != (b.Sectors.length:Int)))||((a.Configs.length:Int) != (b.Configs.length:Int)))) J Ae<|Bw 8 [(2,(.q ids 0 g)),(3,(.q ids 1 g1)),(57,(.bool (((((a.Volumes.length:Int) != (b.Volumes.length:Int))||((a.Sectors.length:Int) != (b.Sectors.length:Int)))||((a.Configs.length:Int) != (b.Configs.length:Int)))||((a.Segments.length:Int) != (b.Segments.length:Int)))))] ?_ fun hJ2=>Bq ((((a.Volumes.length:Int) != (b.Volumes.length:Int))||((a.Sectors.length:Int) != (b.Sectors.length:Int)))||((a.Configs.length:Int) != (b.Configs.length:Int))) (fun hb5=>?_) (fun hb5=>?_)
   ·refine Z (.bool (((((a.Volumes.length:Int) != (b.Volumes.length:Int))||((a.Sectors.length:Int) != (b.Sectors.length:Int)))||((a.Configs.length:Int) != (b.Configs.length:Int)))||((a.Segments.length:Int) != (b.Segments.length:Int)))) J Ae<|Bw 8 [(2,(.q ids 0 g)),(3,(.q ids 1 g1)),(66,(.bool ((((((a.Volumes.length:Int) != (b.Volumes.length:Int))||((a.Sectors.length:Int) != (b.Sectors.length:Int)))||((a.Configs.length:Int) != (b.Configs.length:Int)))||((a.Segments.length:Int) != (b.Segments.length:Int)))||((a.Routes.length:Int) != (b.Routes.length:Int)))))] ?_ fun hJ3=>Bq (((((a.Volumes.length:Int) != (b.Volumes.length:Int))||((a.Sectors.length:Int) != (b.Sectors.length:Int)))||((a.Configs.length:Int) != (b.Configs.length:Int)))||((a.Segments.length:Int) != (b.Segments.length:Int))) (fun hb7=>?_) (fun hb7=>?_)
    ·refine Z (.bool ((((((a.Volumes.length:Int) != (b.Volumes.length:Int))||((a.Sectors.length:Int) != (b.Sectors.length:Int)))||((a.Configs.length:Int) != (b.Configs.length:Int)))||((a.Segments.length:Int) != (b.Segments.length:Int)))||((a.Routes.length:Int) != (b.Routes.length:Int)))) J Ae<|Bw 8 [(2,(.q ids 0 g)),(3,(.q ids 1 g1)),(75,(.bool (((((((a.Volumes.length:Int) != (b.Volumes.length:Int))||((a.Sectors.length:Int) != (b.Sectors.length:Int)))||((a.Configs.length:Int) != (b.Configs.length:Int)))||((a.Segments.length:Int) != (b.Segments.length:Int)))||((a.Routes.length:Int) != (b.Routes.length:Int)))||((a.Airports.length:Int) != (b.Airports.length:Int)))))] ?_ fun hJ4=>Bq ((((((a.Volumes.length:Int) != (b.Volumes.length:Int))||((a.Sectors.length:Int) != (b.Sectors.length:Int)))||((a.Configs.length:Int) != (b.Configs.length:Int)))||((a.Segments.length:Int) != (b.Segments.length:Int)))||((a.Routes.length:Int) != (b.Routes.length:Int))) (fun hb9=>?_) (fun hb9=>?_)
     ·refine Z (.bool (((((((a.Volumes.length:Int) != (b.Volumes.length:Int))||((a.Sectors.length:Int) != (b.Sectors.length:Int)))||((a.Configs.length:Int) != (b.Configs.length:Int)))||((a.Segments.length:Int) != (b.Segments.length:Int)))||((a.Routes.length:Int) != (b.Routes.length:Int)))||((a.Airports.length:Int) != (b.Airports.length:Int)))) J Ae<|Bw 8 [(2,(.q ids 0 g)),(3,(.q ids 1 g1)),(84,(.bool ((((((((a.Volumes.length:Int) != (b.Volumes.length:Int))||((a.Sectors.length:Int) != (b.Sectors.length:Int)))||((a.Configs.length:Int) != (b.Configs.length:Int)))||((a.Segments.length:Int) != (b.Segments.length:Int)))||((a.Routes.length:Int) != (b.Routes.length:Int)))||((a.Airports.length:Int) != (b.Airports.length:Int)))||((a.Classes.length:Int) != (b.Classes.length:Int)))))] ?_ fun hJ5=>Bq (((((((a.Volumes.length:Int) != (b.Volumes.length:Int))||((a.Sectors.length:Int) != (b.Sectors.length:Int)))||((a.Configs.length:Int) != (b.Configs.length:Int)))||((a.Segments.length:Int) != (b.Segments.length:Int)))||((a.Routes.length:Int) != (b.Routes.length:Int)))||((a.Airports.length:Int) != (b.Airports.length:Int))) (fun hb11=>?_) (fun hb11=>?_)
      ·refine Z (.bool ((((((((a.Volumes.length:Int) != (b.Volumes.length:Int))||((a.Sectors.length:Int) != (b.Sectors.length:Int)))||((a.Configs.length:Int) != (b.Configs.length:Int)))||((a.Segments.length:Int) != (b.Segments.length:Int)))||((a.Routes.length:Int) != (b.Routes.length:Int)))||((a.Airports.length:Int) != (b.Airports.length:Int)))||((a.Classes.length:Int) != (b.Classes.length:Int)))) J Ae<|Bw 8 [(2,(.q ids 0 g)),(3,(.q ids 1 g1)),(93,(.bool (((((((((a.Volumes.length:Int) != (b.Volumes.length:Int))||((a.Sectors.length:Int) != (b.Sectors.length:Int)))||((a.Configs.length:Int) != (b.Configs.length:Int)))||((a.Segments.length:Int) != (b.Segments.length:Int)))||((a.Routes.length:Int) != (b.Routes.length:Int)))||((a.Airports.length:Int) != (b.Airports.length:Int)))||((a.Classes.length:Int) != (b.Classes.length:Int)))||((a.Rules.length:Int) != (b.Rules.length:Int)))))] ?_ fun hJ6=>Bq ((((((((a.Volumes.length:Int) != (b.Volumes.length:Int))||((a.Sectors.length:Int) != (b.Sectors.length:Int)))||((a.Configs.length:Int) != (b.Configs.length:Int)))||((a.Segments.length:Int) != (b.Segments.length:Int)))||((a.Routes.length:Int) != (b.Routes.length:Int)))||((a.Airports.length:Int) != (b.Airports.length:Int)))||((a.Classes.length:Int) != (b.Classes.length:Int))) (fun hb13=>?_) (fun hb13=>?_)
       ·refine Aa<|B6 J (fun hc=>?_) (fun hc=>?_)
        ·refine Y<|O<|Z (.bool false) J An<|Aa<|Bv (a:=false) (vs:=[(.bool false)]) Tryz.func12 hI J (.same _)
        refine A2<|Y<|Y<|O<|Z (.I 0) J An<|Aa<|Bf ?_
        refine Ea [(2,(.q ids 0 g)),(3,(.q ids 1 g1)),(5,(.I 0))] (FI J)<|Ep (P:=Tryz.prog) a.Volumes (fun j a1=>fun _=>Pa b j a1) ((Dp (fun _=>(each (fun j1 a3=>fun _=>Nh b j1 a3) 0 a.Sectors ()).bind (Dp (fun _=>(each (fun j2 a5=>fun _=>Ml b j2 a5) 0 a.Configs ()).bind (Dp (fun _=>(each (fun j3 a7=>fun _=>K0 b j3 a7) 0 a.Segments ()).bind (Dp (fun _=>(each (fun j4 a9=>fun _=>Jp b j4 a9) 0 a.Routes ()).bind (Dp (fun _=>(each (fun j5 a11=>fun _=>H4 b j5 a11) 0 a.Airports ()).bind (Dp (fun _=>(each (fun j7 a15=>fun _=>G3 b j7 a15) 0 a.Classes ()).bind (Dp (fun _=>(each (fun j8 a17=>fun _=>Gc b j8 a17) 0 a.Rules ()).bind (Dp (fun _=>.ok true) (fun r=>.ok r))) (fun r=>.ok r))) (fun r=>.ok r))) (fun r=>.ok r))) (fun r=>.ok r))) (fun r=>.ok r))) (fun r=>.ok r))) (fun r=>.ok r)):(Unit ⊕ Bool)→R Bool) (fun j=>fun _=>fun(fr:Nat→AV) (h:Ag)=>fr=A5 [(2,(.q ids 0 g)),(3,(.q ids 1 g1)),(5,(.I (j:Int)))]∧h=hp h0 ids [(some (.rows g 8 [(Aw a)])),(some (.rows g1 8 [(Aw b)])),none,none,none,none,none,none,none,none,none,none]) () ?_ ?_ ?_
        ·exact⟨J,J⟩
        ·rintro j a1 ha1 W hW _ fr h ⟨rfl,rfl⟩
         refine Al (m':=Pa b j a1) J (Al (Pa.eq_1 _ _ _) ?_)
         refine Y<|Y<|O<|Ab 3 [0] [(96,(.sl 2 (List.map As a.Volumes))),(94,(.I (j:Int)))] ?_
         refine Z (.I (a.Volumes.length:Int)) J (Ay (A8 Ew))<|Z (.bool (decide ((j:Int)<(a.Volumes.length:Int)))) J (Bh J J J)<|Aa<|Eb (t:=96) (L:=a.Volumes) J fun hlim1=>C7 J (Int.ofNat_lt.2 (Bc ha1))<|A2<|Y ?_
         refine Bf<|Y<|D6 (fun x1=>Pf x1) (fun x1=>fun(fr:Nat→AV) (h:Ag)=>fr=A5 [(2,(.q ids 0 g)),(3,(.q ids 1 g1)),(5,(.I (j:Int))),(129,(.bool x1))]∧h=hp h0 ids [(some (.rows g 8 [(Aw a)])),(some (.rows g1 8 [(Aw b)])),none,none,none,none,none,none,none,none,none,none]) ?_ fun hJ7=>?_
         ·rintro x1 fr h ⟨rfl,rfl⟩
          refine Al (Pf.eq_1 _)<|B6 J (fun hc1=>?_) (fun hc1=>?_)
          ·refine Y<|O<|Z (.bool false) J An<|Aa<|Fc<|F5<|Bv (a:=false) (vs:=[(.bool false)]) Tryz.func12 hI J (.same _)
          refine A2<|Bs<|O<|Ab 3 [] [(5,(.I (IntKind.wrap .i64 ((j:Int)+1))))] ?_
          refine Aa<|Br (Fe (hW () _ _ ⟨J,J⟩)) (.cons J (.cons J (.cons (D8 (Bc ha1) hlim1) .nil)))
         refine Cm Et [[],[0],[],[0,1,2],[0,1,2,3],[0,1,2,3,4],[],[6],[],[6,7,8],[6,7,8,9],[6,7,8,9,10],[0,1,2,3,4,5,6,7,8,9,10,11],[0,1,2,3,4,5,6,7,8,9,10,11,12],[0,1,2,3,4,5,6,7,8,9,10,11,12,13],[0,1,2,3,4,5,6,7,8,9,10,11,12,13,14],[0,1,2,3,4,5,6,7,8,9,10,11,12,13],[0,1,2,3,4,5,6,7,8,9,10,11,12,13,14,15,16],[0,1,2,3,4,5,6,7,8,9,10,11,12,13,14,15,16,17],[0,1,2,3,4,5,6,7,8,9,10,11,12,13,14,15,16,17,18],[0,1,2,3,4,5,6,7,8,9,10,11,12,13],[0,1,2,3,4,5,6,7,8,9,10,11,12,13,20],[0,1,2,3,4,5,6,7,8,9,10,11,12,13],[0,1,2,3,4,5,6,7,8,9,10,11,12,13,20,21,22],[0,1,2,3,4,5,6,7,8,9,10,11,12,13,20,21,22,23],[0,1,2,3,4,5,6,7,8,9,10,11,12,13,20,21,22,23,24],[0,1,2,3,4,5,6,7,8,9,10,11,12,13,14,15,16,17,18,19,20,21,22,23,24,25],[0,1,2,3,4,5,6,7,8,9,10,11,12,13,14,15,16,17,18,19,20,21,22,23,24,25,26],[0,1,2,3,4,5,6,7,8,9,10,11,12,13,14,15,16,17,18,19,20,21,22,23,24,25,26,27]] [(false,0),(false,1),(false,2),(false,3),(false,4),(false,5),(false,6),(false,7),(false,8),(false,9),(false,10),(false,11),(false,12),(false,13),(false,14),(false,15),(false,16),(false,17),(false,18),(false,19),(false,20),(false,21),(false,22),(false,23),(false,24),(false,25),(true,26),(false,27),(false,28)] (by kernel_rfl)<|Af (.q ids 0 g) J J (Bp (Bi (c:=0) (off:=0) (i:=0) Ce J Ew J))<|Af (.sl 2 (List.map As a.Volumes)) J J (Aq (Az hI J J J Ew J))<|Af (.I (j:Int)) J J Ae<|Af (.cp (As a1) 0) J J (By (Do Ew If J ha1))<|Af (.cp (As a1) 0) J J (Bp (Yc (c:=0) (off:=0) (i:=0) If J Co J))<|Af (.str a1.Name) J J (Aq (Cl Co J)) ?_
         refine Af (.q ids 1 g1) J J (Bp (Bi (c:=0) (off:=0) (i:=0) Ce J Ew J))<|Af (.sl 2 (List.map As b.Volumes)) J J (Aq (Az hI J J J Ew J))<|Af (.I (j:Int)) J J Ae<|Oj fun a2 hz hx1=>Af (.cp (As a2) 0) J J (By (Dl Ew If J hz hx1))<|Af (.cp (As a2) 0) J J (Bp (Yc (c:=0) (off:=0) (i:=0) If J Co J))<|Af (.str a2.Name) J J (Aq (Cl Co J)) ?_
         refine Af (.bool (!(a1.Name==a2.Name))) J J (Bh J J J)<|Af (.bool (!(a1.Name==a2.Name))) J J Ae<|L9 (fun hb14=>?_) (fun hb14=>?_)
         ·refine Jz (tj:=114) (b:=true) J J (congrArg AV.bool hb14) J J<|Jz (tj:=114) (b:=true) J J (congrArg AV.bool hb14) J J<|Jz (tj:=114) (b:=true) J J (congrArg AV.bool hb14) J J<|Jz (tj:=114) (b:=true) J J (congrArg AV.bool hb14) J J<|Jz (tj:=114) (b:=true) J J (congrArg AV.bool hb14) J J<|Jz (tj:=114) (b:=true) J J (congrArg AV.bool hb14) J J<|Jz (tj:=114) (b:=true) J J (congrArg AV.bool hb14) J J ?_
          refine Jz (tj:=114) (b:=true) J J (congrArg AV.bool hb14) J J<|Jz (tj:=114) (b:=true) J J (congrArg AV.bool hb14) J J<|Jz (tj:=114) (b:=true) J J (congrArg AV.bool hb14) J J<|Jz (tj:=114) (b:=true) J J (congrArg AV.bool hb14) J J<|Jz (tj:=114) (b:=true) J J (congrArg AV.bool hb14) J J<|Amk (tj:=114) (b:=true) J J (congrArg AV.bool hb14) J J<|Jz (tj:=114) (b:=true) J J (congrArg AV.bool hb14) J J ?_
          refine Af (.bool true) J J (Fj (t:=true) (congrArg AV.bool hb14) J)<|Cf<|Br (hJ7 true _ _ ⟨J,J⟩)
         refine Hs (tj:=114) (.q ids 0 g) J J (congrArg AV.bool hb14) J (Bp (Bi (c:=0) (off:=0) (i:=0) Ce J Ew J))<|Hs (tj:=114) (.sl 2 (List.map As a.Volumes)) J J (congrArg AV.bool hb14) J (Aq (Az hI J J J Ew J))<|Hs (tj:=114) (.I (j:Int)) J J (congrArg AV.bool hb14) J Ae<|Hs (tj:=114) (.cp (As a1) 0) J J (congrArg AV.bool hb14) J (By (Do Ew If J ha1))<|Hs (tj:=114) (.cp (As a1) 1) J J (congrArg AV.bool hb14) J (Bp (Yc (c:=0) (off:=1) (i:=1) If J L3 J))<|Hs (tj:=114) (.sl 2 (List.map B5 a1.Closed)) J J (congrArg AV.bool hb14) J (Aq (Cl L3 J))<|Hs (tj:=114) (.q ids 1 g1) J J (congrArg AV.bool hb14) J (Bp (Bi (c:=0) (off:=0) (i:=0) Ce J Ew J)) ?_
         refine Hs (tj:=114) (.sl 2 (List.map As b.Volumes)) J J (congrArg AV.bool hb14) J (Aq (Az hI J J J Ew J))<|Hs (tj:=114) (.I (j:Int)) J J (congrArg AV.bool hb14) J Ae<|Hs (tj:=114) (.cp (As a2) 0) J J (congrArg AV.bool hb14) J (By (Dl Ew If J hz hx1))<|Hs (tj:=114) (.cp (As a2) 1) J J (congrArg AV.bool hb14) J (Bp (Yc (c:=0) (off:=1) (i:=1) If J L3 J))<|Hs (tj:=114) (.sl 2 (List.map B5 a2.Closed)) J J (congrArg AV.bool hb14) J (Aq (Cl L3 J))<|Zj [(.sl 2 (List.map B5 a1.Closed)),(.sl 2 (List.map B5 a2.Closed))] J (Cj (tj:=114) J (congrArg AV.bool hb14)) J J J ((S0 a1.Closed a2.Closed) _) (fun v _ _ _=>Cc Tryz.func12 hI) (Ad J (Ad J (Ad J (Ad J (Ad J (Ad J (Ad J (Ad J (Ad J (Ad J (Ad J (Ad J (Ad J (Ad J (Ad J (Ad J (Ad J (Ad J (Ad J (Ad J (Ad J (Ad J (Ad J (Ad J (Ad J (Ad J Be)))))))))))))))))))))))))) fun r _=>Hs (tj:=114) (.bool (!r)) J J (congrArg AV.bool hb14) J (Pn J) ?_
         refine Af (.bool (!r)) J J (Fj (t:=false) (congrArg AV.bool hb14) J)<|Cf<|Br (hJ7 (!r) _ _ ⟨J,J⟩)
        rintro _ fr h ⟨rfl,rfl⟩
        refine Al (Fk _ _ _)<|Y<|Y<|O<|Ab 3 [0] [(96,(.sl 2 (List.map As a.Volumes))),(94,(.I (a.Volumes.length:Int)))] ?_
        refine Z (.I (a.Volumes.length:Int)) J (Ay (A8 Ew))<|Z (.bool (decide ((a.Volumes.length:Int)<(a.Volumes.length:Int)))) J (Bh J J J)<|Aa<|C6 J (Int.lt_irrefl _)<|Db J<|Y<|Y ?_
        refine O<|Z (.I 0) J An<|Aa<|Bf<|Ea [(2,(.q ids 0 g)),(3,(.q ids 1 g1)),(6,(.I 0))] (FI J)<|Ep (P:=Tryz.prog) a.Sectors (fun j1 a3=>fun _=>Nh b j1 a3) ((Dp (fun _=>(each (fun j2 a5=>fun _=>Ml b j2 a5) 0 a.Configs ()).bind (Dp (fun _=>(each (fun j3 a7=>fun _=>K0 b j3 a7) 0 a.Segments ()).bind (Dp (fun _=>(each (fun j4 a9=>fun _=>Jp b j4 a9) 0 a.Routes ()).bind (Dp (fun _=>(each (fun j5 a11=>fun _=>H4 b j5 a11) 0 a.Airports ()).bind (Dp (fun _=>(each (fun j7 a15=>fun _=>G3 b j7 a15) 0 a.Classes ()).bind (Dp (fun _=>(each (fun j8 a17=>fun _=>Gc b j8 a17) 0 a.Rules ()).bind (Dp (fun _=>.ok true) (fun r=>.ok r))) (fun r=>.ok r))) (fun r=>.ok r))) (fun r=>.ok r))) (fun r=>.ok r))) (fun r=>.ok r))) (fun r=>.ok r)):(Unit ⊕ Bool)→R Bool) (fun j1=>fun _=>fun(fr:Nat→AV) (h:Ag)=>fr=A5 [(2,(.q ids 0 g)),(3,(.q ids 1 g1)),(6,(.I (j1:Int)))]∧h=hp h0 ids [(some (.rows g 8 [(Aw a)])),(some (.rows g1 8 [(Aw b)])),none,none,none,none,none,none,none,none,none,none]) () ?_ ?_ ?_
        ·exact⟨J,J⟩
        ·rintro j1 a3 ha3 W hW1 _ fr h ⟨rfl,rfl⟩
         refine Al (m':=Nh b j1 a3) J (Al (Nh.eq_1 _ _ _) ?_)
         refine Y<|Y<|O<|Ab 3 [0] [(132,(.sl 5 (List.map A6 a.Sectors))),(130,(.I (j1:Int)))] ?_
         refine Z (.I (a.Sectors.length:Int)) J (Ay (A8 Fr))<|Z (.bool (decide ((j1:Int)<(a.Sectors.length:Int)))) J (Bh J J J)<|Aa<|Eb (t:=132) (L:=a.Sectors) J fun hlim3=>C7 J (Int.ofNat_lt.2 (Bc ha3))<|A2<|Y ?_
         refine Bf<|Y<|O<|Ab 3 [0] [(139,(.I (j1:Int))),(138,(.sl 5 (List.map A6 a.Sectors)))] ?_
         refine Z (.cp (A6 a3) 0) J (By (Do Fr Gq J ha3))<|Z (.agg (A6 a3)) J (Aq (Cl Gq J))<|Bg (j:=2) hI J J J J Gq J fun g2=>Ar (Ax (v:=(.agg (A6 a3))) hI J J J J Gq J J J J J)<|Aa<|Aj ?_
         refine Y<|O<|Ab 3 [1] [(144,(.I (j1:Int))),(143,(.sl 5 (List.map A6 b.Sectors)))] ?_
         refine Ek fun a4 hz1 hx2=>Z (.cp (A6 a4) 0) J (By (Dl Fr Gq J hz1 hx2))<|Z (.agg (A6 a4)) J (Aq (Cl Gq J))<|Bg (j:=3) hI J J J J Gq J fun g3=>Ar (Ax (v:=(.agg (A6 a4))) hI J J J J Gq J J J J J)<|Aa<|Aj ?_
         refine Y<|O<|Ab 6 [2,3] [(152,(.bool (!(a3.Name==a4.Name))))] ?_
         refine C8 7 ((fun(b1:Bool)=>(if b1 then R.ok true else(Hb a3.Volumes a4.Volumes).bind fun r2=>R.ok (!r2)).bind (fun(b2:Bool)=>if((b2||(a3.Radar != a4.Radar))||(a3.Procedural != a4.Procedural)) then(.ok (.inr (false))) else(.ok (.inl ())))):Bool→R (Unit ⊕ Bool)) (fun(b1:Bool) (fr:Nat→AV) (h:Ag)=>fr=A5 [(2,(.q ids 0 g)),(3,(.q ids 1 g1)),(6,(.I (j1:Int))),(7,(.q ids 2 g2)),(8,(.q ids 3 g3)),(159,(.bool b1))]∧h=hp h0 ids [(some (.rows g 8 [(Aw a)])),(some (.rows g1 8 [(Aw b)])),(some (.rows g2 5 [(A6 a3)])),(some (.rows g3 5 [(A6 a4)])),none,none,none,none,none,none,none,none]) ?_ fun hJ8=>Dy (fun hb16=>?_) (fun hb16=>?_)
         ·rintro b1 fr h ⟨rfl,rfl⟩
          refine Z (.bool b1) J Ae<|C8 7 ((fun(b2:Bool)=>if((b2||(a3.Radar != a4.Radar))||(a3.Procedural != a4.Procedural)) then(.ok (.inr (false))) else(.ok (.inl ()))):Bool→R (Unit ⊕ Bool)) (fun(b2:Bool) (fr:Nat→AV) (h:Ag)=>fr=A5 [(2,(.q ids 0 g)),(3,(.q ids 1 g1)),(6,(.I (j1:Int))),(7,(.q ids 2 g2)),(8,(.q ids 3 g3)),(167,(.bool b2))]∧h=hp h0 ids [(some (.rows g 8 [(Aw a)])),(some (.rows g1 8 [(Aw b)])),(some (.rows g2 5 [(A6 a3)])),(some (.rows g3 5 [(A6 a4)])),none,none,none,none,none,none,none,none]) ?_ fun hJ9=>Dy (fun hb18=>?_) (fun hb18=>?_)
          ·rintro b2 fr h ⟨rfl,rfl⟩
           refine Z (.bool b2) J Ae<|Bw 6 [(2,(.q ids 0 g)),(3,(.q ids 1 g1)),(6,(.I (j1:Int))),(7,(.q ids 2 g2)),(8,(.q ids 3 g3)),(174,(.bool (b2||(a3.Radar != a4.Radar))))] ?_ fun hJ10=>Bq b2 (fun hb20=>?_) (fun hb20=>?_)
           ·refine Z (.bool (b2||(a3.Radar != a4.Radar))) J Ae<|Bw 6 [(2,(.q ids 0 g)),(3,(.q ids 1 g1)),(6,(.I (j1:Int))),(181,(.bool ((b2||(a3.Radar != a4.Radar))||(a3.Procedural != a4.Procedural))))] ?_ fun hJ11=>Bq (b2||(a3.Radar != a4.Radar)) (fun hb22=>?_) (fun hb22=>?_)
            ·refine Aa<|B6 J (fun hc2=>?_) (fun hc2=>?_)
             ·refine Y<|O<|Z (.bool false) J An<|Aa<|Fc<|F5<|Bv (a:=false) (vs:=[(.bool false)]) Tryz.func12 hI J (.same _)
             refine A2<|Bs<|O<|Ab 3 [] [(6,(.I (IntKind.wrap .i64 ((j1:Int)+1))))] ?_
             refine Aa<|Eo [(some (.rows g 8 [(Aw a)])),(some (.rows g1 8 [(Aw b)])),none,none,none,none,none,none,none,none,none,none] hI J (.keep (.keep (.drop (.drop (.keep (.keep (.keep (.keep (.keep (.keep (.keep (.keep .nil))))))))))))<|Br (Fe (hW1 () _ _ ⟨J,J⟩)) (.cons J (.cons J (.cons (D8 (Bc ha3) hlim3) .nil)))
            ·refine A0 (t:=175) hb22 J<|Ab 6 [] [(181,(.bool true)),(180,.und),(179,.und),(178,.und),(177,.und),(176,.und)] ?_
             exact Ba hJ11 (.cons J (.cons J (.cons J (.cons (Fb hb22) .nil))))
            refine A0 (t:=175) hb22 J<|Ab 6 [2,3] [(181,(.bool (a3.Procedural != a4.Procedural))),(180,(.bool (a3.Procedural != a4.Procedural))),(179,(.I a4.Procedural)),(178,(.ptr (ix ids 3) g3 0 4)),(177,(.I a3.Procedural)),(176,(.ptr (ix ids 2) g2 0 4))] ?_
            exact Ba hJ11 (.cons J (.cons J (.cons J (.cons (Fa hb22) .nil))))
           ·refine A0 (t:=168) hb20 J<|Ab 6 [] [(174,(.bool true)),(173,.und),(172,.und),(171,.und),(170,.und),(169,.und)] ?_
            exact Ba hJ10 (.cons J (.cons J (.cons J (.cons J (.cons J (.cons (Fb hb20) .nil))))))
           refine A0 (t:=168) hb20 J<|Ab 6 [2,3] [(174,(.bool (a3.Radar != a4.Radar))),(173,(.bool (a3.Radar != a4.Radar))),(172,(.I a4.Radar)),(171,(.ptr (ix ids 3) g3 0 3)),(170,(.I a3.Radar)),(169,(.ptr (ix ids 2) g2 0 3))] ?_
           exact Ba hJ10 (.cons J (.cons J (.cons J (.cons J (.cons J (.cons (Fa hb20) .nil))))))
          ·refine A0 (t:=160) hb18 J<|Ab 7 [] [(167,(.bool true)),(166,.und),(165,.und),(164,.und),(163,.und),(162,.und),(161,.und)] ?_
           refine Bn<|Ca [(2,(.q ids 0 g)),(3,(.q ids 1 g1)),(6,(.I (j1:Int))),(7,(.q ids 2 g2)),(8,(.q ids 3 g3)),(167,(.bool true))] (FI J)<|hJ9 true _ _ ⟨J,J⟩
          refine A0 (t:=160) hb18 J<|Ab 4 [2,3] [(164,(.sl 1 (List.map (rI .i64) a4.Volumes))),(163,(.ptr (ix ids 3) g3 0 2)),(162,(.sl 1 (List.map (rI .i64) a3.Volumes))),(161,(.ptr (ix ids 2) g2 0 2))] ?_
          refine B0 [(.sl 1 (List.map (rI .i64) a3.Volumes)),(.sl 1 (List.map (rI .i64) a4.Volumes))] J (Cj (tj:=160) J J) J J ((Qi a3.Volumes a4.Volumes) _) (fun v _=>Cc Tryz.func12 hI) fun r2 _=>Ab 2 [] [(167,(.bool (!r2))),(166,(.bool (!r2)))] ?_
          refine Bn<|Ca [(2,(.q ids 0 g)),(3,(.q ids 1 g1)),(6,(.I (j1:Int))),(7,(.q ids 2 g2)),(8,(.q ids 3 g3)),(167,(.bool (!r2)))] (FI J)<|hJ9 (!r2) _ _ ⟨J,J⟩
         ·refine A0 (t:=152) hb16 J<|Ab 7 [] [(159,(.bool true)),(158,.und),(157,.und),(156,.und),(155,.und),(154,.und),(153,.und)] ?_
          refine Bn<|Ca [(2,(.q ids 0 g)),(3,(.q ids 1 g1)),(6,(.I (j1:Int))),(7,(.q ids 2 g2)),(8,(.q ids 3 g3)),(159,(.bool true))] (FI J)<|hJ8 true _ _ ⟨J,J⟩
         refine A0 (t:=152) hb16 J<|Ab 4 [2,3] [(156,(.sl 1 (List.map rS a4.Names))),(155,(.ptr (ix ids 3) g3 0 1)),(154,(.sl 1 (List.map rS a3.Names))),(153,(.ptr (ix ids 2) g2 0 1))] ?_
         refine B0 [(.sl 1 (List.map rS a3.Names)),(.sl 1 (List.map rS a4.Names))] J (Cj (tj:=152) J J) J J ((Pz a3.Names a4.Names) _) (fun v _=>Cc Tryz.func12 hI) fun r1 _=>Ab 2 [] [(159,(.bool (!r1))),(158,(.bool (!r1)))] ?_
         refine Bn<|Ca [(2,(.q ids 0 g)),(3,(.q ids 1 g1)),(6,(.I (j1:Int))),(7,(.q ids 2 g2)),(8,(.q ids 3 g3)),(159,(.bool (!r1)))] (FI J)<|hJ8 (!r1) _ _ ⟨J,J⟩
        rintro _ fr h ⟨rfl,rfl⟩
        refine Al (Fk _ _ _)<|Y<|Y<|O<|Ab 3 [0] [(132,(.sl 5 (List.map A6 a.Sectors))),(130,(.I (a.Sectors.length:Int)))] ?_
        refine Z (.I (a.Sectors.length:Int)) J (Ay (A8 Fr))<|Z (.bool (decide ((a.Sectors.length:Int)<(a.Sectors.length:Int)))) J (Bh J J J)<|Aa<|C6 J (Int.lt_irrefl _)<|Db J<|Y<|Y ?_
        refine O<|Z (.I 0) J An<|Aa<|Bf<|Ea [(2,(.q ids 0 g)),(3,(.q ids 1 g1)),(9,(.I 0))] (FI J)<|Ep (P:=Tryz.prog) a.Configs (fun j2 a5=>fun _=>Ml b j2 a5) ((Dp (fun _=>(each (fun j3 a7=>fun _=>K0 b j3 a7) 0 a.Segments ()).bind (Dp (fun _=>(each (fun j4 a9=>fun _=>Jp b j4 a9) 0 a.Routes ()).bind (Dp (fun _=>(each (fun j5 a11=>fun _=>H4 b j5 a11) 0 a.Airports ()).bind (Dp (fun _=>(each (fun j7 a15=>fun _=>G3 b j7 a15) 0 a.Classes ()).bind (Dp (fun _=>(each (fun j8 a17=>fun _=>Gc b j8 a17) 0 a.Rules ()).bind (Dp (fun _=>.ok true) (fun r=>.ok r))) (fun r=>.ok r))) (fun r=>.ok r))) (fun r=>.ok r))) (fun r=>.ok r))) (fun r=>.ok r)):(Unit ⊕ Bool)→R Bool) (fun j2=>fun _=>fun(fr:Nat→AV) (h:Ag)=>fr=A5 [(2,(.q ids 0 g)),(3,(.q ids 1 g1)),(9,(.I (j2:Int)))]∧h=hp h0 ids [(some (.rows g 8 [(Aw a)])),(some (.rows g1 8 [(Aw b)])),none,none,none,none,none,none,none,none,none,none]) () ?_ ?_ ?_
        ·exact⟨J,J⟩
        ·rintro j2 a5 ha5 W hW2 _ fr h ⟨rfl,rfl⟩
         refine Al (m':=Ml b j2 a5) J (Al (Ml.eq_1 _ _ _) ?_)
         refine Y<|Y<|O<|Ab 3 [0] [(184,(.sl 3 (List.map Bk a.Configs))),(182,(.I (j2:Int)))] ?_
         refine Z (.I (a.Configs.length:Int)) J (Ay (A8 Gl))<|Z (.bool (decide ((j2:Int)<(a.Configs.length:Int)))) J (Bh J J J)<|Aa<|Eb (t:=184) (L:=a.Configs) J fun hlim5=>C7 J (Int.ofNat_lt.2 (Bc ha5))<|A2<|Y ?_
         refine Bf<|Y<|O<|Ab 3 [0] [(191,(.I (j2:Int))),(190,(.sl 3 (List.map Bk a.Configs)))] ?_
         refine Z (.cp (Bk a5) 0) J (By (Do Gl Jg J ha5))<|Z (.agg (Bk a5)) J (Aq (Cl Jg J))<|Bg (j:=4) hI J J J J Jg J fun g4=>Ar (Ax (v:=(.agg (Bk a5))) hI J J J J Jg J J J J J)<|Aa<|Aj ?_
         refine Y<|O<|Ab 3 [1] [(196,(.I (j2:Int))),(195,(.sl 3 (List.map Bk b.Configs)))] ?_
         refine Ek fun a6 hz2 hx3=>Z (.cp (Bk a6) 0) J (By (Dl Gl Jg J hz2 hx3))<|Z (.agg (Bk a6)) J (Aq (Cl Jg J))<|Bg (j:=5) hI J J J J Jg J fun g5=>Ar (Ax (v:=(.agg (Bk a6))) hI J J J J Jg J J J J J)<|Aa<|Aj ?_
         refine Y<|O<|Ab 6 [4,5] [(204,(.bool (!(a5.Name==a6.Name))))] ?_
         refine C8 7 ((fun(b3:Bool)=>(if b3 then R.ok true else(Hb a5.Sectors a6.Sectors).bind fun r4=>R.ok (!r4)).bind (fun(b4:Bool)=>if b4 then(.ok (.inr (false))) else(.ok (.inl ())))):Bool→R (Unit ⊕ Bool)) (fun(b3:Bool) (fr:Nat→AV) (h:Ag)=>fr=A5 [(2,(.q ids 0 g)),(3,(.q ids 1 g1)),(9,(.I (j2:Int))),(10,(.q ids 4 g4)),(11,(.q ids 5 g5)),(211,(.bool b3))]∧h=hp h0 ids [(some (.rows g 8 [(Aw a)])),(some (.rows g1 8 [(Aw b)])),none,none,(some (.rows g4 3 [(Bk a5)])),(some (.rows g5 3 [(Bk a6)])),none,none,none,none,none,none]) ?_ fun hJ12=>Dy (fun hb24=>?_) (fun hb24=>?_)
         ·rintro b3 fr h ⟨rfl,rfl⟩
          refine Z (.bool b3) J Ae<|C8 7 ((fun(b4:Bool)=>if b4 then(.ok (.inr (false))) else(.ok (.inl ()))):Bool→R (Unit ⊕ Bool)) (fun(b4:Bool) (fr:Nat→AV) (h:Ag)=>fr=A5 [(2,(.q ids 0 g)),(3,(.q ids 1 g1)),(9,(.I (j2:Int))),(219,(.bool b4))]∧h=hp h0 ids [(some (.rows g 8 [(Aw a)])),(some (.rows g1 8 [(Aw b)])),none,none,(some (.rows g4 3 [(Bk a5)])),(some (.rows g5 3 [(Bk a6)])),none,none,none,none,none,none]) ?_ fun hJ13=>Dy (fun hb26=>?_) (fun hb26=>?_)
          ·rintro b4 fr h ⟨rfl,rfl⟩
           refine Aa<|B6 J (fun hc3=>?_) (fun hc3=>?_)
           ·refine Y<|O<|Z (.bool false) J An<|Aa<|Fc<|F5<|Bv (a:=false) (vs:=[(.bool false)]) Tryz.func12 hI J (.same _)
           refine A2<|Bs<|O<|Ab 3 [] [(9,(.I (IntKind.wrap .i64 ((j2:Int)+1))))] ?_
           refine Aa<|Eo [(some (.rows g 8 [(Aw a)])),(some (.rows g1 8 [(Aw b)])),none,none,none,none,none,none,none,none,none,none] hI J (.keep (.keep (.keep (.keep (.drop (.drop (.keep (.keep (.keep (.keep (.keep (.keep .nil))))))))))))<|Br (Fe (hW2 () _ _ ⟨J,J⟩)) (.cons J (.cons J (.cons (D8 (Bc ha5) hlim5) .nil)))
          ·refine A0 (t:=212) hb26 J<|Ab 7 [] [(219,(.bool true)),(218,.und),(217,.und),(216,.und),(215,.und),(214,.und),(213,.und)] ?_
           refine Bn<|Ca [(2,(.q ids 0 g)),(3,(.q ids 1 g1)),(9,(.I (j2:Int))),(219,(.bool true))] (FI J)<|hJ13 true _ _ ⟨J,J⟩
          refine A0 (t:=212) hb26 J<|Ab 4 [4,5] [(216,(.sl 1 (List.map (rI .i64) a6.Sectors))),(215,(.ptr (ix ids 5) g5 0 2)),(214,(.sl 1 (List.map (rI .i64) a5.Sectors))),(213,(.ptr (ix ids 4) g4 0 2))] ?_
          refine B0 [(.sl 1 (List.map (rI .i64) a5.Sectors)),(.sl 1 (List.map (rI .i64) a6.Sectors))] J (Cj (tj:=212) J J) J J ((Qi a5.Sectors a6.Sectors) _) (fun v _=>Cc Tryz.func12 hI) fun r4 _=>Ab 2 [] [(219,(.bool (!r4))),(218,(.bool (!r4)))] ?_
          refine Bn<|Ca [(2,(.q ids 0 g)),(3,(.q ids 1 g1)),(9,(.I (j2:Int))),(219,(.bool (!r4)))] (FI J)<|hJ13 (!r4) _ _ ⟨J,J⟩
         ·refine A0 (t:=204) hb24 J<|Ab 7 [] [(211,(.bool true)),(210,.und),(209,.und),(208,.und),(207,.und),(206,.und),(205,.und)] ?_
          refine Bn<|Ca [(2,(.q ids 0 g)),(3,(.q ids 1 g1)),(9,(.I (j2:Int))),(10,(.q ids 4 g4)),(11,(.q ids 5 g5)),(211,(.bool true))] (FI J)<|hJ12 true _ _ ⟨J,J⟩
         refine A0 (t:=204) hb24 J<|Ab 4 [4,5] [(208,(.sl 1 (List.map rS a6.Names))),(207,(.ptr (ix ids 5) g5 0 1)),(206,(.sl 1 (List.map rS a5.Names))),(205,(.ptr (ix ids 4) g4 0 1))] ?_
         refine B0 [(.sl 1 (List.map rS a5.Names)),(.sl 1 (List.map rS a6.Names))] J (Cj (tj:=204) J J) J J ((Pz a5.Names a6.Names) _) (fun v _=>Cc Tryz.func12 hI) fun r3 _=>Ab 2 [] [(211,(.bool (!r3))),(210,(.bool (!r3)))] ?_
         refine Bn<|Ca [(2,(.q ids 0 g)),(3,(.q ids 1 g1)),(9,(.I (j2:Int))),(10,(.q ids 4 g4)),(11,(.q ids 5 g5)),(211,(.bool (!r3)))] (FI J)<|hJ12 (!r3) _ _ ⟨J,J⟩
        rintro _ fr h ⟨rfl,rfl⟩
        refine Al (Fk _ _ _)<|Y<|Y<|O<|Ab 3 [0] [(184,(.sl 3 (List.map Bk a.Configs))),(182,(.I (a.Configs.length:Int)))] ?_
        refine Z (.I (a.Configs.length:Int)) J (Ay (A8 Gl))<|Z (.bool (decide ((a.Configs.length:Int)<(a.Configs.length:Int)))) J (Bh J J J)<|Aa<|C6 J (Int.lt_irrefl _)<|Db J<|Y<|Y ?_
        refine O<|Z (.I 0) J An<|Aa<|Bf<|Ea [(2,(.q ids 0 g)),(3,(.q ids 1 g1)),(12,(.I 0))] (FI J)<|Ep (P:=Tryz.prog) a.Segments (fun j3 a7=>fun _=>K0 b j3 a7) ((Dp (fun _=>(each (fun j4 a9=>fun _=>Jp b j4 a9) 0 a.Routes ()).bind (Dp (fun _=>(each (fun j5 a11=>fun _=>H4 b j5 a11) 0 a.Airports ()).bind (Dp (fun _=>(each (fun j7 a15=>fun _=>G3 b j7 a15) 0 a.Classes ()).bind (Dp (fun _=>(each (fun j8 a17=>fun _=>Gc b j8 a17) 0 a.Rules ()).bind (Dp (fun _=>.ok true) (fun r=>.ok r))) (fun r=>.ok r))) (fun r=>.ok r))) (fun r=>.ok r))) (fun r=>.ok r)):(Unit ⊕ Bool)→R Bool) (fun j3=>fun _=>fun(fr:Nat→AV) (h:Ag)=>fr=A5 [(2,(.q ids 0 g)),(3,(.q ids 1 g1)),(12,(.I (j3:Int)))]∧h=hp h0 ids [(some (.rows g 8 [(Aw a)])),(some (.rows g1 8 [(Aw b)])),none,none,none,none,none,none,none,none,none,none]) () ?_ ?_ ?_
        ·exact⟨J,J⟩
        ·rintro j3 a7 ha7 W hW3 _ fr h ⟨rfl,rfl⟩
         refine Al (m':=K0 b j3 a7) J (Al (K0.eq_1 _ _ _) ?_)
         refine Y<|Y<|O<|Ab 3 [0] [(222,(.sl 5 (List.map Bd a.Segments))),(220,(.I (j3:Int)))] ?_
         refine Z (.I (a.Segments.length:Int)) J (Ay (A8 Gk))<|Z (.bool (decide ((j3:Int)<(a.Segments.length:Int)))) J (Bh J J J)<|Aa<|Eb (t:=222) (L:=a.Segments) J fun hlim7=>C7 J (Int.ofNat_lt.2 (Bc ha7))<|A2<|Y ?_
         refine Bf<|Y<|O<|Ab 3 [0] [(229,(.I (j3:Int))),(228,(.sl 5 (List.map Bd a.Segments)))] ?_
         refine Z (.cp (Bd a7) 0) J (By (Do Gk Hq J ha7))<|Z (.agg (Bd a7)) J (Aq (Cl Hq J))<|Bg (j:=6) hI J J J J Hq J fun g6=>Ar (Ax (v:=(.agg (Bd a7))) hI J J J J Hq J J J J J)<|Aa<|Aj ?_
         refine Y<|O<|Ab 3 [1] [(234,(.I (j3:Int))),(233,(.sl 5 (List.map Bd b.Segments)))] ?_
         refine Ek fun a8 hz3 hx4=>Z (.cp (Bd a8) 0) J (By (Dl Gk Hq J hz3 hx4))<|Z (.agg (Bd a8)) J (Aq (Cl Hq J))<|Bg (j:=7) hI J J J J Hq J fun g7=>Ar (Ax (v:=(.agg (Bd a8))) hI J J J J Hq J J J J J)<|Aa<|Aj ?_
         refine Y<|O<|Ab 6 [6,7] [(242,(.bool (!(a7.Name==a8.Name))))] ?_
         refine Bw 6 [(2,(.q ids 0 g)),(3,(.q ids 1 g1)),(12,(.I (j3:Int))),(13,(.q ids 6 g6)),(14,(.q ids 7 g7)),(248,(.bool ((!(a7.Name==a8.Name))||(!(a7.In==a8.In)))))] ?_ fun hJ14=>Bq (!(a7.Name==a8.Name)) (fun hb28=>?_) (fun hb28=>?_)
         ·refine Z (.bool ((!(a7.Name==a8.Name))||(!(a7.In==a8.In)))) J Ae<|Bw 6 [(2,(.q ids 0 g)),(3,(.q ids 1 g1)),(12,(.I (j3:Int))),(13,(.q ids 6 g6)),(14,(.q ids 7 g7)),(255,(.bool (((!(a7.Name==a8.Name))||(!(a7.In==a8.In)))||(a7.Volume != a8.Volume))))] ?_ fun hJ15=>Bq ((!(a7.Name==a8.Name))||(!(a7.In==a8.In))) (fun hb30=>?_) (fun hb30=>?_)
          ·refine Z (.bool (((!(a7.Name==a8.Name))||(!(a7.In==a8.In)))||(a7.Volume != a8.Volume))) J Ae<|Bw 6 [(2,(.q ids 0 g)),(3,(.q ids 1 g1)),(12,(.I (j3:Int))),(13,(.q ids 6 g6)),(14,(.q ids 7 g7)),(262,(.bool ((((!(a7.Name==a8.Name))||(!(a7.In==a8.In)))||(a7.Volume != a8.Volume))||(a7.Length != a8.Length))))] ?_ fun hJ16=>Bq (((!(a7.Name==a8.Name))||(!(a7.In==a8.In)))||(a7.Volume != a8.Volume)) (fun hb32=>?_) (fun hb32=>?_)
           ·refine Z (.bool ((((!(a7.Name==a8.Name))||(!(a7.In==a8.In)))||(a7.Volume != a8.Volume))||(a7.Length != a8.Length))) J Ae<|C8 7 ((fun(b5:Bool)=>if b5 then(.ok (.inr (false))) else(.ok (.inl ()))):Bool→R (Unit ⊕ Bool)) (fun(b5:Bool) (fr:Nat→AV) (h:Ag)=>fr=A5 [(2,(.q ids 0 g)),(3,(.q ids 1 g1)),(12,(.I (j3:Int))),(270,(.bool b5))]∧h=hp h0 ids [(some (.rows g 8 [(Aw a)])),(some (.rows g1 8 [(Aw b)])),none,none,none,none,(some (.rows g6 5 [(Bd a7)])),(some (.rows g7 5 [(Bd a8)])),none,none,none,none]) ?_ fun hJ17=>Dy (fun hb34=>?_) (fun hb34=>?_)
            ·rintro b5 fr h ⟨rfl,rfl⟩
             refine Aa<|B6 J (fun hc4=>?_) (fun hc4=>?_)
             ·refine Y<|O<|Z (.bool false) J An<|Aa<|Fc<|F5<|Bv (a:=false) (vs:=[(.bool false)]) Tryz.func12 hI J (.same _)
             refine A2<|Bs<|O<|Ab 3 [] [(12,(.I (IntKind.wrap .i64 ((j3:Int)+1))))] ?_
             refine Aa<|Eo [(some (.rows g 8 [(Aw a)])),(some (.rows g1 8 [(Aw b)])),none,none,none,none,none,none,none,none,none,none] hI J (.keep (.keep (.keep (.keep (.keep (.keep (.drop (.drop (.keep (.keep (.keep (.keep .nil))))))))))))<|Br (Fe (hW3 () _ _ ⟨J,J⟩)) (.cons J (.cons J (.cons (D8 (Bc ha7) hlim7) .nil)))
            ·refine A0 (t:=263) hb34 J<|Ab 7 [] [(270,(.bool true)),(269,.und),(268,.und),(267,.und),(266,.und),(265,.und),(264,.und)] ?_
             refine Bn<|Ca [(2,(.q ids 0 g)),(3,(.q ids 1 g1)),(12,(.I (j3:Int))),(270,(.bool true))] (FI J)<|hJ17 true _ _ ⟨J,J⟩
            refine A0 (t:=263) hb34 J<|Ab 4 [6,7] [(267,(.sl 2 (List.map B5 a8.Open))),(266,(.ptr (ix ids 7) g7 0 4)),(265,(.sl 2 (List.map B5 a7.Open))),(264,(.ptr (ix ids 6) g6 0 4))] ?_
            refine B0 [(.sl 2 (List.map B5 a7.Open)),(.sl 2 (List.map B5 a8.Open))] J (Cj (tj:=263) J J) J J ((S0 a7.Open a8.Open) _) (fun v _=>Cc Tryz.func12 hI) fun r5 _=>Ab 2 [] [(270,(.bool (!r5))),(269,(.bool (!r5)))] ?_
            refine Bn<|Ca [(2,(.q ids 0 g)),(3,(.q ids 1 g1)),(12,(.I (j3:Int))),(270,(.bool (!r5)))] (FI J)<|hJ17 (!r5) _ _ ⟨J,J⟩
           ·refine A0 (t:=256) hb32 J<|Ab 6 [] [(262,(.bool true)),(261,.und),(260,.und),(259,.und),(258,.und),(257,.und)] ?_
            exact Ba hJ16 (.cons J (.cons J (.cons J (.cons J (.cons J (.cons (Fb hb32) .nil))))))
           refine A0 (t:=256) hb32 J<|Ab 6 [6,7] [(262,(.bool (a7.Length != a8.Length))),(261,(.bool (a7.Length != a8.Length))),(260,(.I a8.Length)),(259,(.ptr (ix ids 7) g7 0 3)),(258,(.I a7.Length)),(257,(.ptr (ix ids 6) g6 0 3))] ?_
           exact Ba hJ16 (.cons J (.cons J (.cons J (.cons J (.cons J (.cons (Fa hb32) .nil))))))
          ·refine A0 (t:=249) hb30 J<|Ab 6 [] [(255,(.bool true)),(254,.und),(253,.und),(252,.und),(251,.und),(250,.und)] ?_
           exact Ba hJ15 (.cons J (.cons J (.cons J (.cons J (.cons J (.cons (Fb hb30) .nil))))))
          refine A0 (t:=249) hb30 J<|Ab 6 [6,7] [(255,(.bool (a7.Volume != a8.Volume))),(254,(.bool (a7.Volume != a8.Volume))),(253,(.I a8.Volume)),(252,(.ptr (ix ids 7) g7 0 2)),(251,(.I a7.Volume)),(250,(.ptr (ix ids 6) g6 0 2))] ?_
          exact Ba hJ15 (.cons J (.cons J (.cons J (.cons J (.cons J (.cons (Fa hb30) .nil))))))
         ·refine A0 (t:=242) hb28 J<|Ab 6 [] [(248,(.bool true)),(247,.und),(246,.und),(245,.und),(244,.und),(243,.und)] ?_
          exact Ba hJ14 (.cons J (.cons J (.cons J (.cons J (.cons J (.cons (Fb hb28) .nil))))))
         refine A0 (t:=242) hb28 J<|Ab 6 [6,7] [(248,(.bool (!(a7.In==a8.In)))),(247,(.bool (!(a7.In==a8.In)))),(246,(.str a8.In)),(245,(.ptr (ix ids 7) g7 0 1)),(244,(.str a7.In)),(243,(.ptr (ix ids 6) g6 0 1))] ?_
         exact Ba hJ14 (.cons J (.cons J (.cons J (.cons J (.cons J (.cons (Fa hb28) .nil))))))
        rintro _ fr h ⟨rfl,rfl⟩
        refine Al (Fk _ _ _)<|Y<|Y<|O<|Ab 3 [0] [(222,(.sl 5 (List.map Bd a.Segments))),(220,(.I (a.Segments.length:Int)))] ?_
        refine Z (.I (a.Segments.length:Int)) J (Ay (A8 Gk))<|Z (.bool (decide ((a.Segments.length:Int)<(a.Segments.length:Int)))) J (Bh J J J)<|Aa<|C6 J (Int.lt_irrefl _)<|Db J<|Y<|Y ?_
        refine O<|Z (.I 0) J An<|Aa<|Bf<|Ea [(2,(.q ids 0 g)),(3,(.q ids 1 g1)),(15,(.I 0))] (FI J)<|Ep (P:=Tryz.prog) a.Routes (fun j4 a9=>fun _=>Jp b j4 a9) ((Dp (fun _=>(each (fun j5 a11=>fun _=>H4 b j5 a11) 0 a.Airports ()).bind (Dp (fun _=>(each (fun j7 a15=>fun _=>G3 b j7 a15) 0 a.Classes ()).bind (Dp (fun _=>(each (fun j8 a17=>fun _=>Gc b j8 a17) 0 a.Rules ()).bind (Dp (fun _=>.ok true) (fun r=>.ok r))) (fun r=>.ok r))) (fun r=>.ok r))) (fun r=>.ok r)):(Unit ⊕ Bool)→R Bool) (fun j4=>fun _=>fun(fr:Nat→AV) (h:Ag)=>fr=A5 [(2,(.q ids 0 g)),(3,(.q ids 1 g1)),(15,(.I (j4:Int)))]∧h=hp h0 ids [(some (.rows g 8 [(Aw a)])),(some (.rows g1 8 [(Aw b)])),none,none,none,none,none,none,none,none,none,none]) () ?_ ?_ ?_
        ·exact⟨J,J⟩
        ·rintro j4 a9 ha9 W hW4 _ fr h ⟨rfl,rfl⟩
         refine Al (m':=Jp b j4 a9) J (Al (Jp.eq_1 _ _ _) ?_)
         refine Y<|Y<|O<|Ab 3 [0] [(273,(.sl 7 (List.map Bt a.Routes))),(271,(.I (j4:Int)))] ?_
         refine Z (.I (a.Routes.length:Int)) J (Ay (A8 Gi))<|Z (.bool (decide ((j4:Int)<(a.Routes.length:Int)))) J (Bh J J J)<|Aa<|Eb (t:=273) (L:=a.Routes) J fun hlim9=>C7 J (Int.ofNat_lt.2 (Bc ha9))<|A2<|Y ?_
         refine Bf<|Y<|O<|Ab 3 [0] [(280,(.I (j4:Int))),(279,(.sl 7 (List.map Bt a.Routes)))] ?_
         refine Z (.cp (Bt a9) 0) J (By (Do Gi Hp J ha9))<|Z (.agg (Bt a9)) J (Aq (Cl Hp J))<|Bg (j:=8) hI J J J J Hp J fun g8=>Ar (Ax (v:=(.agg (Bt a9))) hI J J J J Hp J J J J J)<|Aa<|Aj ?_
         refine Y<|O<|Ab 3 [1] [(285,(.I (j4:Int))),(284,(.sl 7 (List.map Bt b.Routes)))] ?_
         refine Ek fun a10 hz4 hx5=>Z (.cp (Bt a10) 0) J (By (Dl Gi Hp J hz4 hx5))<|Z (.agg (Bt a10)) J (Aq (Cl Hp J))<|Bg (j:=9) hI J J J J Hp J fun g9=>Ar (Ax (v:=(.agg (Bt a10))) hI J J J J Hp J J J J J)<|Aa<|Aj ?_
         refine Y<|O<|Ab 6 [8,9] [(293,(.bool (!(a9.Name==a10.Name))))] ?_
         refine Bw 6 [(2,(.q ids 0 g)),(3,(.q ids 1 g1)),(15,(.I (j4:Int))),(16,(.q ids 8 g8)),(17,(.q ids 9 g9)),(299,(.bool ((!(a9.Name==a10.Name))||(!(a9.A==a10.A)))))] ?_ fun hJ18=>Bq (!(a9.Name==a10.Name)) (fun hb36=>?_) (fun hb36=>?_)
         ·refine Z (.bool ((!(a9.Name==a10.Name))||(!(a9.A==a10.A)))) J Ae<|Bw 6 [(2,(.q ids 0 g)),(3,(.q ids 1 g1)),(15,(.I (j4:Int))),(16,(.q ids 8 g8)),(17,(.q ids 9 g9)),(306,(.bool (((!(a9.Name==a10.Name))||(!(a9.A==a10.A)))||(!(a9.B==a10.B)))))] ?_ fun hJ19=>Bq ((!(a9.Name==a10.Name))||(!(a9.A==a10.A))) (fun hb38=>?_) (fun hb38=>?_)
          ·refine Z (.bool (((!(a9.Name==a10.Name))||(!(a9.A==a10.A)))||(!(a9.B==a10.B)))) J Ae<|Bw 6 [(2,(.q ids 0 g)),(3,(.q ids 1 g1)),(15,(.I (j4:Int))),(16,(.q ids 8 g8)),(17,(.q ids 9 g9)),(313,(.bool ((((!(a9.Name==a10.Name))||(!(a9.A==a10.A)))||(!(a9.B==a10.B)))||(a9.From != a10.From))))] ?_ fun hJ20=>Bq (((!(a9.Name==a10.Name))||(!(a9.A==a10.A)))||(!(a9.B==a10.B))) (fun hb40=>?_) (fun hb40=>?_)
           ·refine Z (.bool ((((!(a9.Name==a10.Name))||(!(a9.A==a10.A)))||(!(a9.B==a10.B)))||(a9.From != a10.From))) J Ae<|Bw 6 [(2,(.q ids 0 g)),(3,(.q ids 1 g1)),(15,(.I (j4:Int))),(16,(.q ids 8 g8)),(17,(.q ids 9 g9)),(320,(.bool (((((!(a9.Name==a10.Name))||(!(a9.A==a10.A)))||(!(a9.B==a10.B)))||(a9.From != a10.From))||(a9.To != a10.To))))] ?_ fun hJ21=>Bq ((((!(a9.Name==a10.Name))||(!(a9.A==a10.A)))||(!(a9.B==a10.B)))||(a9.From != a10.From)) (fun hb42=>?_) (fun hb42=>?_)
            ·refine Z (.bool (((((!(a9.Name==a10.Name))||(!(a9.A==a10.A)))||(!(a9.B==a10.B)))||(a9.From != a10.From))||(a9.To != a10.To))) J Ae<|C8 7 ((fun(b6:Bool)=>(if b6 then R.ok true else(Hb a9.Segments a10.Segments).bind fun r7=>R.ok (!r7)).bind (fun(b7:Bool)=>if b7 then(.ok (.inr (false))) else(.ok (.inl ())))):Bool→R (Unit ⊕ Bool)) (fun(b6:Bool) (fr:Nat→AV) (h:Ag)=>fr=A5 [(2,(.q ids 0 g)),(3,(.q ids 1 g1)),(15,(.I (j4:Int))),(16,(.q ids 8 g8)),(17,(.q ids 9 g9)),(328,(.bool b6))]∧h=hp h0 ids [(some (.rows g 8 [(Aw a)])),(some (.rows g1 8 [(Aw b)])),none,none,none,none,none,none,(some (.rows g8 7 [(Bt a9)])),(some (.rows g9 7 [(Bt a10)])),none,none]) ?_ fun hJ22=>Dy (fun hb44=>?_) (fun hb44=>?_)
             ·rintro b6 fr h ⟨rfl,rfl⟩
              refine Z (.bool b6) J Ae<|C8 7 ((fun(b7:Bool)=>if b7 then(.ok (.inr (false))) else(.ok (.inl ()))):Bool→R (Unit ⊕ Bool)) (fun(b7:Bool) (fr:Nat→AV) (h:Ag)=>fr=A5 [(2,(.q ids 0 g)),(3,(.q ids 1 g1)),(15,(.I (j4:Int))),(336,(.bool b7))]∧h=hp h0 ids [(some (.rows g 8 [(Aw a)])),(some (.rows g1 8 [(Aw b)])),none,none,none,none,none,none,(some (.rows g8 7 [(Bt a9)])),(some (.rows g9 7 [(Bt a10)])),none,none]) ?_ fun hJ23=>Dy (fun hb46=>?_) (fun hb46=>?_)
              ·rintro b7 fr h ⟨rfl,rfl⟩
               refine Aa<|B6 J (fun hc5=>?_) (fun hc5=>?_)
               ·refine Y<|O<|Z (.bool false) J An<|Aa<|Fc<|F5<|Bv (a:=false) (vs:=[(.bool false)]) Tryz.func12 hI J (.same _)
               refine A2<|Bs<|O<|Ab 3 [] [(15,(.I (IntKind.wrap .i64 ((j4:Int)+1))))] ?_
               refine Aa<|Eo [(some (.rows g 8 [(Aw a)])),(some (.rows g1 8 [(Aw b)])),none,none,none,none,none,none,none,none,none,none] hI J (.keep (.keep (.keep (.keep (.keep (.keep (.keep (.keep (.drop (.drop (.keep (.keep .nil))))))))))))<|Br (Fe (hW4 () _ _ ⟨J,J⟩)) (.cons J (.cons J (.cons (D8 (Bc ha9) hlim9) .nil)))
              ·refine A0 (t:=329) hb46 J<|Ab 7 [] [(336,(.bool true)),(335,.und),(334,.und),(333,.und),(332,.und),(331,.und),(330,.und)] ?_
               refine Bn<|Ca [(2,(.q ids 0 g)),(3,(.q ids 1 g1)),(15,(.I (j4:Int))),(336,(.bool true))] (FI J)<|hJ23 true _ _ ⟨J,J⟩
              refine A0 (t:=329) hb46 J<|Ab 4 [8,9] [(333,(.sl 1 (List.map (rI .i64) a10.Segments))),(332,(.ptr (ix ids 9) g9 0 6)),(331,(.sl 1 (List.map (rI .i64) a9.Segments))),(330,(.ptr (ix ids 8) g8 0 6))] ?_
              refine B0 [(.sl 1 (List.map (rI .i64) a9.Segments)),(.sl 1 (List.map (rI .i64) a10.Segments))] J (Cj (tj:=329) J J) J J ((Qi a9.Segments a10.Segments) _) (fun v _=>Cc Tryz.func12 hI) fun r7 _=>Ab 2 [] [(336,(.bool (!r7))),(335,(.bool (!r7)))] ?_
              refine Bn<|Ca [(2,(.q ids 0 g)),(3,(.q ids 1 g1)),(15,(.I (j4:Int))),(336,(.bool (!r7)))] (FI J)<|hJ23 (!r7) _ _ ⟨J,J⟩
             ·refine A0 (t:=321) hb44 J<|Ab 7 [] [(328,(.bool true)),(327,.und),(326,.und),(325,.und),(324,.und),(323,.und),(322,.und)] ?_
              refine Bn<|Ca [(2,(.q ids 0 g)),(3,(.q ids 1 g1)),(15,(.I (j4:Int))),(16,(.q ids 8 g8)),(17,(.q ids 9 g9)),(328,(.bool true))] (FI J)<|hJ22 true _ _ ⟨J,J⟩
             refine A0 (t:=321) hb44 J<|Ab 4 [8,9] [(325,(.sl 1 (List.map rS a10.Names))),(324,(.ptr (ix ids 9) g9 0 5)),(323,(.sl 1 (List.map rS a9.Names))),(322,(.ptr (ix ids 8) g8 0 5))] ?_
             refine B0 [(.sl 1 (List.map rS a9.Names)),(.sl 1 (List.map rS a10.Names))] J (Cj (tj:=321) J J) J J ((Pz a9.Names a10.Names) _) (fun v _=>Cc Tryz.func12 hI) fun r6 _=>Ab 2 [] [(328,(.bool (!r6))),(327,(.bool (!r6)))] ?_
             refine Bn<|Ca [(2,(.q ids 0 g)),(3,(.q ids 1 g1)),(15,(.I (j4:Int))),(16,(.q ids 8 g8)),(17,(.q ids 9 g9)),(328,(.bool (!r6)))] (FI J)<|hJ22 (!r6) _ _ ⟨J,J⟩
            ·refine A0 (t:=314) hb42 J<|Ab 6 [] [(320,(.bool true)),(319,.und),(318,.und),(317,.und),(316,.und),(315,.und)] ?_
             exact Ba hJ21 (.cons J (.cons J (.cons J (.cons J (.cons J (.cons (Fb hb42) .nil))))))
            refine A0 (t:=314) hb42 J<|Ab 6 [8,9] [(320,(.bool (a9.To != a10.To))),(319,(.bool (a9.To != a10.To))),(318,(.I a10.To)),(317,(.ptr (ix ids 9) g9 0 4)),(316,(.I a9.To)),(315,(.ptr (ix ids 8) g8 0 4))] ?_
            exact Ba hJ21 (.cons J (.cons J (.cons J (.cons J (.cons J (.cons (Fa hb42) .nil))))))
           ·refine A0 (t:=307) hb40 J<|Ab 6 [] [(313,(.bool true)),(312,.und),(311,.und),(310,.und),(309,.und),(308,.und)] ?_
            exact Ba hJ20 (.cons J (.cons J (.cons J (.cons J (.cons J (.cons (Fb hb40) .nil))))))
           refine A0 (t:=307) hb40 J<|Ab 6 [8,9] [(313,(.bool (a9.From != a10.From))),(312,(.bool (a9.From != a10.From))),(311,(.I a10.From)),(310,(.ptr (ix ids 9) g9 0 3)),(309,(.I a9.From)),(308,(.ptr (ix ids 8) g8 0 3))] ?_
           exact Ba hJ20 (.cons J (.cons J (.cons J (.cons J (.cons J (.cons (Fa hb40) .nil))))))
          ·refine A0 (t:=300) hb38 J<|Ab 6 [] [(306,(.bool true)),(305,.und),(304,.und),(303,.und),(302,.und),(301,.und)] ?_
           exact Ba hJ19 (.cons J (.cons J (.cons J (.cons J (.cons J (.cons (Fb hb38) .nil))))))
          refine A0 (t:=300) hb38 J<|Ab 6 [8,9] [(306,(.bool (!(a9.B==a10.B)))),(305,(.bool (!(a9.B==a10.B)))),(304,(.str a10.B)),(303,(.ptr (ix ids 9) g9 0 2)),(302,(.str a9.B)),(301,(.ptr (ix ids 8) g8 0 2))] ?_
          exact Ba hJ19 (.cons J (.cons J (.cons J (.cons J (.cons J (.cons (Fa hb38) .nil))))))
         ·refine A0 (t:=293) hb36 J<|Ab 6 [] [(299,(.bool true)),(298,.und),(297,.und),(296,.und),(295,.und),(294,.und)] ?_
          exact Ba hJ18 (.cons J (.cons J (.cons J (.cons J (.cons J (.cons (Fb hb36) .nil))))))
         refine A0 (t:=293) hb36 J<|Ab 6 [8,9] [(299,(.bool (!(a9.A==a10.A)))),(298,(.bool (!(a9.A==a10.A)))),(297,(.str a10.A)),(296,(.ptr (ix ids 9) g9 0 1)),(295,(.str a9.A)),(294,(.ptr (ix ids 8) g8 0 1))] ?_
         exact Ba hJ18 (.cons J (.cons J (.cons J (.cons J (.cons J (.cons (Fa hb36) .nil))))))
        rintro _ fr h ⟨rfl,rfl⟩
        refine Al (Fk _ _ _)<|Y<|Y<|O<|Ab 3 [0] [(273,(.sl 7 (List.map Bt a.Routes))),(271,(.I (a.Routes.length:Int)))] ?_
        refine Z (.I (a.Routes.length:Int)) J (Ay (A8 Gi))<|Z (.bool (decide ((a.Routes.length:Int)<(a.Routes.length:Int)))) J (Bh J J J)<|Aa<|C6 J (Int.lt_irrefl _)<|Db J<|Y<|Y ?_
        refine O<|Z (.I 0) J An<|Aa<|Bf<|Ea [(2,(.q ids 0 g)),(3,(.q ids 1 g1)),(18,(.I 0))] (FI J)<|Ep (P:=Tryz.prog) a.Airports (fun j5 a11=>fun _=>H4 b j5 a11) ((Dp (fun _=>(each (fun j7 a15=>fun _=>G3 b j7 a15) 0 a.Classes ()).bind (Dp (fun _=>(each (fun j8 a17=>fun _=>Gc b j8 a17) 0 a.Rules ()).bind (Dp (fun _=>.ok true) (fun r=>.ok r))) (fun r=>.ok r))) (fun r=>.ok r)):(Unit ⊕ Bool)→R Bool) (fun j5=>fun _=>fun(fr:Nat→AV) (h:Ag)=>fr=A5 [(2,(.q ids 0 g)),(3,(.q ids 1 g1)),(18,(.I (j5:Int)))]∧h=hp h0 ids [(some (.rows g 8 [(Aw a)])),(some (.rows g1 8 [(Aw b)])),none,none,none,none,none,none,none,none,none,none]) () ?_ ?_ ?_
        ·exact⟨J,J⟩
        ·rintro j5 a11 ha11 W hW5 _ fr h ⟨rfl,rfl⟩
         refine Al (m':=H4 b j5 a11) J (Al (H4.eq_1 _ _ _) ?_)
         refine Y<|Y<|O<|Ab 3 [0] [(339,(.sl 2 (List.map Bb a.Airports))),(337,(.I (j5:Int)))] ?_
         refine Z (.I (a.Airports.length:Int)) J (Ay (A8 F6))<|Z (.bool (decide ((j5:Int)<(a.Airports.length:Int)))) J (Bh J J J)<|Aa<|Eb (t:=339) (L:=a.Airports) J fun hlim11=>C7 J (Int.ofNat_lt.2 (Bc ha11))<|A2<|Y ?_
         refine Bf<|Y<|O<|Ab 3 [0] [(346,(.I (j5:Int))),(345,(.sl 2 (List.map Bb a.Airports)))] ?_
         refine Z (.cp (Bb a11) 0) J (By (Do F6 Hr J ha11))<|Z (.agg (Bb a11)) J (Aq (Cl Hr J))<|Bg (j:=10) hI J J J J Hr J fun g10=>Ar (Ax (v:=(.agg (Bb a11))) hI J J J J Hr J J J J J)<|Aa<|Aj ?_
         refine Y<|O<|Ab 3 [1] [(351,(.I (j5:Int))),(350,(.sl 2 (List.map Bb b.Airports)))] ?_
         refine Ek fun a12 hz5 hx6=>Z (.cp (Bb a12) 0) J (By (Dl F6 Hr J hz5 hx6))<|Z (.agg (Bb a12)) J (Aq (Cl Hr J))<|Bg (j:=11) hI J J J J Hr J fun g11=>Ar (Ax (v:=(.agg (Bb a12))) hI J J J J Hr J J J J J)<|Aa<|Aj ?_
         refine Y<|Y<|O<|Ab 6 [10,11] [(359,(.bool (!(a11.Name==a12.Name))))] ?_
         refine Bw 8 [(2,(.q ids 0 g)),(3,(.q ids 1 g1)),(18,(.I (j5:Int))),(19,(.q ids 10 g10)),(20,(.q ids 11 g11)),(367,(.bool ((!(a11.Name==a12.Name))||((a11.Modes.length:Int) != (a12.Modes.length:Int)))))] ?_ fun hJ24=>Bq (!(a11.Name==a12.Name)) (fun hb48=>?_) (fun hb48=>?_)
         ·refine Aa<|B6 J (fun hc6=>?_) (fun hc6=>?_)
          ·refine Y<|O<|Z (.bool false) J An<|Aa<|Fc<|F5<|Bv (a:=false) (vs:=[(.bool false)]) Tryz.func12 hI J (.same _)
          refine A2<|Y<|O<|Z (.I 0) J An<|Aa<|Bf<|Ea [(2,(.q ids 0 g)),(3,(.q ids 1 g1)),(18,(.I (j5:Int))),(19,(.q ids 10 g10)),(20,(.q ids 11 g11)),(21,(.I 0))] (FI J) ?_
          refine Ep (P:=Tryz.prog) a11.Modes (fun j6 a13=>fun _=>Pc a12 j6 a13) ((Dp (fun _=>.ok (.inl ())) (fun r=>.ok (.inr (r)))):(Unit ⊕ Bool)→R (Unit ⊕ Bool)) (fun j6=>fun _=>fun(fr:Nat→AV) (h:Ag)=>fr=A5 [(2,(.q ids 0 g)),(3,(.q ids 1 g1)),(18,(.I (j5:Int))),(19,(.q ids 10 g10)),(20,(.q ids 11 g11)),(21,(.I (j6:Int)))]∧h=hp h0 ids [(some (.rows g 8 [(Aw a)])),(some (.rows g1 8 [(Aw b)])),none,none,none,none,none,none,none,none,(some (.rows g10 2 [(Bb a11)])),(some (.rows g11 2 [(Bb a12)]))]) () ?_ ?_ ?_
          ·exact⟨J,J⟩
          ·rintro j6 a13 ha13 W hW6 _ fr h ⟨rfl,rfl⟩
           refine Al (m':=Pc a12 j6 a13) J (Al (Pc.eq_1 _ _ _) ?_)
           refine Y<|Y<|O<|Ab 3 [10] [(370,(.sl 2 (List.map Dh a11.Modes))),(368,(.I (j6:Int)))] ?_
           refine Z (.I (a11.Modes.length:Int)) J (Ay (A8 M6))<|Z (.bool (decide ((j6:Int)<(a11.Modes.length:Int)))) J (Bh J J J)<|Aa<|Eb (t:=370) (L:=a11.Modes) J fun hlim13=>C7 J (Int.ofNat_lt.2 (Bc ha13))<|A2<|Y ?_
           refine Bf<|Y<|Cm Et [[],[0],[],[0,1,2],[0,1,2,3],[],[5],[],[5,6,7],[5,6,7,8],[0,1,2,3,4,5,6,7,8,9]] [(false,0),(false,1),(false,2),(false,3),(false,4),(false,5),(false,6),(false,7),(false,8),(false,9),(false,10)] (by kernel_rfl)<|Af (.ptr (ix ids 10) g10 0 1) J J (Bp (Bi (c:=0) (off:=1) (i:=1) Hr J M6 J))<|Af (.sl 2 (List.map Dh a11.Modes)) J J (Aq (Az hI J J J M6 J))<|Af (.I (j6:Int)) J J Ae<|Af (.cp (Dh a13) 0) J J (By (Do M6 Oe J ha13)) ?_
           refine Af (.agg (Dh a13)) J J (Aq (Cl Oe J))<|Af (.ptr (ix ids 11) g11 0 1) J J (Bp (Bi (c:=0) (off:=1) (i:=1) Hr J M6 J))<|Af (.sl 2 (List.map Dh a12.Modes)) J J (Aq (Az hI J J J M6 J))<|Af (.I (j6:Int)) J J Ae<|Oj fun a14 hz6 hx7=>Af (.cp (Dh a14) 0) J J (By (Dl M6 Oe J hz6 hx7))<|Af (.agg (Dh a14)) J J (Aq (Cl Oe J)) ?_
           refine Af (.bool (!((a13.Name==a14.Name)&&(a13.Places==a14.Places)))) J J (Bh (Ah0 J J) J Aiz)<|Cf<|D1 J (fun hc7=>?_) (fun hc7=>?_)
           ·refine A2<|Bs<|O<|Ab 3 [] [(21,(.I (IntKind.wrap .i64 ((j6:Int)+1))))] ?_
            refine Aa<|Br (Fe (hW6 () _ _ ⟨J,J⟩)) (.cons J (.cons J (.cons J (.cons J (.cons J (.cons (D8 (Bc ha13) hlim13) .nil))))))
           refine Y<|O<|Z (.bool false) J An<|Aa<|Fc<|F5<|Fc ?_
           refine F5<|Bv (a:=false) (vs:=[(.bool false)]) Tryz.func12 hI J (.same _)
          rintro _ fr h ⟨rfl,rfl⟩
          refine Al (Fk _ _ _)<|Y<|Y<|O<|Ab 3 [10] [(370,(.sl 2 (List.map Dh a11.Modes))),(368,(.I (a11.Modes.length:Int)))] ?_
          refine Z (.I (a11.Modes.length:Int)) J (Ay (A8 M6))<|Z (.bool (decide ((a11.Modes.length:Int)<(a11.Modes.length:Int)))) J (Bh J J J)<|Aa<|C6 J (Int.lt_irrefl _)<|Db J<|Bs<|O ?_
          refine Ab 3 [] [(18,(.I (IntKind.wrap .i64 ((j5:Int)+1))))] ?_
          refine Aa<|Eo [(some (.rows g 8 [(Aw a)])),(some (.rows g1 8 [(Aw b)])),none,none,none,none,none,none,none,none,none,none] hI J (.keep (.keep (.keep (.keep (.keep (.keep (.keep (.keep (.keep (.keep (.drop (.drop .nil))))))))))))<|Br (Fe (hW5 () _ _ ⟨J,J⟩)) (.cons J (.cons J (.cons (D8 (Bc ha11) hlim11) .nil)))
         ·refine A0 (t:=359) hb48 J<|Ab 8 [] [(367,(.bool true)),(366,.und),(365,.und),(364,.und),(363,.und),(362,.und),(361,.und),(360,.und)] ?_
          exact Ba hJ24 (.cons J (.cons J (.cons J (.cons J (.cons J (.cons (Fb hb48) .nil))))))
         refine A0 (t:=359) hb48 J<|Ab 2 [10] [(361,(.sl 2 (List.map Dh a11.Modes))),(360,(.ptr (ix ids 10) g10 0 1))] ?_
         refine Bu (tj:=359) (.I (a11.Modes.length:Int)) J J J (Ay (A8 M6))<|Ab 2 [11] [(364,(.sl 2 (List.map Dh a12.Modes))),(363,(.ptr (ix ids 11) g11 0 1))] ?_
         refine Bu (tj:=359) (.I (a12.Modes.length:Int)) J J J (Ay (A8 M6))<|Ab 2 [] [(367,(.bool ((a11.Modes.length:Int) != (a12.Modes.length:Int)))),(366,(.bool ((a11.Modes.length:Int) != (a12.Modes.length:Int))))] ?_
         exact Ba hJ24 (.cons J (.cons J (.cons J (.cons J (.cons J (.cons (Fa hb48) .nil))))))
        rintro _ fr h ⟨rfl,rfl⟩
        refine Al (Fk _ _ _)<|Y<|Y<|O<|Ab 3 [0] [(339,(.sl 2 (List.map Bb a.Airports))),(337,(.I (a.Airports.length:Int)))] ?_
        refine Z (.I (a.Airports.length:Int)) J (Ay (A8 F6))<|Z (.bool (decide ((a.Airports.length:Int)<(a.Airports.length:Int)))) J (Bh J J J)<|Aa<|C6 J (Int.lt_irrefl _)<|Db J<|Y<|Y ?_
        refine O<|Z (.I 0) J An<|Aa<|Bf<|Ea [(2,(.q ids 0 g)),(3,(.q ids 1 g1)),(22,(.I 0))] (FI J)<|Ep (P:=Tryz.prog) a.Classes (fun j7 a15=>fun _=>G3 b j7 a15) ((Dp (fun _=>(each (fun j8 a17=>fun _=>Gc b j8 a17) 0 a.Rules ()).bind (Dp (fun _=>.ok true) (fun r=>.ok r))) (fun r=>.ok r)):(Unit ⊕ Bool)→R Bool) (fun j7=>fun _=>fun(fr:Nat→AV) (h:Ag)=>fr=A5 [(2,(.q ids 0 g)),(3,(.q ids 1 g1)),(22,(.I (j7:Int)))]∧h=hp h0 ids [(some (.rows g 8 [(Aw a)])),(some (.rows g1 8 [(Aw b)])),none,none,none,none,none,none,none,none,none,none]) () ?_ ?_ ?_
        ·exact⟨J,J⟩
        ·rintro j7 a15 ha15 W hW7 _ fr h ⟨rfl,rfl⟩
         refine Al (m':=G3 b j7 a15) J (Al (G3.eq_1 _ _ _) ?_)
         refine Y<|Y<|O<|Ab 3 [0] [(388,(.sl 4 (List.map B2 a.Classes))),(386,(.I (j7:Int)))] ?_
         refine Z (.I (a.Classes.length:Int)) J (Ay (A8 Fs))<|Z (.bool (decide ((j7:Int)<(a.Classes.length:Int)))) J (Bh J J J)<|Aa<|Eb (t:=388) (L:=a.Classes) J fun hlim15=>C7 J (Int.ofNat_lt.2 (Bc ha15))<|A2<|Y ?_
         refine Bf<|Y<|Cm Et [[],[0],[],[0,1,2],[0,1,2,3],[],[5],[],[5,6,7],[5,6,7,8],[0,1,2,3,4,5,6,7,8,9]] [(false,0),(false,1),(false,2),(false,3),(false,4),(false,5),(false,6),(false,7),(false,8),(false,9),(false,10)] (by kernel_rfl)<|Af (.ptr (ix ids 0) g 0 6) J J (Bp (Bi (c:=0) (off:=6) (i:=6) Ce J Fs J))<|Af (.sl 4 (List.map B2 a.Classes)) J J (Aq (Az hI J J J Fs J))<|Af (.I (j7:Int)) J J Ae<|Af (.cp (B2 a15) 0) J J (By (Do Fs Kd J ha15)) ?_
         refine Af (.agg (B2 a15)) J J (Aq (Cl Kd J))<|Af (.ptr (ix ids 1) g1 0 6) J J (Bp (Bi (c:=0) (off:=6) (i:=6) Ce J Fs J))<|Af (.sl 4 (List.map B2 b.Classes)) J J (Aq (Az hI J J J Fs J))<|Af (.I (j7:Int)) J J Ae<|Oj fun a16 hz7 hx8=>Af (.cp (B2 a16) 0) J J (By (Dl Fs Kd J hz7 hx8))<|Af (.agg (B2 a16)) J J (Aq (Cl Kd J)) ?_
         refine Af (.bool (!((a15.Name==a16.Name)&&((a15.Slow==a16.Slow)&&((a15.Fast==a16.Fast)&&(a15.Places==a16.Places)))))) J J (Bh (Ah9 J J) J Aiq)<|Cf<|D1 J (fun hc8=>?_) (fun hc8=>?_)
         ·refine A2<|Bs<|O<|Ab 3 [] [(22,(.I (IntKind.wrap .i64 ((j7:Int)+1))))] ?_
          refine Aa<|Br (Fe (hW7 () _ _ ⟨J,J⟩)) (.cons J (.cons J (.cons (D8 (Bc ha15) hlim15) .nil)))
         refine Y<|O<|Z (.bool false) J An<|Aa<|Fc<|F5<|Bv (a:=false) (vs:=[(.bool false)]) Tryz.func12 hI J (.same _)
        rintro _ fr h ⟨rfl,rfl⟩
        refine Al (Fk _ _ _)<|Y<|Y<|O<|Ab 3 [0] [(388,(.sl 4 (List.map B2 a.Classes))),(386,(.I (a.Classes.length:Int)))] ?_
        refine Z (.I (a.Classes.length:Int)) J (Ay (A8 Fs))<|Z (.bool (decide ((a.Classes.length:Int)<(a.Classes.length:Int)))) J (Bh J J J)<|Aa<|C6 J (Int.lt_irrefl _)<|Db J<|Y<|Y ?_
        refine O<|Z (.I 0) J An<|Aa<|Bf<|Ea [(2,(.q ids 0 g)),(3,(.q ids 1 g1)),(23,(.I 0))] (FI J)<|Ep (P:=Tryz.prog) a.Rules (fun j8 a17=>fun _=>Gc b j8 a17) ((Dp (fun _=>.ok true) (fun r=>.ok r)):(Unit ⊕ Bool)→R Bool) (fun j8=>fun _=>fun(fr:Nat→AV) (h:Ag)=>fr=A5 [(2,(.q ids 0 g)),(3,(.q ids 1 g1)),(23,(.I (j8:Int)))]∧h=hp h0 ids [(some (.rows g 8 [(Aw a)])),(some (.rows g1 8 [(Aw b)])),none,none,none,none,none,none,none,none,none,none]) () ?_ ?_ ?_
        ·exact⟨J,J⟩
        ·rintro j8 a17 ha17 W hW8 _ fr h ⟨rfl,rfl⟩
         refine Al (m':=Gc b j8 a17) J (Al (Gc.eq_1 _ _ _) ?_)
         refine Y<|Y<|O<|Ab 3 [0] [(406,(.sl 8 (List.map A7 a.Rules))),(404,(.I (j8:Int)))] ?_
         refine Z (.I (a.Rules.length:Int)) J (Ay (A8 Dz))<|Z (.bool (decide ((j8:Int)<(a.Rules.length:Int)))) J (Bh J J J)<|Aa<|Eb (t:=406) (L:=a.Rules) J fun hlim17=>C7 J (Int.ofNat_lt.2 (Bc ha17))<|A2<|Y ?_
         refine Bf<|Y<|Cm Et [[],[0],[],[0,1,2],[0,1,2,3],[],[5],[],[5,6,7],[5,6,7,8],[0,1,2,3,4,5,6,7,8,9]] [(false,0),(false,1),(false,2),(false,3),(false,4),(false,5),(false,6),(false,7),(false,8),(false,9),(false,10)] (by kernel_rfl)<|Af (.ptr (ix ids 0) g 0 7) J J (Bp (Bi (c:=0) (off:=7) (i:=7) Ce J Dz J))<|Af (.sl 8 (List.map A7 a.Rules)) J J (Aq (Az hI J J J Dz J))<|Af (.I (j8:Int)) J J Ae<|Af (.cp (A7 a17) 0) J J (By (Do Dz Dk J ha17)) ?_
         refine Af (.agg (A7 a17)) J J (Aq (Cl Dk J))<|Af (.ptr (ix ids 1) g1 0 7) J J (Bp (Bi (c:=0) (off:=7) (i:=7) Ce J Dz J))<|Af (.sl 8 (List.map A7 b.Rules)) J J (Aq (Az hI J J J Dz J))<|Af (.I (j8:Int)) J J Ae<|Oj fun a18 hz8 hx9=>Af (.cp (A7 a18) 0) J J (By (Dl Dz Dk J hz8 hx9))<|Af (.agg (A7 a18)) J J (Aq (Cl Dk J)) ?_
         refine Af (.bool (!((a17.Kind==a18.Kind)&&((a17.C==a18.C)&&((a17.A==a18.A)&&((a17.Class==a18.Class)&&((a17.Airport==a18.Airport)&&((a17.N==a18.N)&&((a17.Hours.From==a18.Hours.From)&&(a17.Hours.To==a18.Hours.To)))))))))) J J (Bh (Aec J J) J Ad1)<|Cf<|D1 J (fun hc9=>?_) (fun hc9=>?_)
         ·refine A2<|Bs<|O<|Ab 3 [] [(23,(.I (IntKind.wrap .i64 ((j8:Int)+1))))] ?_
          refine Aa<|Br (Fe (hW8 () _ _ ⟨J,J⟩)) (.cons J (.cons J (.cons (D8 (Bc ha17) hlim17) .nil)))
         refine Y<|O<|Z (.bool false) J An<|Aa<|Fc<|F5<|Bv (a:=false) (vs:=[(.bool false)]) Tryz.func12 hI J (.same _)
        rintro _ fr h ⟨rfl,rfl⟩
        refine Al (Fk _ _ _)<|Y<|Y<|O<|Ab 3 [0] [(406,(.sl 8 (List.map A7 a.Rules))),(404,(.I (a.Rules.length:Int)))] ?_
        refine Z (.I (a.Rules.length:Int)) J (Ay (A8 Dz))<|Z (.bool (decide ((a.Rules.length:Int)<(a.Rules.length:Int)))) J (Bh J J J)<|Aa<|C6 J (Int.lt_irrefl _)<|Db J<|Y<|O ?_
        refine Z (.bool true) J An<|Aa<|Bv (a:=true) (vs:=[(.bool true)]) Tryz.func12 hI J (.same _)
       ·refine A0 (t:=85) hb13 J<|Ab 8 [] [(93,(.bool true))] ?_
        exact Ba hJ6 (.cons J (.cons J (.cons (Fb hb13) .nil)))
       refine A0 (t:=85) hb13 J<|Ab 2 [0] [(87,(.sl 8 (List.map A7 a.Rules)))] ?_
       refine Bu (tj:=85) (.I (a.Rules.length:Int)) J J J (Ay (A8 Dz))<|Ab 2 [1] [(90,(.sl 8 (List.map A7 b.Rules)))] ?_
       refine Bu (tj:=85) (.I (b.Rules.length:Int)) J J J (Ay (A8 Dz))<|Ab 2 [] [(93,(.bool ((a.Rules.length:Int) != (b.Rules.length:Int))))] ?_
       exact Ba hJ6 (.cons J (.cons J (.cons (Fa hb13) .nil)))
      ·refine A0 (t:=76) hb11 J<|Ab 8 [] [(84,(.bool true))] ?_
       exact Ba hJ5 (.cons J (.cons J (.cons (Fb hb11) .nil)))
      refine A0 (t:=76) hb11 J<|Ab 2 [0] [(78,(.sl 4 (List.map B2 a.Classes)))] ?_
      refine Bu (tj:=76) (.I (a.Classes.length:Int)) J J J (Ay (A8 Fs))<|Ab 2 [1] [(81,(.sl 4 (List.map B2 b.Classes)))] ?_
      refine Bu (tj:=76) (.I (b.Classes.length:Int)) J J J (Ay (A8 Fs))<|Ab 2 [] [(84,(.bool ((a.Classes.length:Int) != (b.Classes.length:Int))))] ?_
      exact Ba hJ5 (.cons J (.cons J (.cons (Fa hb11) .nil)))
     ·refine A0 (t:=67) hb9 J<|Ab 8 [] [(75,(.bool true))] ?_
      exact Ba hJ4 (.cons J (.cons J (.cons (Fb hb9) .nil)))
     refine A0 (t:=67) hb9 J<|Ab 2 [0] [(69,(.sl 2 (List.map Bb a.Airports)))] ?_
     refine Bu (tj:=67) (.I (a.Airports.length:Int)) J J J (Ay (A8 F6))<|Ab 2 [1] [(72,(.sl 2 (List.map Bb b.Airports)))] ?_
     refine Bu (tj:=67) (.I (b.Airports.length:Int)) J J J (Ay (A8 F6))<|Ab 2 [] [(75,(.bool ((a.Airports.length:Int) != (b.Airports.length:Int))))] ?_
     exact Ba hJ4 (.cons J (.cons J (.cons (Fa hb9) .nil)))
    ·refine A0 (t:=58) hb7 J<|Ab 8 [] [(66,(.bool true))] ?_
     exact Ba hJ3 (.cons J (.cons J (.cons (Fb hb7) .nil)))
    refine A0 (t:=58) hb7 J<|Ab 2 [0] [(60,(.sl 7 (List.map Bt a.Routes)))] ?_
    refine Bu (tj:=58) (.I (a.Routes.length:Int)) J J J (Ay (A8 Gi))<|Ab 2 [1] [(63,(.sl 7 (List.map Bt b.Routes)))] ?_
    refine Bu (tj:=58) (.I (b.Routes.length:Int)) J J J (Ay (A8 Gi))<|Ab 2 [] [(66,(.bool ((a.Routes.length:Int) != (b.Routes.length:Int))))] ?_
    exact Ba hJ3 (.cons J (.cons J (.cons (Fa hb7) .nil)))
   ·refine A0 (t:=49) hb5 J<|Ab 8 [] [(57,(.bool true))] ?_
    exact Ba hJ2 (.cons J (.cons J (.cons (Fb hb5) .nil)))
   refine A0 (t:=49) hb5 J<|Ab 2 [0] [(51,(.sl 5 (List.map Bd a.Segments)))] ?_
   refine Bu (tj:=49) (.I (a.Segments.length:Int)) J J J (Ay (A8 Gk))<|Ab 2 [1] [(54,(.sl 5 (List.map Bd b.Segments)))] ?_
   refine Bu (tj:=49) (.I (b.Segments.length:Int)) J J J (Ay (A8 Gk))<|Ab 2 [] [(57,(.bool ((a.Segments.length:Int) != (b.Segments.length:Int))))] ?_
   exact Ba hJ2 (.cons J (.cons J (.cons (Fa hb5) .nil)))
  ·refine A0 (t:=40) hb3 J<|Ab 8 [] [(48,(.bool true))] ?_
   exact Ba hJ1 (.cons J (.cons J (.cons (Fb hb3) .nil)))
  refine A0 (t:=40) hb3 J<|Ab 2 [0] [(42,(.sl 3 (List.map Bk a.Configs)))] ?_
  refine Bu (tj:=40) (.I (a.Configs.length:Int)) J J J (Ay (A8 Gl))<|Ab 2 [1] [(45,(.sl 3 (List.map Bk b.Configs)))] ?_
  refine Bu (tj:=40) (.I (b.Configs.length:Int)) J J J (Ay (A8 Gl))<|Ab 2 [] [(48,(.bool ((a.Configs.length:Int) != (b.Configs.length:Int))))] ?_
  exact Ba hJ1 (.cons J (.cons J (.cons (Fa hb3) .nil)))
 ·refine A0 (t:=31) hb1 J<|Ab 8 [] [(39,(.bool true))] ?_
  exact Ba hJ (.cons J (.cons J (.cons (Fb hb1) .nil)))
 refine A0 (t:=31) hb1 J<|Ab 2 [0] [(33,(.sl 5 (List.map A6 a.Sectors)))] ?_
 refine Bu (tj:=31) (.I (a.Sectors.length:Int)) J J J (Ay (A8 Fr))<|Ab 2 [1] [(36,(.sl 5 (List.map A6 b.Sectors)))] ?_
 refine Bu (tj:=31) (.I (b.Sectors.length:Int)) J J J (Ay (A8 Fr))<|Ab 2 [] [(39,(.bool ((a.Sectors.length:Int) != (b.Sectors.length:Int))))] ?_
 exact Ba hJ (.cons J (.cons J (.cons (Fa hb1) .nil)))
theorem Ro (s1:List Span)(s2:List Span):CP Tryz.prog 64 [(.sl 2 (List.map B5 s1)),(.sl 2 (List.map B5 s2))] (N2 s1 s2) (fun(x:Bool)=>(AV.bool x)):=by
 refine Cq (n:=26) 0 Tryz.func64 J (by decide) J J fun h0 ids hI=>Bo (Al (N2.eq_1 _ _) ?_)
 refine Y<|O<|Z (.bool false) J An<|Aa<|Y<|Y<|O ?_
 refine Z (.sl 2 (List.map B5 s1)) J Ae<|Z (.I (s1.length:Int)) J (Ay (A8 L3))<|Z (.sl 2 (List.map B5 s2)) J Ae<|Z (.I (s2.length:Int)) J (Ay (A8 L3))<|Z (.bool ((s1.length:Int) != (s2.length:Int))) J (Bh J J J)<|Aa<|B6 J (fun hc=>?_) (fun hc=>?_)
 ·refine Y<|O<|Z (.bool false) J An<|Aa<|Bv (a:=false) (vs:=[(.bool false)]) Tryz.func64 hI J (.same _)
 refine A2<|Y<|Y<|O<|Z (.sl 2 (List.map B5 s1)) J Ae<|Z (.I (s1.length:Int)) J (Ay (A8 L3))<|Z (.I 0) J Ae ?_
 refine Aa<|Bf<|Ea [(0,(.sl 2 (List.map B5 s1))),(1,(.sl 2 (List.map B5 s2))),(12,(.I (s1.length:Int))),(13,(.I 0))] (FI J)<|Ep (P:=Tryz.prog) s1 (fun j a=>fun _=>Mr s2 j a) ((Dp (fun _=>.ok true) (fun r=>.ok r)):(Unit ⊕ Bool)→R Bool) (fun j=>fun _=>fun(fr:Nat→AV) (h:Ag)=>fr=A5 [(0,(.sl 2 (List.map B5 s1))),(1,(.sl 2 (List.map B5 s2))),(12,(.I (s1.length:Int))),(13,(.I (j:Int)))]∧h=hp h0 ids []) () ?_ ?_ ?_
 ·exact⟨J,J⟩
 ·rintro j a ha W hW _ fr h ⟨rfl,rfl⟩
  refine Al (m':=Mr s2 j a) J (Al (Mr.eq_1 _ _ _) ?_)
  refine Y<|O<|Z (.bool (decide ((j:Int)<(s1.length:Int)))) J (Bh J J J)<|Aa<|Y<|Eb (t:=0) (L:=s1) J fun hlim=>C7 J (Int.ofNat_lt.2 (Bc ha)) ?_
  refine A2<|Y<|Bf<|Y<|O<|Ab 2 [] [(5,(.I (j:Int)))] ?_
  refine Aa<|Y<|Cm Et [[],[],[0,1],[0,1,2],[],[],[4,5],[4,5,6],[0,1,2,3,4,5,6,7]] [(false,0),(false,1),(false,2),(false,3),(false,4),(false,5),(false,6),(false,7),(false,8)] (by kernel_rfl)<|Af (.sl 2 (List.map B5 s1)) J J Ae<|Af (.I (j:Int)) J J Ae<|Af (.cp (B5 a) 0) J J (By (Do L3 K1 J ha))<|Af (.agg (B5 a)) J J (Aq (Cl K1 J)) ?_
  refine Af (.sl 2 (List.map B5 s2)) J J Ae<|Af (.I (j:Int)) J J Ae<|Oj fun a1 hz hx1=>Af (.cp (B5 a1) 0) J J (By (Dl L3 K1 J hz hx1))<|Af (.agg (B5 a1)) J J (Aq (Cl K1 J))<|Af (.bool (!((a.From==a1.From)&&(a.To==a1.To)))) J J (Bh (Ait J J) J Aid)<|Cf ?_
  refine D1 J (fun hc1=>?_) (fun hc1=>?_)
  ·refine A2<|Bs<|O<|Ab 2 [] [(13,(.I (IntKind.wrap .i64 ((j:Int)+1))))] ?_
   refine Aa<|Br (Fe (hW () _ _ ⟨J,J⟩)) (.cons J (.cons J (.cons J (.cons (D8 (Bc ha) hlim) .nil))))
  refine Y<|O<|Z (.bool false) J An<|Aa<|Fc<|F5<|Bv (a:=false) (vs:=[(.bool false)]) Tryz.func64 hI J (.same _)
 rintro _ fr h ⟨rfl,rfl⟩
 refine Al (Fk _ _ _)<|Y<|O<|Z (.bool (decide ((s1.length:Int)<(s1.length:Int)))) J (Bh J J J)<|Aa<|Y<|C6 J (Int.lt_irrefl _) ?_
 refine Db J<|Y<|O<|Z (.bool true) J An<|Aa<|Bv (a:=true) (vs:=[(.bool true)]) Tryz.func64 hI J (.same _)
end Go.Am
namespace Go.Am
open Go Go.Proofs
set_option maxRecDepth 100000
set_option maxHeartbeats 4000000
set_option linter.unusedSimpArgs false
set_option linter.unusedVariables false
theorem Zu (a:Volume)(y:Volume):CP Tryz.prog 63 [(.agg (As a)),(.agg (As y))] (Sh a y) (fun(x:Bool)=>(AV.bool x)):=by
 refine Cq (n:=17) 2 Tryz.func63 J (by decide) J J fun h0 ids hI=>Bo (Al (Sh.eq_1 _ _) ?_)
 refine Y<|O<|Ck (v:=(.agg (As a))) (j:=0) hI J J J J J J J fun g=>Ck (v:=(.agg (As y))) (j:=1) hI J J J J J J J fun g1=>Z (.bool false) J An<|Aa<|Aj ?_
 refine Y<|O<|Ab 6 [0,1] [(10,(.bool (a.Name==y.Name)))] ?_
 refine C8 6 ((fun(b:Bool)=>.ok b):Bool→R Bool) (fun(b:Bool) (fr:Nat→AV) (h:Ag)=>fr=A5 [(16,(.bool b))]∧h=hp h0 ids [(some (.rows g 2 [(As a)])),(some (.rows g1 2 [(As y)]))]) ?_ fun hJ=>Dy (fun hb1=>?_) (fun hb1=>?_)
 ·rintro b fr h ⟨rfl,rfl⟩
  refine Z (.bool b) J An<|Aa<|Bv (a:=b) (vs:=[(.bool b)]) Tryz.func63 hI J (.same _)
 ·refine A0 (t:=10) hb1 J<|Ab 4 [0,1] [(14,(.sl 2 (List.map B5 y.Closed))),(12,(.sl 2 (List.map B5 a.Closed)))] ?_
  refine B0 [(.sl 2 (List.map B5 a.Closed)),(.sl 2 (List.map B5 y.Closed))] J (Cj (tj:=10) J J) J J ((Ro a.Closed y.Closed) _) (fun v _=>Cc Tryz.func63 hI) fun r _=>Z (.bool r) J (Fj (t:=true) J J)<|Bn<|Ca [(16,(.bool r))] (FI J)<|hJ r _ _ ⟨J,J⟩
 refine A0 (t:=10) hb1 J<|Ab 6 [] [(16,(.bool false))] ?_
 refine Bn<|Ca [(16,(.bool false))] (FI J)<|hJ false _ _ ⟨J,J⟩
theorem Lt (s1:List Volume)(s2:List Volume):CP Tryz.prog 62 [(.sl 2 (List.map As s1)),(.sl 2 (List.map As s2)),(.func (.func 63) [] [])] (Ey s1 s2) (fun(x:Bool)=>(AV.bool x)):=by
 refine Cq (n:=32) 2 Tryz.func62 J (by decide) J J fun h0 ids hI=>Bo (Al (Ey.eq_1 _ _) ?_)
 refine Y<|O<|Z (.bool false) J An<|Aa<|Y<|Y<|O ?_
 refine Z (.sl 2 (List.map As s1)) J Ae<|Z (.I (s1.length:Int)) J (Ay (A8 Ew))<|Z (.sl 2 (List.map As s2)) J Ae<|Z (.I (s2.length:Int)) J (Ay (A8 Ew))<|Z (.bool ((s1.length:Int) != (s2.length:Int))) J (Bh J J J)<|Aa<|B6 J (fun hc=>?_) (fun hc=>?_)
 ·refine Y<|O<|Z (.bool false) J An<|Aa<|Bv (a:=false) (vs:=[(.bool false)]) Tryz.func62 hI J (.same _)
 refine A2<|Y<|Y<|O<|Z (.sl 2 (List.map As s1)) J Ae<|Z (.I (s1.length:Int)) J (Ay (A8 Ew))<|Z (.I 0) J Ae ?_
 refine Aa<|Bf<|Ea [(1,(.sl 2 (List.map As s2))),(2,(.func (.func 63) [] [])),(15,(.sl 2 (List.map As s1))),(16,(.I (s1.length:Int))),(17,(.I 0))] (FI J)<|Ep (P:=Tryz.prog) s1 (fun j a=>fun _=>Du s2 j a) ((Dp (fun _=>.ok true) (fun r=>.ok r)):(Unit ⊕ Bool)→R Bool) (fun j=>fun _=>fun(fr:Nat→AV) (h:Ag)=>fr=A5 [(1,(.sl 2 (List.map As s2))),(2,(.func (.func 63) [] [])),(15,(.sl 2 (List.map As s1))),(16,(.I (s1.length:Int))),(17,(.I (j:Int)))]∧h=hp h0 ids [none,none]) () ?_ ?_ ?_
 ·exact⟨J,J⟩
 ·rintro j a ha W hW _ fr h ⟨rfl,rfl⟩
  refine Al (m':=Du s2 j a) J (Al (Du.eq_1 _ _ _) ?_)
  refine Y<|O<|Z (.bool (decide ((j:Int)<(s1.length:Int)))) J (Bh J J J)<|Aa<|Y<|Eb (t:=15) (L:=s1) J fun hlim=>C7 J (Int.ofNat_lt.2 (Bc ha)) ?_
  refine A2<|Y<|Bf<|Y<|O<|Z (.I (j:Int)) J Ae<|Z (.cp (As a) 0) J (By (Do Ew If J ha)) ?_
  refine Z (.agg (As a)) J (Aq (Cl If J))<|Bg (j:=0) hI J J J J If J fun g=>Z (.I (j:Int)) J An<|Ar (Ax (v:=(.agg (As a))) hI J J J J If J J J J J)<|Aa<|Aj ?_
  refine Y<|O<|Ab 2 [] [(23,(.I (j:Int))),(22,(.sl 2 (List.map As s2)))] ?_
  refine Ek fun a1 hz hx1=>Z (.cp (As a1) 0) J (By (Dl Ew If J hz hx1))<|Z (.agg (As a1)) J (Aq (Cl If J))<|Bg (j:=1) hI J J J J If J fun g1=>Ar (Ax (v:=(.agg (As a1))) hI J J J J If J J J J J)<|Aa<|Aj ?_
  refine Y<|O<|Ab 3 [0,1] [(28,(.agg (As a1))),(27,(.agg (As a))),(26,(.func (.func 63) [] []))] ?_
  refine B0 [(.agg (As a)),(.agg (As a1))] J J J J ((Zu a a1) _) (fun v _=>Cc Tryz.func62 hI) fun r _=>Z (.bool (!r)) J (Pn J)<|Aa<|D1 J (fun hc1=>?_) (fun hc1=>?_)
  ·refine A2<|Bs<|O<|Ab 2 [] [(17,(.I (IntKind.wrap .i64 ((j:Int)+1))))] ?_
   refine Aa<|Eo [none,none] hI J (.drop (.drop .nil))<|Br (Fe (hW () _ _ ⟨J,J⟩)) (.cons J (.cons J (.cons J (.cons J (.cons (D8 (Bc ha) hlim) .nil)))))
  refine Y<|O<|Z (.bool false) J An<|Aa<|Fc<|F5<|Bv (a:=false) (vs:=[(.bool false)]) Tryz.func62 hI J (.same _)
 rintro _ fr h ⟨rfl,rfl⟩
 refine Al (Fk _ _ _)<|Y<|O<|Z (.bool (decide ((s1.length:Int)<(s1.length:Int)))) J (Bh J J J)<|Aa<|Y<|C6 J (Int.lt_irrefl _) ?_
 refine Db J<|Y<|O<|Z (.bool true) J An<|Aa<|Bv (a:=true) (vs:=[(.bool true)]) Tryz.func62 hI J (.same _)
theorem Nu (s1:List Au)(s2:List Au):CP Tryz.prog 67 [(.sl 1 (List.map rS s1)),(.sl 1 (List.map rS s2))] (Lh s1 s2) (fun(x:Bool)=>(AV.bool x)):=by
 refine Cq (n:=26) 0 Tryz.func67 J (by decide) J J fun h0 ids hI=>Bo (Al (Lh.eq_1 _ _) ?_)
 refine Y<|O<|Z (.bool false) J An<|Aa<|Y<|Y<|O ?_
 refine Z (.sl 1 (List.map rS s1)) J Ae<|Z (.I (s1.length:Int)) J (Ay (A8 Dt))<|Z (.sl 1 (List.map rS s2)) J Ae<|Z (.I (s2.length:Int)) J (Ay (A8 Dt))<|Z (.bool ((s1.length:Int) != (s2.length:Int))) J (Bh J J J)<|Aa<|B6 J (fun hc=>?_) (fun hc=>?_)
 ·refine Y<|O<|Z (.bool false) J An<|Aa<|Bv (a:=false) (vs:=[(.bool false)]) Tryz.func67 hI J (.same _)
 refine A2<|Y<|Y<|O<|Z (.sl 1 (List.map rS s1)) J Ae<|Z (.I (s1.length:Int)) J (Ay (A8 Dt))<|Z (.I 0) J Ae ?_
 refine Aa<|Bf<|Ea [(0,(.sl 1 (List.map rS s1))),(1,(.sl 1 (List.map rS s2))),(12,(.I (s1.length:Int))),(13,(.I 0))] (FI J)<|Ep (P:=Tryz.prog) s1 (fun j a=>fun _=>Lu s2 j a) ((Dp (fun _=>.ok true) (fun r=>.ok r)):(Unit ⊕ Bool)→R Bool) (fun j=>fun _=>fun(fr:Nat→AV) (h:Ag)=>fr=A5 [(0,(.sl 1 (List.map rS s1))),(1,(.sl 1 (List.map rS s2))),(12,(.I (s1.length:Int))),(13,(.I (j:Int)))]∧h=hp h0 ids []) () ?_ ?_ ?_
 ·exact⟨J,J⟩
 ·rintro j a ha W hW _ fr h ⟨rfl,rfl⟩
  refine Al (m':=Lu s2 j a) J (Al (Lu.eq_1 _ _ _) ?_)
  refine Y<|O<|Z (.bool (decide ((j:Int)<(s1.length:Int)))) J (Bh J J J)<|Aa<|Y<|Eb (t:=0) (L:=s1) J fun hlim=>C7 J (Int.ofNat_lt.2 (Bc ha)) ?_
  refine A2<|Y<|Bf<|Y<|O<|Ab 2 [] [(5,(.I (j:Int)))] ?_
  refine Aa<|Y<|Cm Et [[],[],[0,1],[0,1,2],[],[],[4,5],[4,5,6],[0,1,2,3,4,5,6,7]] [(false,0),(false,1),(false,2),(false,3),(false,4),(false,5),(false,6),(false,7),(false,8)] (by kernel_rfl)<|Af (.sl 1 (List.map rS s1)) J J Ae<|Af (.I (j:Int)) J J Ae<|Af (.cp [(.str a)] 0) J J (By (Do Dt Co J ha))<|Af (.str a) J J (Aq (Cl Co J)) ?_
  refine Af (.sl 1 (List.map rS s2)) J J Ae<|Af (.I (j:Int)) J J Ae<|Oj fun a1 hz hx1=>Af (.cp [(.str a1)] 0) J J (By (Dl Dt Co J hz hx1))<|Af (.str a1) J J (Aq (Cl Co J))<|Af (.bool (!(a==a1))) J J (Bh J J J)<|Cf ?_
  refine D1 J (fun hc1=>?_) (fun hc1=>?_)
  ·refine A2<|Bs<|O<|Ab 2 [] [(13,(.I (IntKind.wrap .i64 ((j:Int)+1))))] ?_
   refine Aa<|Br (Fe (hW () _ _ ⟨J,J⟩)) (.cons J (.cons J (.cons J (.cons (D8 (Bc ha) hlim) .nil))))
  refine Y<|O<|Z (.bool false) J An<|Aa<|Fc<|F5<|Bv (a:=false) (vs:=[(.bool false)]) Tryz.func67 hI J (.same _)
 rintro _ fr h ⟨rfl,rfl⟩
 refine Al (Fk _ _ _)<|Y<|O<|Z (.bool (decide ((s1.length:Int)<(s1.length:Int)))) J (Bh J J J)<|Aa<|Y<|C6 J (Int.lt_irrefl _) ?_
 refine Db J<|Y<|O<|Z (.bool true) J An<|Aa<|Bv (a:=true) (vs:=[(.bool true)]) Tryz.func67 hI J (.same _)
theorem Pl (s1:List Int)(s2:List Int):CP Tryz.prog 68 [(.sl 1 (List.map (rI .i64) s1)),(.sl 1 (List.map (rI .i64) s2))] (Hy s1 s2) (fun(x:Bool)=>(AV.bool x)):=by
 refine Cq (n:=26) 0 Tryz.func68 J (by decide) J J fun h0 ids hI=>Bo (Al (Hy.eq_1 _ _) ?_)
 refine Y<|O<|Z (.bool false) J An<|Aa<|Y<|Y<|O ?_
 refine Z (.sl 1 (List.map (rI .i64) s1)) J Ae<|Z (.I (s1.length:Int)) J (Ay (A8 Pu))<|Z (.sl 1 (List.map (rI .i64) s2)) J Ae<|Z (.I (s2.length:Int)) J (Ay (A8 Pu))<|Z (.bool ((s1.length:Int) != (s2.length:Int))) J (Bh J J J)<|Aa<|B6 J (fun hc=>?_) (fun hc=>?_)
 ·refine Y<|O<|Z (.bool false) J An<|Aa<|Bv (a:=false) (vs:=[(.bool false)]) Tryz.func68 hI J (.same _)
 refine A2<|Y<|Y<|O<|Z (.sl 1 (List.map (rI .i64) s1)) J Ae<|Z (.I (s1.length:Int)) J (Ay (A8 Pu))<|Z (.I 0) J Ae ?_
 refine Aa<|Bf<|Ea [(0,(.sl 1 (List.map (rI .i64) s1))),(1,(.sl 1 (List.map (rI .i64) s2))),(12,(.I (s1.length:Int))),(13,(.I 0))] (FI J)<|Ep (P:=Tryz.prog) s1 (fun j a=>fun _=>Nd s2 j a) ((Dp (fun _=>.ok true) (fun r=>.ok r)):(Unit ⊕ Bool)→R Bool) (fun j=>fun _=>fun(fr:Nat→AV) (h:Ag)=>fr=A5 [(0,(.sl 1 (List.map (rI .i64) s1))),(1,(.sl 1 (List.map (rI .i64) s2))),(12,(.I (s1.length:Int))),(13,(.I (j:Int)))]∧h=hp h0 ids []) () ?_ ?_ ?_
 ·exact⟨J,J⟩
 ·rintro j a ha W hW _ fr h ⟨rfl,rfl⟩
  refine Al (m':=Nd s2 j a) J (Al (Nd.eq_1 _ _ _) ?_)
  refine Y<|O<|Z (.bool (decide ((j:Int)<(s1.length:Int)))) J (Bh J J J)<|Aa<|Y<|Eb (t:=0) (L:=s1) J fun hlim=>C7 J (Int.ofNat_lt.2 (Bc ha)) ?_
  refine A2<|Y<|Bf<|Y<|O<|Ab 2 [] [(5,(.I (j:Int)))] ?_
  refine Aa<|Y<|Cm Et [[],[],[0,1],[0,1,2],[],[],[4,5],[4,5,6],[0,1,2,3,4,5,6,7]] [(false,0),(false,1),(false,2),(false,3),(false,4),(false,5),(false,6),(false,7),(false,8)] (by kernel_rfl)<|Af (.sl 1 (List.map (rI .i64) s1)) J J Ae<|Af (.I (j:Int)) J J Ae<|Af (.cp [(.I a)] 0) J J (By (Do Pu D0 J ha))<|Af (.I a) J J (Aq (Cl D0 J)) ?_
  refine Af (.sl 1 (List.map (rI .i64) s2)) J J Ae<|Af (.I (j:Int)) J J Ae<|Oj fun a1 hz hx1=>Af (.cp [(.I a1)] 0) J J (By (Dl Pu D0 J hz hx1))<|Af (.I a1) J J (Aq (Cl D0 J))<|Af (.bool (a != a1)) J J (Bh J J J)<|Cf ?_
  refine B6 J (fun hc1=>?_) (fun hc1=>?_)
  ·refine Y<|O<|Z (.bool false) J An<|Aa<|Fc<|F5<|Bv (a:=false) (vs:=[(.bool false)]) Tryz.func68 hI J (.same _)
  refine A2<|Bs<|O<|Ab 2 [] [(13,(.I (IntKind.wrap .i64 ((j:Int)+1))))] ?_
  refine Aa<|Br (Fe (hW () _ _ ⟨J,J⟩)) (.cons J (.cons J (.cons J (.cons (D8 (Bc ha) hlim) .nil))))
 rintro _ fr h ⟨rfl,rfl⟩
 refine Al (Fk _ _ _)<|Y<|O<|Z (.bool (decide ((s1.length:Int)<(s1.length:Int)))) J (Bh J J J)<|Aa<|Y<|C6 J (Int.lt_irrefl _) ?_
 refine Db J<|Y<|O<|Z (.bool true) J An<|Aa<|Bv (a:=true) (vs:=[(.bool true)]) Tryz.func68 hI J (.same _)
theorem Zs (a:Sector)(y:Sector):CP Tryz.prog 66 [(.agg (A6 a)),(.agg (A6 y))] (Sq a y) (fun(x:Bool)=>(AV.bool x)):=by
 refine Cq (n:=38) 2 Tryz.func66 J (by decide) J J fun h0 ids hI=>Bo (Al (Sq.eq_1 _ _) ?_)
 refine Y<|O<|Ck (v:=(.agg (A6 a))) (j:=0) hI J J J J J J J fun g=>Ck (v:=(.agg (A6 y))) (j:=1) hI J J J J J J J fun g1=>Z (.bool false) J An<|Aa<|Aj ?_
 refine Y<|O<|Ab 6 [0,1] [(10,(.bool (a.Name==y.Name)))] ?_
 refine C8 6 ((fun(b:Bool)=>(if b then(Hy a.Volumes y.Volumes).bind fun r1=>R.ok r1 else R.ok false).bind (fun(b1:Bool)=>.ok ((b1&&(a.Radar==y.Radar))&&(a.Procedural==y.Procedural)))):Bool→R Bool) (fun(b:Bool) (fr:Nat→AV) (h:Ag)=>fr=A5 [(2,(.q ids 0 g)),(3,(.q ids 1 g1)),(16,(.bool b))]∧h=hp h0 ids [(some (.rows g 5 [(A6 a)])),(some (.rows g1 5 [(A6 y)]))]) ?_ fun hJ=>Dy (fun hb1=>?_) (fun hb1=>?_)
 ·rintro b fr h ⟨rfl,rfl⟩
  refine Z (.bool b) J Ae<|C8 6 ((fun(b1:Bool)=>.ok ((b1&&(a.Radar==y.Radar))&&(a.Procedural==y.Procedural))):Bool→R Bool) (fun(b1:Bool) (fr:Nat→AV) (h:Ag)=>fr=A5 [(2,(.q ids 0 g)),(3,(.q ids 1 g1)),(23,(.bool b1))]∧h=hp h0 ids [(some (.rows g 5 [(A6 a)])),(some (.rows g1 5 [(A6 y)]))]) ?_ fun hJ1=>Dy (fun hb3=>?_) (fun hb3=>?_)
  ·rintro b1 fr h ⟨rfl,rfl⟩
   refine Z (.bool b1) J Ae<|Bw 6 [(2,(.q ids 0 g)),(3,(.q ids 1 g1)),(30,(.bool (b1&&(a.Radar==y.Radar))))] ?_ fun hJ2=>Bq b1 (fun hb5=>?_) (fun hb5=>?_)
   ·refine Z (.bool (b1&&(a.Radar==y.Radar))) J Ae<|Bw 6 [(37,(.bool ((b1&&(a.Radar==y.Radar))&&(a.Procedural==y.Procedural))))] ?_ fun hJ3=>Bq (b1&&(a.Radar==y.Radar)) (fun hb7=>?_) (fun hb7=>?_)
    ·refine Z (.bool ((b1&&(a.Radar==y.Radar))&&(a.Procedural==y.Procedural))) J An<|Aa<|Bv (a:=((b1&&(a.Radar==y.Radar))&&(a.Procedural==y.Procedural))) (vs:=[(.bool ((b1&&(a.Radar==y.Radar))&&(a.Procedural==y.Procedural)))]) Tryz.func66 hI J (.same _)
    ·refine A0 (t:=31) hb7 J<|Ab 6 [0,1] [(37,(.bool (a.Procedural==y.Procedural)))] ?_
     exact Ba hJ3 (.cons (Gp hb7) .nil)
    refine A0 (t:=31) hb7 J<|Ab 6 [] [(37,(.bool false))] ?_
    exact Ba hJ3 (.cons (Gm hb7) .nil)
   ·refine A0 (t:=24) hb5 J<|Ab 6 [0,1] [(30,(.bool (a.Radar==y.Radar)))] ?_
    exact Ba hJ2 (.cons J (.cons J (.cons (Gp hb5) .nil)))
   refine A0 (t:=24) hb5 J<|Ab 6 [] [(30,(.bool false))] ?_
   exact Ba hJ2 (.cons J (.cons J (.cons (Gm hb5) .nil)))
  ·refine A0 (t:=17) hb3 J<|Ab 4 [0,1] [(21,(.sl 1 (List.map (rI .i64) y.Volumes))),(19,(.sl 1 (List.map (rI .i64) a.Volumes)))] ?_
   refine B0 [(.sl 1 (List.map (rI .i64) a.Volumes)),(.sl 1 (List.map (rI .i64) y.Volumes))] J (Cj (tj:=17) J J) J J ((Pl a.Volumes y.Volumes) _) (fun v _=>Cc Tryz.func66 hI) fun r1 _=>Z (.bool r1) J (Fj (t:=true) J J)<|Bn<|Ca [(2,(.q ids 0 g)),(3,(.q ids 1 g1)),(23,(.bool r1))] (FI J)<|hJ1 r1 _ _ ⟨J,J⟩
  refine A0 (t:=17) hb3 J<|Ab 6 [] [(23,(.bool false))] ?_
  refine Bn<|Ca [(2,(.q ids 0 g)),(3,(.q ids 1 g1)),(23,(.bool false))] (FI J)<|hJ1 false _ _ ⟨J,J⟩
 ·refine A0 (t:=10) hb1 J<|Ab 4 [0,1] [(14,(.sl 1 (List.map rS y.Names))),(12,(.sl 1 (List.map rS a.Names)))] ?_
  refine B0 [(.sl 1 (List.map rS a.Names)),(.sl 1 (List.map rS y.Names))] J (Cj (tj:=10) J J) J J ((Nu a.Names y.Names) _) (fun v _=>Cc Tryz.func66 hI) fun r _=>Z (.bool r) J (Fj (t:=true) J J)<|Bn<|Ca [(2,(.q ids 0 g)),(3,(.q ids 1 g1)),(16,(.bool r))] (FI J)<|hJ r _ _ ⟨J,J⟩
 refine A0 (t:=10) hb1 J<|Ab 6 [] [(16,(.bool false))] ?_
 refine Bn<|Ca [(2,(.q ids 0 g)),(3,(.q ids 1 g1)),(16,(.bool false))] (FI J)<|hJ false _ _ ⟨J,J⟩
theorem Lv (s1:List Sector)(s2:List Sector):CP Tryz.prog 65 [(.sl 5 (List.map A6 s1)),(.sl 5 (List.map A6 s2)),(.func (.func 66) [] [])] (E6 s1 s2) (fun(x:Bool)=>(AV.bool x)):=by
 refine Cq (n:=32) 2 Tryz.func65 J (by decide) J J fun h0 ids hI=>Bo (Al (E6.eq_1 _ _) ?_)
 refine Y<|O<|Z (.bool false) J An<|Aa<|Y<|Y<|O ?_
 refine Z (.sl 5 (List.map A6 s1)) J Ae<|Z (.I (s1.length:Int)) J (Ay (A8 Fr))<|Z (.sl 5 (List.map A6 s2)) J Ae<|Z (.I (s2.length:Int)) J (Ay (A8 Fr))<|Z (.bool ((s1.length:Int) != (s2.length:Int))) J (Bh J J J)<|Aa<|B6 J (fun hc=>?_) (fun hc=>?_)
 ·refine Y<|O<|Z (.bool false) J An<|Aa<|Bv (a:=false) (vs:=[(.bool false)]) Tryz.func65 hI J (.same _)
 refine A2<|Y<|Y<|O<|Z (.sl 5 (List.map A6 s1)) J Ae<|Z (.I (s1.length:Int)) J (Ay (A8 Fr))<|Z (.I 0) J Ae ?_
 refine Aa<|Bf<|Ea [(1,(.sl 5 (List.map A6 s2))),(2,(.func (.func 66) [] [])),(15,(.sl 5 (List.map A6 s1))),(16,(.I (s1.length:Int))),(17,(.I 0))] (FI J)<|Ep (P:=Tryz.prog) s1 (fun j a=>fun _=>Dv s2 j a) ((Dp (fun _=>.ok true) (fun r=>.ok r)):(Unit ⊕ Bool)→R Bool) (fun j=>fun _=>fun(fr:Nat→AV) (h:Ag)=>fr=A5 [(1,(.sl 5 (List.map A6 s2))),(2,(.func (.func 66) [] [])),(15,(.sl 5 (List.map A6 s1))),(16,(.I (s1.length:Int))),(17,(.I (j:Int)))]∧h=hp h0 ids [none,none]) () ?_ ?_ ?_
 ·exact⟨J,J⟩
 ·rintro j a ha W hW _ fr h ⟨rfl,rfl⟩
  refine Al (m':=Dv s2 j a) J (Al (Dv.eq_1 _ _ _) ?_)
  refine Y<|O<|Z (.bool (decide ((j:Int)<(s1.length:Int)))) J (Bh J J J)<|Aa<|Y<|Eb (t:=15) (L:=s1) J fun hlim=>C7 J (Int.ofNat_lt.2 (Bc ha)) ?_
  refine A2<|Y<|Bf<|Y<|O<|Z (.I (j:Int)) J Ae<|Z (.cp (A6 a) 0) J (By (Do Fr Gq J ha)) ?_
  refine Z (.agg (A6 a)) J (Aq (Cl Gq J))<|Bg (j:=0) hI J J J J Gq J fun g=>Z (.I (j:Int)) J An<|Ar (Ax (v:=(.agg (A6 a))) hI J J J J Gq J J J J J)<|Aa<|Aj ?_
  refine Y<|O<|Ab 2 [] [(23,(.I (j:Int))),(22,(.sl 5 (List.map A6 s2)))] ?_
  refine Ek fun a1 hz hx1=>Z (.cp (A6 a1) 0) J (By (Dl Fr Gq J hz hx1))<|Z (.agg (A6 a1)) J (Aq (Cl Gq J))<|Bg (j:=1) hI J J J J Gq J fun g1=>Ar (Ax (v:=(.agg (A6 a1))) hI J J J J Gq J J J J J)<|Aa<|Aj ?_
  refine Y<|O<|Ab 3 [0,1] [(28,(.agg (A6 a1))),(27,(.agg (A6 a))),(26,(.func (.func 66) [] []))] ?_
  refine B0 [(.agg (A6 a)),(.agg (A6 a1))] J J J J ((Zs a a1) _) (fun v _=>Cc Tryz.func65 hI) fun r _=>Z (.bool (!r)) J (Pn J)<|Aa<|D1 J (fun hc1=>?_) (fun hc1=>?_)
  ·refine A2<|Bs<|O<|Ab 2 [] [(17,(.I (IntKind.wrap .i64 ((j:Int)+1))))] ?_
   refine Aa<|Eo [none,none] hI J (.drop (.drop .nil))<|Br (Fe (hW () _ _ ⟨J,J⟩)) (.cons J (.cons J (.cons J (.cons J (.cons (D8 (Bc ha) hlim) .nil)))))
  refine Y<|O<|Z (.bool false) J An<|Aa<|Fc<|F5<|Bv (a:=false) (vs:=[(.bool false)]) Tryz.func65 hI J (.same _)
 rintro _ fr h ⟨rfl,rfl⟩
 refine Al (Fk _ _ _)<|Y<|O<|Z (.bool (decide ((s1.length:Int)<(s1.length:Int)))) J (Bh J J J)<|Aa<|Y<|C6 J (Int.lt_irrefl _) ?_
 refine Db J<|Y<|O<|Z (.bool true) J An<|Aa<|Bv (a:=true) (vs:=[(.bool true)]) Tryz.func65 hI J (.same _)
theorem Zv (a:Config)(y:Config):CP Tryz.prog 70 [(.agg (Bk a)),(.agg (Bk y))] (Ss a y) (fun(x:Bool)=>(AV.bool x)):=by
 refine Cq (n:=24) 2 Tryz.func70 J (by decide) J J fun h0 ids hI=>Bo (Al (Ss.eq_1 _ _) ?_)
 refine Y<|O<|Ck (v:=(.agg (Bk a))) (j:=0) hI J J J J J J J fun g=>Ck (v:=(.agg (Bk y))) (j:=1) hI J J J J J J J fun g1=>Z (.bool false) J An<|Aa<|Aj ?_
 refine Y<|O<|Ab 6 [0,1] [(10,(.bool (a.Name==y.Name)))] ?_
 refine C8 6 ((fun(b:Bool)=>(if b then(Hy a.Sectors y.Sectors).bind fun r1=>R.ok r1 else R.ok false).bind (fun(b1:Bool)=>.ok b1)):Bool→R Bool) (fun(b:Bool) (fr:Nat→AV) (h:Ag)=>fr=A5 [(2,(.q ids 0 g)),(3,(.q ids 1 g1)),(16,(.bool b))]∧h=hp h0 ids [(some (.rows g 3 [(Bk a)])),(some (.rows g1 3 [(Bk y)]))]) ?_ fun hJ=>Dy (fun hb1=>?_) (fun hb1=>?_)
 ·rintro b fr h ⟨rfl,rfl⟩
  refine Z (.bool b) J Ae<|C8 6 ((fun(b1:Bool)=>.ok b1):Bool→R Bool) (fun(b1:Bool) (fr:Nat→AV) (h:Ag)=>fr=A5 [(23,(.bool b1))]∧h=hp h0 ids [(some (.rows g 3 [(Bk a)])),(some (.rows g1 3 [(Bk y)]))]) ?_ fun hJ1=>Dy (fun hb3=>?_) (fun hb3=>?_)
  ·rintro b1 fr h ⟨rfl,rfl⟩
   refine Z (.bool b1) J An<|Aa<|Bv (a:=b1) (vs:=[(.bool b1)]) Tryz.func70 hI J (.same _)
  ·refine A0 (t:=17) hb3 J<|Ab 4 [0,1] [(21,(.sl 1 (List.map (rI .i64) y.Sectors))),(19,(.sl 1 (List.map (rI .i64) a.Sectors)))] ?_
   refine B0 [(.sl 1 (List.map (rI .i64) a.Sectors)),(.sl 1 (List.map (rI .i64) y.Sectors))] J (Cj (tj:=17) J J) J J ((Pl a.Sectors y.Sectors) _) (fun v _=>Cc Tryz.func70 hI) fun r1 _=>Z (.bool r1) J (Fj (t:=true) J J)<|Bn<|Ca [(23,(.bool r1))] (FI J)<|hJ1 r1 _ _ ⟨J,J⟩
  refine A0 (t:=17) hb3 J<|Ab 6 [] [(23,(.bool false))] ?_
  refine Bn<|Ca [(23,(.bool false))] (FI J)<|hJ1 false _ _ ⟨J,J⟩
 ·refine A0 (t:=10) hb1 J<|Ab 4 [0,1] [(14,(.sl 1 (List.map rS y.Names))),(12,(.sl 1 (List.map rS a.Names)))] ?_
  refine B0 [(.sl 1 (List.map rS a.Names)),(.sl 1 (List.map rS y.Names))] J (Cj (tj:=10) J J) J J ((Nu a.Names y.Names) _) (fun v _=>Cc Tryz.func70 hI) fun r _=>Z (.bool r) J (Fj (t:=true) J J)<|Bn<|Ca [(2,(.q ids 0 g)),(3,(.q ids 1 g1)),(16,(.bool r))] (FI J)<|hJ r _ _ ⟨J,J⟩
 refine A0 (t:=10) hb1 J<|Ab 6 [] [(16,(.bool false))] ?_
 refine Bn<|Ca [(2,(.q ids 0 g)),(3,(.q ids 1 g1)),(16,(.bool false))] (FI J)<|hJ false _ _ ⟨J,J⟩
theorem Lr (s1:List Config)(s2:List Config):CP Tryz.prog 69 [(.sl 3 (List.map Bk s1)),(.sl 3 (List.map Bk s2)),(.func (.func 70) [] [])] (D5 s1 s2) (fun(x:Bool)=>(AV.bool x)):=by
 refine Cq (n:=32) 2 Tryz.func69 J (by decide) J J fun h0 ids hI=>Bo (Al (D5.eq_1 _ _) ?_)
 refine Y<|O<|Z (.bool false) J An<|Aa<|Y<|Y<|O ?_
 refine Z (.sl 3 (List.map Bk s1)) J Ae<|Z (.I (s1.length:Int)) J (Ay (A8 Gl))<|Z (.sl 3 (List.map Bk s2)) J Ae<|Z (.I (s2.length:Int)) J (Ay (A8 Gl))<|Z (.bool ((s1.length:Int) != (s2.length:Int))) J (Bh J J J)<|Aa<|B6 J (fun hc=>?_) (fun hc=>?_)
 ·refine Y<|O<|Z (.bool false) J An<|Aa<|Bv (a:=false) (vs:=[(.bool false)]) Tryz.func69 hI J (.same _)
 refine A2<|Y<|Y<|O<|Z (.sl 3 (List.map Bk s1)) J Ae<|Z (.I (s1.length:Int)) J (Ay (A8 Gl))<|Z (.I 0) J Ae ?_
 refine Aa<|Bf<|Ea [(1,(.sl 3 (List.map Bk s2))),(2,(.func (.func 70) [] [])),(15,(.sl 3 (List.map Bk s1))),(16,(.I (s1.length:Int))),(17,(.I 0))] (FI J)<|Ep (P:=Tryz.prog) s1 (fun j a=>fun _=>Dw s2 j a) ((Dp (fun _=>.ok true) (fun r=>.ok r)):(Unit ⊕ Bool)→R Bool) (fun j=>fun _=>fun(fr:Nat→AV) (h:Ag)=>fr=A5 [(1,(.sl 3 (List.map Bk s2))),(2,(.func (.func 70) [] [])),(15,(.sl 3 (List.map Bk s1))),(16,(.I (s1.length:Int))),(17,(.I (j:Int)))]∧h=hp h0 ids [none,none]) () ?_ ?_ ?_
 ·exact⟨J,J⟩
 ·rintro j a ha W hW _ fr h ⟨rfl,rfl⟩
  refine Al (m':=Dw s2 j a) J (Al (Dw.eq_1 _ _ _) ?_)
  refine Y<|O<|Z (.bool (decide ((j:Int)<(s1.length:Int)))) J (Bh J J J)<|Aa<|Y<|Eb (t:=15) (L:=s1) J fun hlim=>C7 J (Int.ofNat_lt.2 (Bc ha)) ?_
  refine A2<|Y<|Bf<|Y<|O<|Z (.I (j:Int)) J Ae<|Z (.cp (Bk a) 0) J (By (Do Gl Jg J ha)) ?_
  refine Z (.agg (Bk a)) J (Aq (Cl Jg J))<|Bg (j:=0) hI J J J J Jg J fun g=>Z (.I (j:Int)) J An<|Ar (Ax (v:=(.agg (Bk a))) hI J J J J Jg J J J J J)<|Aa<|Aj ?_
  refine Y<|O<|Ab 2 [] [(23,(.I (j:Int))),(22,(.sl 3 (List.map Bk s2)))] ?_
  refine Ek fun a1 hz hx1=>Z (.cp (Bk a1) 0) J (By (Dl Gl Jg J hz hx1))<|Z (.agg (Bk a1)) J (Aq (Cl Jg J))<|Bg (j:=1) hI J J J J Jg J fun g1=>Ar (Ax (v:=(.agg (Bk a1))) hI J J J J Jg J J J J J)<|Aa<|Aj ?_
  refine Y<|O<|Ab 3 [0,1] [(28,(.agg (Bk a1))),(27,(.agg (Bk a))),(26,(.func (.func 70) [] []))] ?_
  refine B0 [(.agg (Bk a)),(.agg (Bk a1))] J J J J ((Zv a a1) _) (fun v _=>Cc Tryz.func69 hI) fun r _=>Z (.bool (!r)) J (Pn J)<|Aa<|D1 J (fun hc1=>?_) (fun hc1=>?_)
  ·refine A2<|Bs<|O<|Ab 2 [] [(17,(.I (IntKind.wrap .i64 ((j:Int)+1))))] ?_
   refine Aa<|Eo [none,none] hI J (.drop (.drop .nil))<|Br (Fe (hW () _ _ ⟨J,J⟩)) (.cons J (.cons J (.cons J (.cons J (.cons (D8 (Bc ha) hlim) .nil)))))
  refine Y<|O<|Z (.bool false) J An<|Aa<|Fc<|F5<|Bv (a:=false) (vs:=[(.bool false)]) Tryz.func69 hI J (.same _)
 rintro _ fr h ⟨rfl,rfl⟩
 refine Al (Fk _ _ _)<|Y<|O<|Z (.bool (decide ((s1.length:Int)<(s1.length:Int)))) J (Bh J J J)<|Aa<|Y<|C6 J (Int.lt_irrefl _) ?_
 refine Db J<|Y<|O<|Z (.bool true) J An<|Aa<|Bv (a:=true) (vs:=[(.bool true)]) Tryz.func69 hI J (.same _)
theorem Zx (a:Segment)(y:Segment):CP Tryz.prog 72 [(.agg (Bd a)),(.agg (Bd y))] (Sl a y) (fun(x:Bool)=>(AV.bool x)):=by
 refine Cq (n:=38) 2 Tryz.func72 J (by decide) J J fun h0 ids hI=>Bo (Al (Sl.eq_1 _ _) ?_)
 refine Y<|O<|Ck (v:=(.agg (Bd a))) (j:=0) hI J J J J J J J fun g=>Ck (v:=(.agg (Bd y))) (j:=1) hI J J J J J J J fun g1=>Z (.bool false) J An<|Aa<|Aj ?_
 refine Y<|O<|Ab 6 [0,1] [(10,(.bool (a.Name==y.Name)))] ?_
 refine Bw 6 [(2,(.q ids 0 g)),(3,(.q ids 1 g1)),(16,(.bool ((a.Name==y.Name)&&(a.In==y.In))))] ?_ fun hJ=>Bq (a.Name==y.Name) (fun hb1=>?_) (fun hb1=>?_)
 ·refine Z (.bool ((a.Name==y.Name)&&(a.In==y.In))) J Ae<|Bw 6 [(2,(.q ids 0 g)),(3,(.q ids 1 g1)),(23,(.bool (((a.Name==y.Name)&&(a.In==y.In))&&(a.Volume==y.Volume))))] ?_ fun hJ1=>Bq ((a.Name==y.Name)&&(a.In==y.In)) (fun hb3=>?_) (fun hb3=>?_)
  ·refine Z (.bool (((a.Name==y.Name)&&(a.In==y.In))&&(a.Volume==y.Volume))) J Ae<|Bw 6 [(2,(.q ids 0 g)),(3,(.q ids 1 g1)),(30,(.bool ((((a.Name==y.Name)&&(a.In==y.In))&&(a.Volume==y.Volume))&&(a.Length==y.Length))))] ?_ fun hJ2=>Bq (((a.Name==y.Name)&&(a.In==y.In))&&(a.Volume==y.Volume)) (fun hb5=>?_) (fun hb5=>?_)
   ·refine Z (.bool ((((a.Name==y.Name)&&(a.In==y.In))&&(a.Volume==y.Volume))&&(a.Length==y.Length))) J Ae<|C8 6 ((fun(b:Bool)=>.ok b):Bool→R Bool) (fun(b:Bool) (fr:Nat→AV) (h:Ag)=>fr=A5 [(37,(.bool b))]∧h=hp h0 ids [(some (.rows g 5 [(Bd a)])),(some (.rows g1 5 [(Bd y)]))]) ?_ fun hJ3=>Dy (fun hb7=>?_) (fun hb7=>?_)
    ·rintro b fr h ⟨rfl,rfl⟩
     refine Z (.bool b) J An<|Aa<|Bv (a:=b) (vs:=[(.bool b)]) Tryz.func72 hI J (.same _)
    ·refine A0 (t:=31) hb7 J<|Ab 4 [0,1] [(35,(.sl 2 (List.map B5 y.Open))),(33,(.sl 2 (List.map B5 a.Open)))] ?_
     refine B0 [(.sl 2 (List.map B5 a.Open)),(.sl 2 (List.map B5 y.Open))] J (Cj (tj:=31) J J) J J ((Ro a.Open y.Open) _) (fun v _=>Cc Tryz.func72 hI) fun r _=>Z (.bool r) J (Fj (t:=true) J J)<|Bn<|Ca [(37,(.bool r))] (FI J)<|hJ3 r _ _ ⟨J,J⟩
    refine A0 (t:=31) hb7 J<|Ab 6 [] [(37,(.bool false))] ?_
    refine Bn<|Ca [(37,(.bool false))] (FI J)<|hJ3 false _ _ ⟨J,J⟩
   ·refine A0 (t:=24) hb5 J<|Ab 6 [0,1] [(30,(.bool (a.Length==y.Length)))] ?_
    exact Ba hJ2 (.cons J (.cons J (.cons (Gp hb5) .nil)))
   refine A0 (t:=24) hb5 J<|Ab 6 [] [(30,(.bool false))] ?_
   exact Ba hJ2 (.cons J (.cons J (.cons (Gm hb5) .nil)))
  ·refine A0 (t:=17) hb3 J<|Ab 6 [0,1] [(23,(.bool (a.Volume==y.Volume)))] ?_
   exact Ba hJ1 (.cons J (.cons J (.cons (Gp hb3) .nil)))
  refine A0 (t:=17) hb3 J<|Ab 6 [] [(23,(.bool false))] ?_
  exact Ba hJ1 (.cons J (.cons J (.cons (Gm hb3) .nil)))
 ·refine A0 (t:=10) hb1 J<|Ab 6 [0,1] [(16,(.bool (a.In==y.In)))] ?_
  exact Ba hJ (.cons J (.cons J (.cons (Gp hb1) .nil)))
 refine A0 (t:=10) hb1 J<|Ab 6 [] [(16,(.bool false))] ?_
 exact Ba hJ (.cons J (.cons J (.cons (Gm hb1) .nil)))
theorem K4 (s1:List Segment)(s2:List Segment):CP Tryz.prog 71 [(.sl 5 (List.map Bd s1)),(.sl 5 (List.map Bd s2)),(.func (.func 72) [] [])] (C5 s1 s2) (fun(x:Bool)=>(AV.bool x)):=by
 refine Cq (n:=32) 2 Tryz.func71 J (by decide) J J fun h0 ids hI=>Bo (Al (C5.eq_1 _ _) ?_)
 refine Y<|O<|Z (.bool false) J An<|Aa<|Y<|Y<|O ?_
 refine Z (.sl 5 (List.map Bd s1)) J Ae<|Z (.I (s1.length:Int)) J (Ay (A8 Gk))<|Z (.sl 5 (List.map Bd s2)) J Ae<|Z (.I (s2.length:Int)) J (Ay (A8 Gk))<|Z (.bool ((s1.length:Int) != (s2.length:Int))) J (Bh J J J)<|Aa<|B6 J (fun hc=>?_) (fun hc=>?_)
 ·refine Y<|O<|Z (.bool false) J An<|Aa<|Bv (a:=false) (vs:=[(.bool false)]) Tryz.func71 hI J (.same _)
 refine A2<|Y<|Y<|O<|Z (.sl 5 (List.map Bd s1)) J Ae<|Z (.I (s1.length:Int)) J (Ay (A8 Gk))<|Z (.I 0) J Ae ?_
 refine Aa<|Bf<|Ea [(1,(.sl 5 (List.map Bd s2))),(2,(.func (.func 72) [] [])),(15,(.sl 5 (List.map Bd s1))),(16,(.I (s1.length:Int))),(17,(.I 0))] (FI J)<|Ep (P:=Tryz.prog) s1 (fun j a=>fun _=>Dj s2 j a) ((Dp (fun _=>.ok true) (fun r=>.ok r)):(Unit ⊕ Bool)→R Bool) (fun j=>fun _=>fun(fr:Nat→AV) (h:Ag)=>fr=A5 [(1,(.sl 5 (List.map Bd s2))),(2,(.func (.func 72) [] [])),(15,(.sl 5 (List.map Bd s1))),(16,(.I (s1.length:Int))),(17,(.I (j:Int)))]∧h=hp h0 ids [none,none]) () ?_ ?_ ?_
 ·exact⟨J,J⟩
 ·rintro j a ha W hW _ fr h ⟨rfl,rfl⟩
  refine Al (m':=Dj s2 j a) J (Al (Dj.eq_1 _ _ _) ?_)
  refine Y<|O<|Z (.bool (decide ((j:Int)<(s1.length:Int)))) J (Bh J J J)<|Aa<|Y<|Eb (t:=15) (L:=s1) J fun hlim=>C7 J (Int.ofNat_lt.2 (Bc ha)) ?_
  refine A2<|Y<|Bf<|Y<|O<|Z (.I (j:Int)) J Ae<|Z (.cp (Bd a) 0) J (By (Do Gk Hq J ha)) ?_
  refine Z (.agg (Bd a)) J (Aq (Cl Hq J))<|Bg (j:=0) hI J J J J Hq J fun g=>Z (.I (j:Int)) J An<|Ar (Ax (v:=(.agg (Bd a))) hI J J J J Hq J J J J J)<|Aa<|Aj ?_
  refine Y<|O<|Ab 2 [] [(23,(.I (j:Int))),(22,(.sl 5 (List.map Bd s2)))] ?_
  refine Ek fun a1 hz hx1=>Z (.cp (Bd a1) 0) J (By (Dl Gk Hq J hz hx1))<|Z (.agg (Bd a1)) J (Aq (Cl Hq J))<|Bg (j:=1) hI J J J J Hq J fun g1=>Ar (Ax (v:=(.agg (Bd a1))) hI J J J J Hq J J J J J)<|Aa<|Aj ?_
  refine Y<|O<|Ab 3 [0,1] [(28,(.agg (Bd a1))),(27,(.agg (Bd a))),(26,(.func (.func 72) [] []))] ?_
  refine B0 [(.agg (Bd a)),(.agg (Bd a1))] J J J J ((Zx a a1) _) (fun v _=>Cc Tryz.func71 hI) fun r _=>Z (.bool (!r)) J (Pn J)<|Aa<|D1 J (fun hc1=>?_) (fun hc1=>?_)
  ·refine A2<|Bs<|O<|Ab 2 [] [(17,(.I (IntKind.wrap .i64 ((j:Int)+1))))] ?_
   refine Aa<|Eo [none,none] hI J (.drop (.drop .nil))<|Br (Fe (hW () _ _ ⟨J,J⟩)) (.cons J (.cons J (.cons J (.cons J (.cons (D8 (Bc ha) hlim) .nil)))))
  refine Y<|O<|Z (.bool false) J An<|Aa<|Fc<|F5<|Bv (a:=false) (vs:=[(.bool false)]) Tryz.func71 hI J (.same _)
 rintro _ fr h ⟨rfl,rfl⟩
 refine Al (Fk _ _ _)<|Y<|O<|Z (.bool (decide ((s1.length:Int)<(s1.length:Int)))) J (Bh J J J)<|Aa<|Y<|C6 J (Int.lt_irrefl _) ?_
 refine Db J<|Y<|O<|Z (.bool true) J An<|Aa<|Bv (a:=true) (vs:=[(.bool true)]) Tryz.func71 hI J (.same _)
theorem Zw (a:Route)(y:Route):CP Tryz.prog 74 [(.agg (Bt a)),(.agg (Bt y))] (Sa a y) (fun(x:Bool)=>(AV.bool x)):=by
 refine Cq (n:=52) 2 Tryz.func74 J (by decide) J J fun h0 ids hI=>Bo (Al (Sa.eq_1 _ _) ?_)
 refine Y<|O<|Ck (v:=(.agg (Bt a))) (j:=0) hI J J J J J J J fun g=>Ck (v:=(.agg (Bt y))) (j:=1) hI J J J J J J J fun g1=>Z (.bool false) J An<|Aa<|Aj ?_
 refine Y<|O<|Ab 6 [0,1] [(10,(.bool (a.Name==y.Name)))] ?_
 refine Bw 6 [(2,(.q ids 0 g)),(3,(.q ids 1 g1)),(16,(.bool ((a.Name==y.Name)&&(a.A==y.A))))] ?_ fun hJ=>Bq (a.Name==y.Name) (fun hb1=>?_) (fun hb1=>?_)
 ·refine Z (.bool ((a.Name==y.Name)&&(a.A==y.A))) J Ae<|Bw 6 [(2,(.q ids 0 g)),(3,(.q ids 1 g1)),(23,(.bool (((a.Name==y.Name)&&(a.A==y.A))&&(a.B==y.B))))] ?_ fun hJ1=>Bq ((a.Name==y.Name)&&(a.A==y.A)) (fun hb3=>?_) (fun hb3=>?_)
  ·refine Z (.bool (((a.Name==y.Name)&&(a.A==y.A))&&(a.B==y.B))) J Ae<|Bw 6 [(2,(.q ids 0 g)),(3,(.q ids 1 g1)),(30,(.bool ((((a.Name==y.Name)&&(a.A==y.A))&&(a.B==y.B))&&(a.From==y.From))))] ?_ fun hJ2=>Bq (((a.Name==y.Name)&&(a.A==y.A))&&(a.B==y.B)) (fun hb5=>?_) (fun hb5=>?_)
   ·refine Z (.bool ((((a.Name==y.Name)&&(a.A==y.A))&&(a.B==y.B))&&(a.From==y.From))) J Ae<|Bw 6 [(2,(.q ids 0 g)),(3,(.q ids 1 g1)),(37,(.bool (((((a.Name==y.Name)&&(a.A==y.A))&&(a.B==y.B))&&(a.From==y.From))&&(a.To==y.To))))] ?_ fun hJ3=>Bq ((((a.Name==y.Name)&&(a.A==y.A))&&(a.B==y.B))&&(a.From==y.From)) (fun hb7=>?_) (fun hb7=>?_)
    ·refine Z (.bool (((((a.Name==y.Name)&&(a.A==y.A))&&(a.B==y.B))&&(a.From==y.From))&&(a.To==y.To))) J Ae<|C8 6 ((fun(b:Bool)=>(if b then(Hy a.Segments y.Segments).bind fun r1=>R.ok r1 else R.ok false).bind (fun(b1:Bool)=>.ok b1)):Bool→R Bool) (fun(b:Bool) (fr:Nat→AV) (h:Ag)=>fr=A5 [(2,(.q ids 0 g)),(3,(.q ids 1 g1)),(44,(.bool b))]∧h=hp h0 ids [(some (.rows g 7 [(Bt a)])),(some (.rows g1 7 [(Bt y)]))]) ?_ fun hJ4=>Dy (fun hb9=>?_) (fun hb9=>?_)
     ·rintro b fr h ⟨rfl,rfl⟩
      refine Z (.bool b) J Ae<|C8 6 ((fun(b1:Bool)=>.ok b1):Bool→R Bool) (fun(b1:Bool) (fr:Nat→AV) (h:Ag)=>fr=A5 [(51,(.bool b1))]∧h=hp h0 ids [(some (.rows g 7 [(Bt a)])),(some (.rows g1 7 [(Bt y)]))]) ?_ fun hJ5=>Dy (fun hb11=>?_) (fun hb11=>?_)
      ·rintro b1 fr h ⟨rfl,rfl⟩
       refine Z (.bool b1) J An<|Aa<|Bv (a:=b1) (vs:=[(.bool b1)]) Tryz.func74 hI J (.same _)
      ·refine A0 (t:=45) hb11 J<|Ab 4 [0,1] [(49,(.sl 1 (List.map (rI .i64) y.Segments))),(47,(.sl 1 (List.map (rI .i64) a.Segments)))] ?_
       refine B0 [(.sl 1 (List.map (rI .i64) a.Segments)),(.sl 1 (List.map (rI .i64) y.Segments))] J (Cj (tj:=45) J J) J J ((Pl a.Segments y.Segments) _) (fun v _=>Cc Tryz.func74 hI) fun r1 _=>Z (.bool r1) J (Fj (t:=true) J J)<|Bn<|Ca [(51,(.bool r1))] (FI J)<|hJ5 r1 _ _ ⟨J,J⟩
      refine A0 (t:=45) hb11 J<|Ab 6 [] [(51,(.bool false))] ?_
      refine Bn<|Ca [(51,(.bool false))] (FI J)<|hJ5 false _ _ ⟨J,J⟩
     ·refine A0 (t:=38) hb9 J<|Ab 4 [0,1] [(42,(.sl 1 (List.map rS y.Names))),(40,(.sl 1 (List.map rS a.Names)))] ?_
      refine B0 [(.sl 1 (List.map rS a.Names)),(.sl 1 (List.map rS y.Names))] J (Cj (tj:=38) J J) J J ((Nu a.Names y.Names) _) (fun v _=>Cc Tryz.func74 hI) fun r _=>Z (.bool r) J (Fj (t:=true) J J)<|Bn<|Ca [(2,(.q ids 0 g)),(3,(.q ids 1 g1)),(44,(.bool r))] (FI J)<|hJ4 r _ _ ⟨J,J⟩
     refine A0 (t:=38) hb9 J<|Ab 6 [] [(44,(.bool false))] ?_
     refine Bn<|Ca [(2,(.q ids 0 g)),(3,(.q ids 1 g1)),(44,(.bool false))] (FI J)<|hJ4 false _ _ ⟨J,J⟩
    ·refine A0 (t:=31) hb7 J<|Ab 6 [0,1] [(37,(.bool (a.To==y.To)))] ?_
     exact Ba hJ3 (.cons J (.cons J (.cons (Gp hb7) .nil)))
    refine A0 (t:=31) hb7 J<|Ab 6 [] [(37,(.bool false))] ?_
    exact Ba hJ3 (.cons J (.cons J (.cons (Gm hb7) .nil)))
   ·refine A0 (t:=24) hb5 J<|Ab 6 [0,1] [(30,(.bool (a.From==y.From)))] ?_
    exact Ba hJ2 (.cons J (.cons J (.cons (Gp hb5) .nil)))
   refine A0 (t:=24) hb5 J<|Ab 6 [] [(30,(.bool false))] ?_
   exact Ba hJ2 (.cons J (.cons J (.cons (Gm hb5) .nil)))
  ·refine A0 (t:=17) hb3 J<|Ab 6 [0,1] [(23,(.bool (a.B==y.B)))] ?_
   exact Ba hJ1 (.cons J (.cons J (.cons (Gp hb3) .nil)))
  refine A0 (t:=17) hb3 J<|Ab 6 [] [(23,(.bool false))] ?_
  exact Ba hJ1 (.cons J (.cons J (.cons (Gm hb3) .nil)))
 ·refine A0 (t:=10) hb1 J<|Ab 6 [0,1] [(16,(.bool (a.A==y.A)))] ?_
  exact Ba hJ (.cons J (.cons J (.cons (Gp hb1) .nil)))
 refine A0 (t:=10) hb1 J<|Ab 6 [] [(16,(.bool false))] ?_
 exact Ba hJ (.cons J (.cons J (.cons (Gm hb1) .nil)))
theorem Mj (s1:List Route)(s2:List Route):CP Tryz.prog 73 [(.sl 7 (List.map Bt s1)),(.sl 7 (List.map Bt s2)),(.func (.func 74) [] [])] (Cx s1 s2) (fun(x:Bool)=>(AV.bool x)):=by
 refine Cq (n:=32) 2 Tryz.func73 J (by decide) J J fun h0 ids hI=>Bo (Al (Cx.eq_1 _ _) ?_)
 refine Y<|O<|Z (.bool false) J An<|Aa<|Y<|Y<|O ?_
 refine Z (.sl 7 (List.map Bt s1)) J Ae<|Z (.I (s1.length:Int)) J (Ay (A8 Gi))<|Z (.sl 7 (List.map Bt s2)) J Ae<|Z (.I (s2.length:Int)) J (Ay (A8 Gi))<|Z (.bool ((s1.length:Int) != (s2.length:Int))) J (Bh J J J)<|Aa<|B6 J (fun hc=>?_) (fun hc=>?_)
 ·refine Y<|O<|Z (.bool false) J An<|Aa<|Bv (a:=false) (vs:=[(.bool false)]) Tryz.func73 hI J (.same _)
 refine A2<|Y<|Y<|O<|Z (.sl 7 (List.map Bt s1)) J Ae<|Z (.I (s1.length:Int)) J (Ay (A8 Gi))<|Z (.I 0) J Ae ?_
 refine Aa<|Bf<|Ea [(1,(.sl 7 (List.map Bt s2))),(2,(.func (.func 74) [] [])),(15,(.sl 7 (List.map Bt s1))),(16,(.I (s1.length:Int))),(17,(.I 0))] (FI J)<|Ep (P:=Tryz.prog) s1 (fun j a=>fun _=>D3 s2 j a) ((Dp (fun _=>.ok true) (fun r=>.ok r)):(Unit ⊕ Bool)→R Bool) (fun j=>fun _=>fun(fr:Nat→AV) (h:Ag)=>fr=A5 [(1,(.sl 7 (List.map Bt s2))),(2,(.func (.func 74) [] [])),(15,(.sl 7 (List.map Bt s1))),(16,(.I (s1.length:Int))),(17,(.I (j:Int)))]∧h=hp h0 ids [none,none]) () ?_ ?_ ?_
 ·exact⟨J,J⟩
 ·rintro j a ha W hW _ fr h ⟨rfl,rfl⟩
  refine Al (m':=D3 s2 j a) J (Al (D3.eq_1 _ _ _) ?_)
  refine Y<|O<|Z (.bool (decide ((j:Int)<(s1.length:Int)))) J (Bh J J J)<|Aa<|Y<|Eb (t:=15) (L:=s1) J fun hlim=>C7 J (Int.ofNat_lt.2 (Bc ha)) ?_
  refine A2<|Y<|Bf<|Y<|O<|Z (.I (j:Int)) J Ae<|Z (.cp (Bt a) 0) J (By (Do Gi Hp J ha)) ?_
  refine Z (.agg (Bt a)) J (Aq (Cl Hp J))<|Bg (j:=0) hI J J J J Hp J fun g=>Z (.I (j:Int)) J An<|Ar (Ax (v:=(.agg (Bt a))) hI J J J J Hp J J J J J)<|Aa<|Aj ?_
  refine Y<|O<|Ab 2 [] [(23,(.I (j:Int))),(22,(.sl 7 (List.map Bt s2)))] ?_
  refine Ek fun a1 hz hx1=>Z (.cp (Bt a1) 0) J (By (Dl Gi Hp J hz hx1))<|Z (.agg (Bt a1)) J (Aq (Cl Hp J))<|Bg (j:=1) hI J J J J Hp J fun g1=>Ar (Ax (v:=(.agg (Bt a1))) hI J J J J Hp J J J J J)<|Aa<|Aj ?_
  refine Y<|O<|Ab 3 [0,1] [(28,(.agg (Bt a1))),(27,(.agg (Bt a))),(26,(.func (.func 74) [] []))] ?_
  refine B0 [(.agg (Bt a)),(.agg (Bt a1))] J J J J ((Zw a a1) _) (fun v _=>Cc Tryz.func73 hI) fun r _=>Z (.bool (!r)) J (Pn J)<|Aa<|D1 J (fun hc1=>?_) (fun hc1=>?_)
  ·refine A2<|Bs<|O<|Ab 2 [] [(17,(.I (IntKind.wrap .i64 ((j:Int)+1))))] ?_
   refine Aa<|Eo [none,none] hI J (.drop (.drop .nil))<|Br (Fe (hW () _ _ ⟨J,J⟩)) (.cons J (.cons J (.cons J (.cons J (.cons (D8 (Bc ha) hlim) .nil)))))
  refine Y<|O<|Z (.bool false) J An<|Aa<|Fc<|F5<|Bv (a:=false) (vs:=[(.bool false)]) Tryz.func73 hI J (.same _)
 rintro _ fr h ⟨rfl,rfl⟩
 refine Al (Fk _ _ _)<|Y<|O<|Z (.bool (decide ((s1.length:Int)<(s1.length:Int)))) J (Bh J J J)<|Aa<|Y<|C6 J (Int.lt_irrefl _) ?_
 refine Db J<|Y<|O<|Z (.bool true) J An<|Aa<|Bv (a:=true) (vs:=[(.bool true)]) Tryz.func73 hI J (.same _)
theorem Xx (s1:List Mode)(s2:List Mode):CP Tryz.prog 77 [(.sl 2 (List.map Dh s1)),(.sl 2 (List.map Dh s2))] (Qh s1 s2) (fun(x:Bool)=>(AV.bool x)):=by
 refine Cq (n:=26) 0 Tryz.func77 J (by decide) J J fun h0 ids hI=>Bo (Al (Qh.eq_1 _ _) ?_)
 refine Y<|O<|Z (.bool false) J An<|Aa<|Y<|Y<|O ?_
 refine Z (.sl 2 (List.map Dh s1)) J Ae<|Z (.I (s1.length:Int)) J (Ay (A8 M6))<|Z (.sl 2 (List.map Dh s2)) J Ae<|Z (.I (s2.length:Int)) J (Ay (A8 M6))<|Z (.bool ((s1.length:Int) != (s2.length:Int))) J (Bh J J J)<|Aa<|B6 J (fun hc=>?_) (fun hc=>?_)
 ·refine Y<|O<|Z (.bool false) J An<|Aa<|Bv (a:=false) (vs:=[(.bool false)]) Tryz.func77 hI J (.same _)
 refine A2<|Y<|Y<|O<|Z (.sl 2 (List.map Dh s1)) J Ae<|Z (.I (s1.length:Int)) J (Ay (A8 M6))<|Z (.I 0) J Ae ?_
 refine Aa<|Bf<|Ea [(0,(.sl 2 (List.map Dh s1))),(1,(.sl 2 (List.map Dh s2))),(12,(.I (s1.length:Int))),(13,(.I 0))] (FI J)<|Ep (P:=Tryz.prog) s1 (fun j a=>fun _=>My s2 j a) ((Dp (fun _=>.ok true) (fun r=>.ok r)):(Unit ⊕ Bool)→R Bool) (fun j=>fun _=>fun(fr:Nat→AV) (h:Ag)=>fr=A5 [(0,(.sl 2 (List.map Dh s1))),(1,(.sl 2 (List.map Dh s2))),(12,(.I (s1.length:Int))),(13,(.I (j:Int)))]∧h=hp h0 ids []) () ?_ ?_ ?_
 ·exact⟨J,J⟩
 ·rintro j a ha W hW _ fr h ⟨rfl,rfl⟩
  refine Al (m':=My s2 j a) J (Al (My.eq_1 _ _ _) ?_)
  refine Y<|O<|Z (.bool (decide ((j:Int)<(s1.length:Int)))) J (Bh J J J)<|Aa<|Y<|Eb (t:=0) (L:=s1) J fun hlim=>C7 J (Int.ofNat_lt.2 (Bc ha)) ?_
  refine A2<|Y<|Bf<|Y<|O<|Ab 2 [] [(5,(.I (j:Int)))] ?_
  refine Aa<|Y<|Cm Et [[],[],[0,1],[0,1,2],[],[],[4,5],[4,5,6],[0,1,2,3,4,5,6,7]] [(false,0),(false,1),(false,2),(false,3),(false,4),(false,5),(false,6),(false,7),(false,8)] (by kernel_rfl)<|Af (.sl 2 (List.map Dh s1)) J J Ae<|Af (.I (j:Int)) J J Ae<|Af (.cp (Dh a) 0) J J (By (Do M6 Oe J ha))<|Af (.agg (Dh a)) J J (Aq (Cl Oe J)) ?_
  refine Af (.sl 2 (List.map Dh s2)) J J Ae<|Af (.I (j:Int)) J J Ae<|Oj fun a1 hz hx1=>Af (.cp (Dh a1) 0) J J (By (Dl M6 Oe J hz hx1))<|Af (.agg (Dh a1)) J J (Aq (Cl Oe J))<|Af (.bool (!((a.Name==a1.Name)&&(a.Places==a1.Places)))) J J (Bh (Ah0 J J) J Aiz)<|Cf ?_
  refine D1 J (fun hc1=>?_) (fun hc1=>?_)
  ·refine A2<|Bs<|O<|Ab 2 [] [(13,(.I (IntKind.wrap .i64 ((j:Int)+1))))] ?_
   refine Aa<|Br (Fe (hW () _ _ ⟨J,J⟩)) (.cons J (.cons J (.cons J (.cons (D8 (Bc ha) hlim) .nil))))
  refine Y<|O<|Z (.bool false) J An<|Aa<|Fc<|F5<|Bv (a:=false) (vs:=[(.bool false)]) Tryz.func77 hI J (.same _)
 rintro _ fr h ⟨rfl,rfl⟩
 refine Al (Fk _ _ _)<|Y<|O<|Z (.bool (decide ((s1.length:Int)<(s1.length:Int)))) J (Bh J J J)<|Aa<|Y<|C6 J (Int.lt_irrefl _) ?_
 refine Db J<|Y<|O<|Z (.bool true) J An<|Aa<|Bv (a:=true) (vs:=[(.bool true)]) Tryz.func77 hI J (.same _)
theorem Zt (a:Airport)(y:Airport):CP Tryz.prog 76 [(.agg (Bb a)),(.agg (Bb y))] (Sd a y) (fun(x:Bool)=>(AV.bool x)):=by
 refine Cq (n:=17) 2 Tryz.func76 J (by decide) J J fun h0 ids hI=>Bo (Al (Sd.eq_1 _ _) ?_)
 refine Y<|O<|Ck (v:=(.agg (Bb a))) (j:=0) hI J J J J J J J fun g=>Ck (v:=(.agg (Bb y))) (j:=1) hI J J J J J J J fun g1=>Z (.bool false) J An<|Aa<|Aj ?_
 refine Y<|O<|Ab 6 [0,1] [(10,(.bool (a.Name==y.Name)))] ?_
 refine C8 6 ((fun(b:Bool)=>.ok b):Bool→R Bool) (fun(b:Bool) (fr:Nat→AV) (h:Ag)=>fr=A5 [(16,(.bool b))]∧h=hp h0 ids [(some (.rows g 2 [(Bb a)])),(some (.rows g1 2 [(Bb y)]))]) ?_ fun hJ=>Dy (fun hb1=>?_) (fun hb1=>?_)
 ·rintro b fr h ⟨rfl,rfl⟩
  refine Z (.bool b) J An<|Aa<|Bv (a:=b) (vs:=[(.bool b)]) Tryz.func76 hI J (.same _)
 ·refine A0 (t:=10) hb1 J<|Ab 4 [0,1] [(14,(.sl 2 (List.map Dh y.Modes))),(12,(.sl 2 (List.map Dh a.Modes)))] ?_
  refine B0 [(.sl 2 (List.map Dh a.Modes)),(.sl 2 (List.map Dh y.Modes))] J (Cj (tj:=10) J J) J J ((Xx a.Modes y.Modes) _) (fun v _=>Cc Tryz.func76 hI) fun r _=>Z (.bool r) J (Fj (t:=true) J J)<|Bn<|Ca [(16,(.bool r))] (FI J)<|hJ r _ _ ⟨J,J⟩
 refine A0 (t:=10) hb1 J<|Ab 6 [] [(16,(.bool false))] ?_
 refine Bn<|Ca [(16,(.bool false))] (FI J)<|hJ false _ _ ⟨J,J⟩
theorem K3 (s1:List Airport)(s2:List Airport):CP Tryz.prog 75 [(.sl 2 (List.map Bb s1)),(.sl 2 (List.map Bb s2)),(.func (.func 76) [] [])] (Cd s1 s2) (fun(x:Bool)=>(AV.bool x)):=by
 refine Cq (n:=32) 2 Tryz.func75 J (by decide) J J fun h0 ids hI=>Bo (Al (Cd.eq_1 _ _) ?_)
 refine Y<|O<|Z (.bool false) J An<|Aa<|Y<|Y<|O ?_
 refine Z (.sl 2 (List.map Bb s1)) J Ae<|Z (.I (s1.length:Int)) J (Ay (A8 F6))<|Z (.sl 2 (List.map Bb s2)) J Ae<|Z (.I (s2.length:Int)) J (Ay (A8 F6))<|Z (.bool ((s1.length:Int) != (s2.length:Int))) J (Bh J J J)<|Aa<|B6 J (fun hc=>?_) (fun hc=>?_)
 ·refine Y<|O<|Z (.bool false) J An<|Aa<|Bv (a:=false) (vs:=[(.bool false)]) Tryz.func75 hI J (.same _)
 refine A2<|Y<|Y<|O<|Z (.sl 2 (List.map Bb s1)) J Ae<|Z (.I (s1.length:Int)) J (Ay (A8 F6))<|Z (.I 0) J Ae ?_
 refine Aa<|Bf<|Ea [(1,(.sl 2 (List.map Bb s2))),(2,(.func (.func 76) [] [])),(15,(.sl 2 (List.map Bb s1))),(16,(.I (s1.length:Int))),(17,(.I 0))] (FI J)<|Ep (P:=Tryz.prog) s1 (fun j a=>fun _=>Di s2 j a) ((Dp (fun _=>.ok true) (fun r=>.ok r)):(Unit ⊕ Bool)→R Bool) (fun j=>fun _=>fun(fr:Nat→AV) (h:Ag)=>fr=A5 [(1,(.sl 2 (List.map Bb s2))),(2,(.func (.func 76) [] [])),(15,(.sl 2 (List.map Bb s1))),(16,(.I (s1.length:Int))),(17,(.I (j:Int)))]∧h=hp h0 ids [none,none]) () ?_ ?_ ?_
 ·exact⟨J,J⟩
 ·rintro j a ha W hW _ fr h ⟨rfl,rfl⟩
  refine Al (m':=Di s2 j a) J (Al (Di.eq_1 _ _ _) ?_)
  refine Y<|O<|Z (.bool (decide ((j:Int)<(s1.length:Int)))) J (Bh J J J)<|Aa<|Y<|Eb (t:=15) (L:=s1) J fun hlim=>C7 J (Int.ofNat_lt.2 (Bc ha)) ?_
  refine A2<|Y<|Bf<|Y<|O<|Z (.I (j:Int)) J Ae<|Z (.cp (Bb a) 0) J (By (Do F6 Hr J ha)) ?_
  refine Z (.agg (Bb a)) J (Aq (Cl Hr J))<|Bg (j:=0) hI J J J J Hr J fun g=>Z (.I (j:Int)) J An<|Ar (Ax (v:=(.agg (Bb a))) hI J J J J Hr J J J J J)<|Aa<|Aj ?_
  refine Y<|O<|Ab 2 [] [(23,(.I (j:Int))),(22,(.sl 2 (List.map Bb s2)))] ?_
  refine Ek fun a1 hz hx1=>Z (.cp (Bb a1) 0) J (By (Dl F6 Hr J hz hx1))<|Z (.agg (Bb a1)) J (Aq (Cl Hr J))<|Bg (j:=1) hI J J J J Hr J fun g1=>Ar (Ax (v:=(.agg (Bb a1))) hI J J J J Hr J J J J J)<|Aa<|Aj ?_
  refine Y<|O<|Ab 3 [0,1] [(28,(.agg (Bb a1))),(27,(.agg (Bb a))),(26,(.func (.func 76) [] []))] ?_
  refine B0 [(.agg (Bb a)),(.agg (Bb a1))] J J J J ((Zt a a1) _) (fun v _=>Cc Tryz.func75 hI) fun r _=>Z (.bool (!r)) J (Pn J)<|Aa<|D1 J (fun hc1=>?_) (fun hc1=>?_)
  ·refine A2<|Bs<|O<|Ab 2 [] [(17,(.I (IntKind.wrap .i64 ((j:Int)+1))))] ?_
   refine Aa<|Eo [none,none] hI J (.drop (.drop .nil))<|Br (Fe (hW () _ _ ⟨J,J⟩)) (.cons J (.cons J (.cons J (.cons J (.cons (D8 (Bc ha) hlim) .nil)))))
  refine Y<|O<|Z (.bool false) J An<|Aa<|Fc<|F5<|Bv (a:=false) (vs:=[(.bool false)]) Tryz.func75 hI J (.same _)
 rintro _ fr h ⟨rfl,rfl⟩
 refine Al (Fk _ _ _)<|Y<|O<|Z (.bool (decide ((s1.length:Int)<(s1.length:Int)))) J (Bh J J J)<|Aa<|Y<|C6 J (Int.lt_irrefl _) ?_
 refine Db J<|Y<|O<|Z (.bool true) J An<|Aa<|Bv (a:=true) (vs:=[(.bool true)]) Tryz.func75 hI J (.same _)
theorem Wm (s1:List Class)(s2:List Class):CP Tryz.prog 78 [(.sl 4 (List.map B2 s1)),(.sl 4 (List.map B2 s2))] (Gs s1 s2) (fun(x:Bool)=>(AV.bool x)):=by
 refine Cq (n:=26) 0 Tryz.func78 J (by decide) J J fun h0 ids hI=>Bo (Al (Gs.eq_1 _ _) ?_)
 refine Y<|O<|Z (.bool false) J An<|Aa<|Y<|Y<|O ?_
 refine Z (.sl 4 (List.map B2 s1)) J Ae<|Z (.I (s1.length:Int)) J (Ay (A8 Fs))<|Z (.sl 4 (List.map B2 s2)) J Ae<|Z (.I (s2.length:Int)) J (Ay (A8 Fs))<|Z (.bool ((s1.length:Int) != (s2.length:Int))) J (Bh J J J)<|Aa<|B6 J (fun hc=>?_) (fun hc=>?_)
 ·refine Y<|O<|Z (.bool false) J An<|Aa<|Bv (a:=false) (vs:=[(.bool false)]) Tryz.func78 hI J (.same _)
 refine A2<|Y<|Y<|O<|Z (.sl 4 (List.map B2 s1)) J Ae<|Z (.I (s1.length:Int)) J (Ay (A8 Fs))<|Z (.I 0) J Ae ?_
 refine Aa<|Bf<|Ea [(0,(.sl 4 (List.map B2 s1))),(1,(.sl 4 (List.map B2 s2))),(12,(.I (s1.length:Int))),(13,(.I 0))] (FI J)<|Ep (P:=Tryz.prog) s1 (fun j a=>fun _=>Mi s2 j a) ((Dp (fun _=>.ok true) (fun r=>.ok r)):(Unit ⊕ Bool)→R Bool) (fun j=>fun _=>fun(fr:Nat→AV) (h:Ag)=>fr=A5 [(0,(.sl 4 (List.map B2 s1))),(1,(.sl 4 (List.map B2 s2))),(12,(.I (s1.length:Int))),(13,(.I (j:Int)))]∧h=hp h0 ids []) () ?_ ?_ ?_
 ·exact⟨J,J⟩
 ·rintro j a ha W hW _ fr h ⟨rfl,rfl⟩
  refine Al (m':=Mi s2 j a) J (Al (Mi.eq_1 _ _ _) ?_)
  refine Y<|O<|Z (.bool (decide ((j:Int)<(s1.length:Int)))) J (Bh J J J)<|Aa<|Y<|Eb (t:=0) (L:=s1) J fun hlim=>C7 J (Int.ofNat_lt.2 (Bc ha)) ?_
  refine A2<|Y<|Bf<|Y<|O<|Ab 2 [] [(5,(.I (j:Int)))] ?_
  refine Aa<|Y<|Cm Et [[],[],[0,1],[0,1,2],[],[],[4,5],[4,5,6],[0,1,2,3,4,5,6,7]] [(false,0),(false,1),(false,2),(false,3),(false,4),(false,5),(false,6),(false,7),(false,8)] (by kernel_rfl)<|Af (.sl 4 (List.map B2 s1)) J J Ae<|Af (.I (j:Int)) J J Ae<|Af (.cp (B2 a) 0) J J (By (Do Fs Kd J ha))<|Af (.agg (B2 a)) J J (Aq (Cl Kd J)) ?_
  refine Af (.sl 4 (List.map B2 s2)) J J Ae<|Af (.I (j:Int)) J J Ae<|Oj fun a1 hz hx1=>Af (.cp (B2 a1) 0) J J (By (Dl Fs Kd J hz hx1))<|Af (.agg (B2 a1)) J J (Aq (Cl Kd J))<|Af (.bool (!((a.Name==a1.Name)&&((a.Slow==a1.Slow)&&((a.Fast==a1.Fast)&&(a.Places==a1.Places)))))) J J (Bh (Ah9 J J) J Aiq)<|Cf ?_
  refine D1 J (fun hc1=>?_) (fun hc1=>?_)
  ·refine A2<|Bs<|O<|Ab 2 [] [(13,(.I (IntKind.wrap .i64 ((j:Int)+1))))] ?_
   refine Aa<|Br (Fe (hW () _ _ ⟨J,J⟩)) (.cons J (.cons J (.cons J (.cons (D8 (Bc ha) hlim) .nil))))
  refine Y<|O<|Z (.bool false) J An<|Aa<|Fc<|F5<|Bv (a:=false) (vs:=[(.bool false)]) Tryz.func78 hI J (.same _)
 rintro _ fr h ⟨rfl,rfl⟩
 refine Al (Fk _ _ _)<|Y<|O<|Z (.bool (decide ((s1.length:Int)<(s1.length:Int)))) J (Bh J J J)<|Aa<|Y<|C6 J (Int.lt_irrefl _) ?_
 refine Db J<|Y<|O<|Z (.bool true) J An<|Aa<|Bv (a:=true) (vs:=[(.bool true)]) Tryz.func78 hI J (.same _)
theorem Xp (s1:List Rule)(s2:List Rule):CP Tryz.prog 79 [(.sl 8 (List.map A7 s1)),(.sl 8 (List.map A7 s2))] (Ga s1 s2) (fun(x:Bool)=>(AV.bool x)):=by
 refine Cq (n:=26) 0 Tryz.func79 J (by decide) J J fun h0 ids hI=>Bo (Al (Ga.eq_1 _ _) ?_)
 refine Y<|O<|Z (.bool false) J An<|Aa<|Y<|Y<|O ?_
 refine Z (.sl 8 (List.map A7 s1)) J Ae<|Z (.I (s1.length:Int)) J (Ay (A8 Dz))<|Z (.sl 8 (List.map A7 s2)) J Ae<|Z (.I (s2.length:Int)) J (Ay (A8 Dz))<|Z (.bool ((s1.length:Int) != (s2.length:Int))) J (Bh J J J)<|Aa<|B6 J (fun hc=>?_) (fun hc=>?_)
 ·refine Y<|O<|Z (.bool false) J An<|Aa<|Bv (a:=false) (vs:=[(.bool false)]) Tryz.func79 hI J (.same _)
 refine A2<|Y<|Y<|O<|Z (.sl 8 (List.map A7 s1)) J Ae<|Z (.I (s1.length:Int)) J (Ay (A8 Dz))<|Z (.I 0) J Ae ?_
 refine Aa<|Bf<|Ea [(0,(.sl 8 (List.map A7 s1))),(1,(.sl 8 (List.map A7 s2))),(12,(.I (s1.length:Int))),(13,(.I 0))] (FI J)<|Ep (P:=Tryz.prog) s1 (fun j a=>fun _=>Ms s2 j a) ((Dp (fun _=>.ok true) (fun r=>.ok r)):(Unit ⊕ Bool)→R Bool) (fun j=>fun _=>fun(fr:Nat→AV) (h:Ag)=>fr=A5 [(0,(.sl 8 (List.map A7 s1))),(1,(.sl 8 (List.map A7 s2))),(12,(.I (s1.length:Int))),(13,(.I (j:Int)))]∧h=hp h0 ids []) () ?_ ?_ ?_
 ·exact⟨J,J⟩
 ·rintro j a ha W hW _ fr h ⟨rfl,rfl⟩
  refine Al (m':=Ms s2 j a) J (Al (Ms.eq_1 _ _ _) ?_)
  refine Y<|O<|Z (.bool (decide ((j:Int)<(s1.length:Int)))) J (Bh J J J)<|Aa<|Y<|Eb (t:=0) (L:=s1) J fun hlim=>C7 J (Int.ofNat_lt.2 (Bc ha)) ?_
  refine A2<|Y<|Bf<|Y<|O<|Ab 2 [] [(5,(.I (j:Int)))] ?_
  refine Aa<|Y<|Cm Et [[],[],[0,1],[0,1,2],[],[],[4,5],[4,5,6],[0,1,2,3,4,5,6,7]] [(false,0),(false,1),(false,2),(false,3),(false,4),(false,5),(false,6),(false,7),(false,8)] (by kernel_rfl)<|Af (.sl 8 (List.map A7 s1)) J J Ae<|Af (.I (j:Int)) J J Ae<|Af (.cp (A7 a) 0) J J (By (Do Dz Dk J ha))<|Af (.agg (A7 a)) J J (Aq (Cl Dk J)) ?_
  refine Af (.sl 8 (List.map A7 s2)) J J Ae<|Af (.I (j:Int)) J J Ae<|Oj fun a1 hz hx1=>Af (.cp (A7 a1) 0) J J (By (Dl Dz Dk J hz hx1))<|Af (.agg (A7 a1)) J J (Aq (Cl Dk J))<|Af (.bool (!((a.Kind==a1.Kind)&&((a.C==a1.C)&&((a.A==a1.A)&&((a.Class==a1.Class)&&((a.Airport==a1.Airport)&&((a.N==a1.N)&&((a.Hours.From==a1.Hours.From)&&(a.Hours.To==a1.Hours.To)))))))))) J J (Bh (Aec J J) J Ad1)<|Cf ?_
  refine D1 J (fun hc1=>?_) (fun hc1=>?_)
  ·refine A2<|Bs<|O<|Ab 2 [] [(13,(.I (IntKind.wrap .i64 ((j:Int)+1))))] ?_
   refine Aa<|Br (Fe (hW () _ _ ⟨J,J⟩)) (.cons J (.cons J (.cons J (.cons (D8 (Bc ha) hlim) .nil))))
  refine Y<|O<|Z (.bool false) J An<|Aa<|Fc<|F5<|Bv (a:=false) (vs:=[(.bool false)]) Tryz.func79 hI J (.same _)
 rintro _ fr h ⟨rfl,rfl⟩
 refine Al (Fk _ _ _)<|Y<|O<|Z (.bool (decide ((s1.length:Int)<(s1.length:Int)))) J (Bh J J J)<|Aa<|Y<|C6 J (Int.lt_irrefl _) ?_
 refine Db J<|Y<|O<|Z (.bool true) J An<|Aa<|Bv (a:=true) (vs:=[(.bool true)]) Tryz.func79 hI J (.same _)
theorem Wz (a:Airspace)(b:Airspace):CP Tryz.prog 19 [(.agg (Aw a)),(.agg (Aw b))] (Nt a b) (fun(x:Bool)=>(AV.bool x)):=by
 refine Cq (n:=59) 2 Tryz.func19 J (by decide) J J fun h0 ids hI=>Bo (Al (Nt.eq_1 _ _) ?_)
 refine Y<|O<|Ck (v:=(.agg (Aw a))) (j:=0) hI J J J J J J J fun g=>Ck (v:=(.agg (Aw b))) (j:=1) hI J J J J J J J fun g1=>Z (.bool false) J An<|Aa<|Aj ?_
 refine Y<|O<|Ab 4 [0,1] [(8,(.sl 2 (List.map As b.Volumes))),(6,(.sl 2 (List.map As a.Volumes)))] ?_
 refine B0 [(.sl 2 (List.map As a.Volumes)),(.sl 2 (List.map As b.Volumes)),(.func (.func 63) [] [])] J J J J ((Lt a.Volumes b.Volumes) _) (fun v _=>Cc Tryz.func19 hI) fun r _=>Z (.bool r) J Ae<|C8 6 ((fun(b1:Bool)=>(if b1 then(D5 a.Configs b.Configs).bind fun r2=>R.ok r2 else R.ok false).bind (fun(b2:Bool)=>(if b2 then(C5 a.Segments b.Segments).bind fun r3=>R.ok r3 else R.ok false).bind (fun(b3:Bool)=>(if b3 then(Cx a.Routes b.Routes).bind fun r4=>R.ok r4 else R.ok false).bind (fun(b4:Bool)=>(if b4 then(Cd a.Airports b.Airports).bind fun r5=>R.ok r5 else R.ok false).bind (fun(b5:Bool)=>(if b5 then(Gs a.Classes b.Classes).bind fun r6=>R.ok r6 else R.ok false).bind (fun(b6:Bool)=>(if b6 then(Ga a.Rules b.Rules).bind fun r7=>R.ok r7 else R.ok false).bind (fun(b7:Bool)=>.ok b7))))))):Bool→R Bool) (fun(b1:Bool) (fr:Nat→AV) (h:Ag)=>fr=A5 [(2,(.q ids 0 g)),(3,(.q ids 1 g1)),(16,(.bool b1))]∧h=hp h0 ids [(some (.rows g 8 [(Aw a)])),(some (.rows g1 8 [(Aw b)]))]) ?_ fun hJ=>Dy (fun hb1=>?_) (fun hb1=>?_)
 ·rintro b1 fr h ⟨rfl,rfl⟩
  refine Z (.bool b1) J Ae<|C8 6 ((fun(b2:Bool)=>(if b2 then(C5 a.Segments b.Segments).bind fun r3=>R.ok r3 else R.ok false).bind (fun(b3:Bool)=>(if b3 then(Cx a.Routes b.Routes).bind fun r4=>R.ok r4 else R.ok false).bind (fun(b4:Bool)=>(if b4 then(Cd a.Airports b.Airports).bind fun r5=>R.ok r5 else R.ok false).bind (fun(b5:Bool)=>(if b5 then(Gs a.Classes b.Classes).bind fun r6=>R.ok r6 else R.ok false).bind (fun(b6:Bool)=>(if b6 then(Ga a.Rules b.Rules).bind fun r7=>R.ok r7 else R.ok false).bind (fun(b7:Bool)=>.ok b7)))))):Bool→R Bool) (fun(b2:Bool) (fr:Nat→AV) (h:Ag)=>fr=A5 [(2,(.q ids 0 g)),(3,(.q ids 1 g1)),(23,(.bool b2))]∧h=hp h0 ids [(some (.rows g 8 [(Aw a)])),(some (.rows g1 8 [(Aw b)]))]) ?_ fun hJ1=>Dy (fun hb3=>?_) (fun hb3=>?_)
  ·rintro b2 fr h ⟨rfl,rfl⟩
   refine Z (.bool b2) J Ae<|C8 6 ((fun(b3:Bool)=>(if b3 then(Cx a.Routes b.Routes).bind fun r4=>R.ok r4 else R.ok false).bind (fun(b4:Bool)=>(if b4 then(Cd a.Airports b.Airports).bind fun r5=>R.ok r5 else R.ok false).bind (fun(b5:Bool)=>(if b5 then(Gs a.Classes b.Classes).bind fun r6=>R.ok r6 else R.ok false).bind (fun(b6:Bool)=>(if b6 then(Ga a.Rules b.Rules).bind fun r7=>R.ok r7 else R.ok false).bind (fun(b7:Bool)=>.ok b7))))):Bool→R Bool) (fun(b3:Bool) (fr:Nat→AV) (h:Ag)=>fr=A5 [(2,(.q ids 0 g)),(3,(.q ids 1 g1)),(30,(.bool b3))]∧h=hp h0 ids [(some (.rows g 8 [(Aw a)])),(some (.rows g1 8 [(Aw b)]))]) ?_ fun hJ2=>Dy (fun hb5=>?_) (fun hb5=>?_)
   ·rintro b3 fr h ⟨rfl,rfl⟩
    refine Z (.bool b3) J Ae<|C8 6 ((fun(b4:Bool)=>(if b4 then(Cd a.Airports b.Airports).bind fun r5=>R.ok r5 else R.ok false).bind (fun(b5:Bool)=>(if b5 then(Gs a.Classes b.Classes).bind fun r6=>R.ok r6 else R.ok false).bind (fun(b6:Bool)=>(if b6 then(Ga a.Rules b.Rules).bind fun r7=>R.ok r7 else R.ok false).bind (fun(b7:Bool)=>.ok b7)))):Bool→R Bool) (fun(b4:Bool) (fr:Nat→AV) (h:Ag)=>fr=A5 [(2,(.q ids 0 g)),(3,(.q ids 1 g1)),(37,(.bool b4))]∧h=hp h0 ids [(some (.rows g 8 [(Aw a)])),(some (.rows g1 8 [(Aw b)]))]) ?_ fun hJ3=>Dy (fun hb7=>?_) (fun hb7=>?_)
    ·rintro b4 fr h ⟨rfl,rfl⟩
     refine Z (.bool b4) J Ae<|C8 6 ((fun(b5:Bool)=>(if b5 then(Gs a.Classes b.Classes).bind fun r6=>R.ok r6 else R.ok false).bind (fun(b6:Bool)=>(if b6 then(Ga a.Rules b.Rules).bind fun r7=>R.ok r7 else R.ok false).bind (fun(b7:Bool)=>.ok b7))):Bool→R Bool) (fun(b5:Bool) (fr:Nat→AV) (h:Ag)=>fr=A5 [(2,(.q ids 0 g)),(3,(.q ids 1 g1)),(44,(.bool b5))]∧h=hp h0 ids [(some (.rows g 8 [(Aw a)])),(some (.rows g1 8 [(Aw b)]))]) ?_ fun hJ4=>Dy (fun hb9=>?_) (fun hb9=>?_)
     ·rintro b5 fr h ⟨rfl,rfl⟩
      refine Z (.bool b5) J Ae<|C8 6 ((fun(b6:Bool)=>(if b6 then(Ga a.Rules b.Rules).bind fun r7=>R.ok r7 else R.ok false).bind (fun(b7:Bool)=>.ok b7)):Bool→R Bool) (fun(b6:Bool) (fr:Nat→AV) (h:Ag)=>fr=A5 [(2,(.q ids 0 g)),(3,(.q ids 1 g1)),(51,(.bool b6))]∧h=hp h0 ids [(some (.rows g 8 [(Aw a)])),(some (.rows g1 8 [(Aw b)]))]) ?_ fun hJ5=>Dy (fun hb11=>?_) (fun hb11=>?_)
      ·rintro b6 fr h ⟨rfl,rfl⟩
       refine Z (.bool b6) J Ae<|C8 6 ((fun(b7:Bool)=>.ok b7):Bool→R Bool) (fun(b7:Bool) (fr:Nat→AV) (h:Ag)=>fr=A5 [(58,(.bool b7))]∧h=hp h0 ids [(some (.rows g 8 [(Aw a)])),(some (.rows g1 8 [(Aw b)]))]) ?_ fun hJ6=>Dy (fun hb13=>?_) (fun hb13=>?_)
       ·rintro b7 fr h ⟨rfl,rfl⟩
        refine Z (.bool b7) J An<|Aa<|Bv (a:=b7) (vs:=[(.bool b7)]) Tryz.func19 hI J (.same _)
       ·refine A0 (t:=52) hb13 J<|Ab 4 [0,1] [(56,(.sl 8 (List.map A7 b.Rules))),(54,(.sl 8 (List.map A7 a.Rules)))] ?_
        refine B0 [(.sl 8 (List.map A7 a.Rules)),(.sl 8 (List.map A7 b.Rules))] J (Cj (tj:=52) J J) J J ((Xp a.Rules b.Rules) _) (fun v _=>Cc Tryz.func19 hI) fun r7 _=>Z (.bool r7) J (Fj (t:=true) J J)<|Bn<|Ca [(58,(.bool r7))] (FI J)<|hJ6 r7 _ _ ⟨J,J⟩
       refine A0 (t:=52) hb13 J<|Ab 6 [] [(58,(.bool false))] ?_
       refine Bn<|Ca [(58,(.bool false))] (FI J)<|hJ6 false _ _ ⟨J,J⟩
      ·refine A0 (t:=45) hb11 J<|Ab 4 [0,1] [(49,(.sl 4 (List.map B2 b.Classes))),(47,(.sl 4 (List.map B2 a.Classes)))] ?_
       refine B0 [(.sl 4 (List.map B2 a.Classes)),(.sl 4 (List.map B2 b.Classes))] J (Cj (tj:=45) J J) J J ((Wm a.Classes b.Classes) _) (fun v _=>Cc Tryz.func19 hI) fun r6 _=>Z (.bool r6) J (Fj (t:=true) J J)<|Bn<|Ca [(2,(.q ids 0 g)),(3,(.q ids 1 g1)),(51,(.bool r6))] (FI J)<|hJ5 r6 _ _ ⟨J,J⟩
      refine A0 (t:=45) hb11 J<|Ab 6 [] [(51,(.bool false))] ?_
      refine Bn<|Ca [(2,(.q ids 0 g)),(3,(.q ids 1 g1)),(51,(.bool false))] (FI J)<|hJ5 false _ _ ⟨J,J⟩
     ·refine A0 (t:=38) hb9 J<|Ab 4 [0,1] [(42,(.sl 2 (List.map Bb b.Airports))),(40,(.sl 2 (List.map Bb a.Airports)))] ?_
      refine B0 [(.sl 2 (List.map Bb a.Airports)),(.sl 2 (List.map Bb b.Airports)),(.func (.func 76) [] [])] J (Cj (tj:=38) J J) J J ((K3 a.Airports b.Airports) _) (fun v _=>Cc Tryz.func19 hI) fun r5 _=>Z (.bool r5) J (Fj (t:=true) J J)<|Bn<|Ca [(2,(.q ids 0 g)),(3,(.q ids 1 g1)),(44,(.bool r5))] (FI J)<|hJ4 r5 _ _ ⟨J,J⟩
     refine A0 (t:=38) hb9 J<|Ab 6 [] [(44,(.bool false))] ?_
     refine Bn<|Ca [(2,(.q ids 0 g)),(3,(.q ids 1 g1)),(44,(.bool false))] (FI J)<|hJ4 false _ _ ⟨J,J⟩
    ·refine A0 (t:=31) hb7 J<|Ab 4 [0,1] [(35,(.sl 7 (List.map Bt b.Routes))),(33,(.sl 7 (List.map Bt a.Routes)))] ?_
     refine B0 [(.sl 7 (List.map Bt a.Routes)),(.sl 7 (List.map Bt b.Routes)),(.func (.func 74) [] [])] J (Cj (tj:=31) J J) J J ((Mj a.Routes b.Routes) _) (fun v _=>Cc Tryz.func19 hI) fun r4 _=>Z (.bool r4) J (Fj (t:=true) J J)<|Bn<|Ca [(2,(.q ids 0 g)),(3,(.q ids 1 g1)),(37,(.bool r4))] (FI J)<|hJ3 r4 _ _ ⟨J,J⟩
    refine A0 (t:=31) hb7 J<|Ab 6 [] [(37,(.bool false))] ?_
    refine Bn<|Ca [(2,(.q ids 0 g)),(3,(.q ids 1 g1)),(37,(.bool false))] (FI J)<|hJ3 false _ _ ⟨J,J⟩
   ·refine A0 (t:=24) hb5 J<|Ab 4 [0,1] [(28,(.sl 5 (List.map Bd b.Segments))),(26,(.sl 5 (List.map Bd a.Segments)))] ?_
    refine B0 [(.sl 5 (List.map Bd a.Segments)),(.sl 5 (List.map Bd b.Segments)),(.func (.func 72) [] [])] J (Cj (tj:=24) J J) J J ((K4 a.Segments b.Segments) _) (fun v _=>Cc Tryz.func19 hI) fun r3 _=>Z (.bool r3) J (Fj (t:=true) J J)<|Bn<|Ca [(2,(.q ids 0 g)),(3,(.q ids 1 g1)),(30,(.bool r3))] (FI J)<|hJ2 r3 _ _ ⟨J,J⟩
   refine A0 (t:=24) hb5 J<|Ab 6 [] [(30,(.bool false))] ?_
   refine Bn<|Ca [(2,(.q ids 0 g)),(3,(.q ids 1 g1)),(30,(.bool false))] (FI J)<|hJ2 false _ _ ⟨J,J⟩
  ·refine A0 (t:=17) hb3 J<|Ab 4 [0,1] [(21,(.sl 3 (List.map Bk b.Configs))),(19,(.sl 3 (List.map Bk a.Configs)))] ?_
   refine B0 [(.sl 3 (List.map Bk a.Configs)),(.sl 3 (List.map Bk b.Configs)),(.func (.func 70) [] [])] J (Cj (tj:=17) J J) J J ((Lr a.Configs b.Configs) _) (fun v _=>Cc Tryz.func19 hI) fun r2 _=>Z (.bool r2) J (Fj (t:=true) J J)<|Bn<|Ca [(2,(.q ids 0 g)),(3,(.q ids 1 g1)),(23,(.bool r2))] (FI J)<|hJ1 r2 _ _ ⟨J,J⟩
  refine A0 (t:=17) hb3 J<|Ab 6 [] [(23,(.bool false))] ?_
  refine Bn<|Ca [(2,(.q ids 0 g)),(3,(.q ids 1 g1)),(23,(.bool false))] (FI J)<|hJ1 false _ _ ⟨J,J⟩
 ·refine A0 (t:=10) hb1 J<|Ab 4 [0,1] [(14,(.sl 5 (List.map A6 b.Sectors))),(12,(.sl 5 (List.map A6 a.Sectors)))] ?_
  refine B0 [(.sl 5 (List.map A6 a.Sectors)),(.sl 5 (List.map A6 b.Sectors)),(.func (.func 66) [] [])] J (Cj (tj:=10) J J) J J ((Lv a.Sectors b.Sectors) _) (fun v _=>Cc Tryz.func19 hI) fun r1 _=>Z (.bool r1) J (Fj (t:=true) J J)<|Bn<|Ca [(2,(.q ids 0 g)),(3,(.q ids 1 g1)),(16,(.bool r1))] (FI J)<|hJ r1 _ _ ⟨J,J⟩
 refine A0 (t:=10) hb1 J<|Ab 6 [] [(16,(.bool false))] ?_
 refine Bn<|Ca [(2,(.q ids 0 g)),(3,(.q ids 1 g1)),(16,(.bool false))] (FI J)<|hJ false _ _ ⟨J,J⟩
theorem Ac2:CP Tryz.prog 9 [] (Rw) (fun(x:Bool)=>(AV.bool x)):=by
 refine Cq (n:=158) 7 Tryz.func9 J (by decide) J J fun h0 ids hI=>Bo (Al (Rw.eq_1) ?_)
 refine Y<|O<|Z (.bool false) J An<|Aa<|Y<|O<|B0 [(.str [])] J J J J ((I2 []) _) (fun v _=>Cc Tryz.func9 hI) fun r _=>?_
 refine Ab 4 [] [(28,(.I r.2.2)),(27,(.I r.2.1)),(26,(.agg (Aw r.1)))] ?_
 refine Bg (j:=0) hI J J J J Ce J fun g=>Ar (Ax (v:=(.agg (Aw r.1))) hI J J J J Ce J J J J J)<|Ab 2 [] [(3,(.I r.2.2)),(2,(.I r.2.1))] ?_
 refine Aa<|Aj ?_
 refine Y<|O<|B0 [(.str [118,111,108,117,109,101,32,97,32,99,108,111,115,101,100,32,54,48,32,116,111,32,54,48,59])] J J J J ((I2 [118,111,108,117,109,101,32,97,32,99,108,111,115,101,100,32,54,48,32,116,111,32,54,48,59]) _) (fun v _=>Cc Tryz.func9 hI) fun r1 _=>Ab 4 [] [(33,(.I r1.2.2)),(32,(.I r1.2.1)),(31,(.agg (Aw r1.1)))] ?_
 refine Bg (j:=1) hI J J J J Ce J fun g1=>Ar (Ax (v:=(.agg (Aw r1.1))) hI J J J J Ce J J J J J)<|Ab 2 [] [(6,(.I r1.2.2)),(5,(.I r1.2.1))] ?_
 refine Aa<|Aj ?_
 refine Y<|O<|B0 [(.str [101,120,101,109,112,116,32,104,101,97,118,121])] J J J J ((I2 [101,120,101,109,112,116,32,104,101,97,118,121]) _) (fun v _=>Cc Tryz.func9 hI) fun r2 _=>Ab 4 [] [(38,(.I r2.2.2)),(37,(.I r2.2.1)),(36,(.agg (Aw r2.1)))] ?_
 refine Bg (j:=2) hI J J J J Ce J fun g2=>Ar (Ax (v:=(.agg (Aw r2.1))) hI J J J J Ce J J J J J)<|Ab 2 [] [(9,(.I r2.2.2)),(8,(.I r2.2.1))] ?_
 refine Aa<|Aj ?_
 refine Y<|O<|B0 [(.str [108,111,110,103,101,115,116,32,104,101,97,118,121,32,51,53,59])] J J J J ((I2 [108,111,110,103,101,115,116,32,104,101,97,118,121,32,51,53,59]) _) (fun v _=>Cc Tryz.func9 hI) fun r3 _=>Ab 4 [] [(43,(.I r3.2.2)),(42,(.I r3.2.1)),(41,(.agg (Aw r3.1)))] ?_
 refine Bg (j:=3) hI J J J J Ce J fun g3=>Ar (Ax (v:=(.agg (Aw r3.1))) hI J J J J Ce J J J J J)<|Ab 2 [] [(12,(.I r3.2.2)),(11,(.I r3.2.1))] ?_
 refine Aa<|Aj ?_
 refine Y<|O<|Z (.agg [(.str [120]),.emp]) J (Ln (P9 Hr Aon J))<|Dd (e:=Bb) (L:=[({ Name:=[120],Modes:=[] }:Airport)]) (st:=2) (rows:=[[(.str [120]),.emp]]) J F6 Hr J J J J J (.cons (.cons (.same _) (.cons (.emp _) .nil)) .nil) (fun x=>Rl x) J J<|Z (.agg [.emp,.emp,.emp,.emp,.emp,(.sl 2 (List.map Bb [({ Name:=[120],Modes:=[] }:Airport)])),.emp,.emp]) J (Ln (P9 Ce Ag3 J))<|B0 [(.agg [.emp,.emp,.emp,.emp,.emp,(.sl 2 (List.map Bb [({ Name:=[120],Modes:=[] }:Airport)])),.emp,.emp])] J J J J (fun hb=>Bl.weak (.cons (.aggL (.cons (.emp _) (.cons (.emp _) (.cons (.emp _) (.cons (.emp _) (.cons (.emp _) (.cons (.same _) (.cons (.emp _) (.cons (.emp _) .nil))))))))) .nil) ((Ri ({ Volumes:=[],Sectors:=[],Configs:=[],Segments:=[],Routes:=[],Airports:=[({ Name:=[120],Modes:=[] }:Airport)],Classes:=[],Rules:=[] }:Airspace)) _ hb)) (fun v _=>Cc Tryz.func9 hI) fun r4 _=>Ab 5 [] [(14,(.I r4.2))] ?_
 refine Aa<|Y<|O<|Z (.agg [(.str [97]),.emp]) J (Ln (P9 If An5 J))<|Dd (e:=As) (L:=[({ Name:=[97],Closed:=[] }:Volume)]) (st:=2) (rows:=[[(.str [97]),.emp]]) J Ew If J J J J J (.cons (.cons (.same _) (.cons (.emp _) .nil)) .nil) (fun x=>Ta x) J J<|Z (.agg [(.sl 2 (List.map As [({ Name:=[97],Closed:=[] }:Volume)])),.emp,.emp,.emp,.emp,.emp,.emp,.emp]) J (Ln (P9 Ce Ag3 J))<|B0 [(.agg [(.sl 2 (List.map As [({ Name:=[97],Closed:=[] }:Volume)])),.emp,.emp,.emp,.emp,.emp,.emp,.emp])] J J J J (fun hb=>Bl.weak (.cons (.aggL (.cons (.same _) (.cons (.emp _) (.cons (.emp _) (.cons (.emp _) (.cons (.emp _) (.cons (.emp _) (.cons (.emp _) (.cons (.emp _) .nil))))))))) .nil) ((Ri ({ Volumes:=[({ Name:=[97],Closed:=[] }:Volume)],Sectors:=[],Configs:=[],Segments:=[],Routes:=[],Airports:=[],Classes:=[],Rules:=[] }:Airspace)) _ hb)) (fun v _=>Cc Tryz.func9 hI) fun r5 _=>?_
 refine Ab 5 [] [(16,(.I r5.2)),(15,(.str r5.1))] ?_
 refine Aa<|Y<|O<|B0 [(.str [99,117,114,102,101,119,32,104,101,97,118,121,32,97,116,32,120,32,48,32,116,111,32,51,48,48,59,32,115,101,99,116,111,114,32,115,32,61,32,97,44,32,98,32,114,97,100,97,114,32,57,32,112,114,111,99,101,100,117,114,97,108,32,52,59])] J J J J ((I2 [99,117,114,102,101,119,32,104,101,97,118,121,32,97,116,32,120,32,48,32,116,111,32,51,48,48,59,32,115,101,99,116,111,114,32,115,32,61,32,97,44,32,98,32,114,97,100,97,114,32,57,32,112,114,111,99,101,100,117,114,97,108,32,52,59]) _) (fun v _=>Cc Tryz.func9 hI) fun r6 _=>Ab 4 [] [(62,(.I r6.2.2)),(61,(.I r6.2.1)),(60,(.agg (Aw r6.1)))] ?_
 refine Bg (j:=4) hI J J J J Ce J fun g4=>Ar (Ax (v:=(.agg (Aw r6.1))) hI J J J J Ce J J J J J)<|Ab 2 [] [(19,(.I r6.2.2)),(18,(.I r6.2.1))] ?_
 refine Aa<|Aj ?_
 refine Y<|O<|Dd (e:=rS) (L:=[[97],[98]]) (st:=1) (rows:=[[(.str [97])],[(.str [98])]]) J Dt Co J J J J J (.cons (RowSim.refl _) (.cons (RowSim.refl _) .nil)) (fun x=>Gh x) J J<|Z (.agg [(.str [115]),(.sl 1 (List.map rS [[97],[98]])),.emp,(.I 9),(.I 4)]) J (Ln (P9 Gq Aof J))<|Dd (e:=A6) (L:=[({ Name:=[115],Names:=[[97],[98]],Volumes:=[],Radar:=9,Procedural:=4 }:Sector)]) (st:=5) (rows:=[[(.str [115]),(.sl 1 (List.map rS [[97],[98]])),.emp,(.I 9),(.I 4)]]) J Fr Gq J J J J J (.cons (.cons (.same _) (.cons (.same _) (.cons (.emp _) (.cons (.same _) (.cons (.same _) .nil))))) .nil) (fun x=>Q1 x) J J<|Ab 2 [] [(67,(.agg [(.I 1),(.str [104,101,97,118,121]),(.str [120]),(.I 0),(.I 0),(.I 0),(.I 0),(.I 300)]))] ?_
 refine Dd (e:=A7) (L:=[({ Kind:=1,C:=[104,101,97,118,121],A:=[120],Class:=0,Airport:=0,N:=0,Hours:=({ From:=0,To:=300 }:Span) }:Rule)]) (st:=8) (rows:=[[(.I 1),(.str [104,101,97,118,121]),(.str [120]),(.I 0),(.I 0),(.I 0),(.I 0),(.I 300)]]) J Dz Dk J J J J J (.cons (.cons (.same _) (.cons (.same _) (.cons (.same _) (.cons (.same _) (.cons (.same _) (.cons (.same _) (.cons (.same _) (.cons (.same _) .nil)))))))) .nil) (fun x=>Q9 x) J J<|Z (.agg [.emp,(.sl 5 (List.map A6 [({ Name:=[115],Names:=[[97],[98]],Volumes:=[],Radar:=9,Procedural:=4 }:Sector)])),.emp,.emp,.emp,.emp,.emp,(.sl 8 (List.map A7 [({ Kind:=1,C:=[104,101,97,118,121],A:=[120],Class:=0,Airport:=0,N:=0,Hours:=({ From:=0,To:=300 }:Span) }:Rule)]))]) J (Ln (P9 Ce Ag3 J))<|Bg (j:=5) hI J J J J Ce J fun g5=>Ar (Ax (v:=(.agg [.emp,(.sl 5 (List.map A6 [({ Name:=[115],Names:=[[97],[98]],Volumes:=[],Radar:=9,Procedural:=4 }:Sector)])),.emp,.emp,.emp,.emp,.emp,(.sl 8 (List.map A7 [({ Kind:=1,C:=[104,101,97,118,121],A:=[120],Class:=0,Airport:=0,N:=0,Hours:=({ From:=0,To:=300 }:Span) }:Rule)]))])) hI J J J J Ce J J J J J)<|Aa<|Aj ?_
 refine Y<|O<|Ab 1 [5] [(70,(.agg [.emp,(.sl 5 (List.map A6 [({ Name:=[115],Names:=[[97],[98]],Volumes:=[],Radar:=9,Procedural:=4 }:Sector)])),.emp,.emp,.emp,.emp,.emp,(.sl 8 (List.map A7 [({ Kind:=1,C:=[104,101,97,118,121],A:=[120],Class:=0,Airport:=0,N:=0,Hours:=({ From:=0,To:=300 }:Span) }:Rule)]))]))] ?_
 refine Bg (j:=6) hI J J J J Ce J fun g6=>Ar (Ax (v:=(.agg [.emp,(.sl 5 (List.map A6 [({ Name:=[115],Names:=[[97],[98]],Volumes:=[],Radar:=9,Procedural:=4 }:Sector)])),.emp,.emp,.emp,.emp,.emp,(.sl 8 (List.map A7 [({ Kind:=1,C:=[104,101,97,118,121],A:=[120],Class:=0,Airport:=0,N:=0,Hours:=({ From:=0,To:=300 }:Span) }:Rule)]))])) hI J J J J Ce J J J J J)<|Aa<|Aj ?_
 refine Y<|O<|Dd (e:=rS) (L:=[[97],[98]]) (st:=1) (rows:=[[(.str [97])],[(.str [98])]]) J Dt Co J J J J J (.cons (RowSim.refl _) (.cons (RowSim.refl _) .nil)) (fun x=>Gh x) J J<|Dd (e:=(rI .i64)) (L:=[0,1]) (st:=1) (rows:=[[(.I 0)],[(.I 1)]]) J Pu D0 J J J J J (.cons (RowSim.refl _) (.cons (RowSim.refl _) .nil)) (fun x=>Ag6 x) J J<|Z (.agg [(.str [115]),(.sl 1 (List.map rS [[97],[98]])),(.sl 1 (List.map (rI .i64) [0,1])),(.I 9),(.I 4)]) J (Ln (P9 Gq Aof J))<|Dd (e:=A6) (L:=[({ Name:=[115],Names:=[[97],[98]],Volumes:=[0,1],Radar:=9,Procedural:=4 }:Sector)]) (st:=5) (rows:=[[(.str [115]),(.sl 1 (List.map rS [[97],[98]])),(.sl 1 (List.map (rI .i64) [0,1])),(.I 9),(.I 4)]]) J Fr Gq J J J J J (.cons (.cons (.same _) (.cons (.same _) (.cons (.same _) (.cons (.same _) (.cons (.same _) .nil))))) .nil) (fun x=>Q1 x) J J<|Z (.ptr (ix ids 6) g6 0 1) J (Bp (Bi (c:=0) (off:=1) (i:=1) Ce J Fr J)) ?_
 refine Ar (Ax (v:=(.sl 5 (List.map A6 [({ Name:=[115],Names:=[[97],[98]],Volumes:=[0,1],Radar:=9,Procedural:=4 }:Sector)]))) hI J J J J Fr J J J J J)<|Aa<|Aj ?_
 refine Y<|O<|Ab 1 [6] [(77,(.agg [.emp,(.sl 5 (List.map A6 [({ Name:=[115],Names:=[[97],[98]],Volumes:=[0,1],Radar:=9,Procedural:=4 }:Sector)])),.emp,.emp,.emp,.emp,.emp,(.sl 8 (List.map A7 [({ Kind:=1,C:=[104,101,97,118,121],A:=[120],Class:=0,Airport:=0,N:=0,Hours:=({ From:=0,To:=300 }:Span) }:Rule)]))]))] ?_
 refine B0 [(.agg [.emp,(.sl 5 (List.map A6 [({ Name:=[115],Names:=[[97],[98]],Volumes:=[0,1],Radar:=9,Procedural:=4 }:Sector)])),.emp,.emp,.emp,.emp,.emp,(.sl 8 (List.map A7 [({ Kind:=1,C:=[104,101,97,118,121],A:=[120],Class:=0,Airport:=0,N:=0,Hours:=({ From:=0,To:=300 }:Span) }:Rule)]))])] J J J J (fun hb=>Bl.weak (.cons (.aggL (.cons (.emp _) (.cons (.same _) (.cons (.emp _) (.cons (.emp _) (.cons (.emp _) (.cons (.emp _) (.cons (.emp _) (.cons (.same _) .nil))))))))) .nil) ((Ri ({ Volumes:=[],Sectors:=[({ Name:=[115],Names:=[[97],[98]],Volumes:=[0,1],Radar:=9,Procedural:=4 }:Sector)],Configs:=[],Segments:=[],Routes:=[],Airports:=[],Classes:=[],Rules:=[({ Kind:=1,C:=[104,101,97,118,121],A:=[120],Class:=0,Airport:=0,N:=0,Hours:=({ From:=0,To:=300 }:Span) }:Rule)] }:Airspace)) _ hb)) (fun v _=>Cc Tryz.func9 hI) fun r7 _=>Ab 5 [] [(23,(.I r7.2)),(22,(.str r7.1))] ?_
 refine Aa<|Y<|Y<|O<|Ab 3 [] [(83,(.bool (r.2.2 != 0)))] ?_
 refine Bw 3 [(1,(.q ids 0 g)),(2,(.I r.2.1)),(5,(.I r1.2.1)),(8,(.I r2.2.1)),(9,(.I r2.2.2)),(11,(.I r3.2.1)),(12,(.I r3.2.2)),(14,(.I r4.2)),(15,(.str r5.1)),(16,(.I r5.2)),(17,(.q ids 4 g4)),(18,(.I r6.2.1)),(19,(.I r6.2.2)),(20,(.q ids 5 g5)),(21,(.q ids 6 g6)),(22,(.str r7.1)),(23,(.I r7.2)),(86,(.bool ((r.2.2 != 0)||(r1.2.2 != 80))))] ?_ fun hJ=>Bq (r.2.2 != 0) (fun hb1=>?_) (fun hb1=>?_)
 ·refine Z (.bool ((r.2.2 != 0)||(r1.2.2 != 80))) J Ae<|Bw 3 [(1,(.q ids 0 g)),(2,(.I r.2.1)),(5,(.I r1.2.1)),(8,(.I r2.2.1)),(11,(.I r3.2.1)),(12,(.I r3.2.2)),(14,(.I r4.2)),(15,(.str r5.1)),(16,(.I r5.2)),(17,(.q ids 4 g4)),(18,(.I r6.2.1)),(19,(.I r6.2.2)),(20,(.q ids 5 g5)),(21,(.q ids 6 g6)),(22,(.str r7.1)),(23,(.I r7.2)),(90,(.bool (((r.2.2 != 0)||(r1.2.2 != 80))||(r2.2.2 != 80))))] ?_ fun hJ1=>Bq ((r.2.2 != 0)||(r1.2.2 != 80)) (fun hb3=>?_) (fun hb3=>?_)
  ·refine Z (.bool (((r.2.2 != 0)||(r1.2.2 != 80))||(r2.2.2 != 80))) J Ae<|Bw 3 [(1,(.q ids 0 g)),(2,(.I r.2.1)),(5,(.I r1.2.1)),(8,(.I r2.2.1)),(11,(.I r3.2.1)),(14,(.I r4.2)),(15,(.str r5.1)),(16,(.I r5.2)),(17,(.q ids 4 g4)),(18,(.I r6.2.1)),(19,(.I r6.2.2)),(20,(.q ids 5 g5)),(21,(.q ids 6 g6)),(22,(.str r7.1)),(23,(.I r7.2)),(94,(.bool ((((r.2.2 != 0)||(r1.2.2 != 80))||(r2.2.2 != 80))||(r3.2.2 != 80))))] ?_ fun hJ2=>Bq (((r.2.2 != 0)||(r1.2.2 != 80))||(r2.2.2 != 80)) (fun hb5=>?_) (fun hb5=>?_)
   ·refine Z (.bool ((((r.2.2 != 0)||(r1.2.2 != 80))||(r2.2.2 != 80))||(r3.2.2 != 80))) J Ae<|Bw 3 [(1,(.q ids 0 g)),(2,(.I r.2.1)),(5,(.I r1.2.1)),(8,(.I r2.2.1)),(11,(.I r3.2.1)),(15,(.str r5.1)),(16,(.I r5.2)),(17,(.q ids 4 g4)),(18,(.I r6.2.1)),(19,(.I r6.2.2)),(20,(.q ids 5 g5)),(21,(.q ids 6 g6)),(22,(.str r7.1)),(23,(.I r7.2)),(98,(.bool (((((r.2.2 != 0)||(r1.2.2 != 80))||(r2.2.2 != 80))||(r3.2.2 != 80))||(r4.2 != 80))))] ?_ fun hJ3=>Bq ((((r.2.2 != 0)||(r1.2.2 != 80))||(r2.2.2 != 80))||(r3.2.2 != 80)) (fun hb7=>?_) (fun hb7=>?_)
    ·refine Z (.bool (((((r.2.2 != 0)||(r1.2.2 != 80))||(r2.2.2 != 80))||(r3.2.2 != 80))||(r4.2 != 80))) J Ae<|Bw 3 [(1,(.q ids 0 g)),(2,(.I r.2.1)),(5,(.I r1.2.1)),(8,(.I r2.2.1)),(11,(.I r3.2.1)),(15,(.str r5.1)),(17,(.q ids 4 g4)),(18,(.I r6.2.1)),(19,(.I r6.2.2)),(20,(.q ids 5 g5)),(21,(.q ids 6 g6)),(22,(.str r7.1)),(23,(.I r7.2)),(102,(.bool ((((((r.2.2 != 0)||(r1.2.2 != 80))||(r2.2.2 != 80))||(r3.2.2 != 80))||(r4.2 != 80))||(r5.2 != 0))))] ?_ fun hJ4=>Bq (((((r.2.2 != 0)||(r1.2.2 != 80))||(r2.2.2 != 80))||(r3.2.2 != 80))||(r4.2 != 80)) (fun hb9=>?_) (fun hb9=>?_)
     ·refine Z (.bool ((((((r.2.2 != 0)||(r1.2.2 != 80))||(r2.2.2 != 80))||(r3.2.2 != 80))||(r4.2 != 80))||(r5.2 != 0))) J Ae<|Bw 3 [(1,(.q ids 0 g)),(2,(.I r.2.1)),(5,(.I r1.2.1)),(8,(.I r2.2.1)),(11,(.I r3.2.1)),(15,(.str r5.1)),(17,(.q ids 4 g4)),(18,(.I r6.2.1)),(20,(.q ids 5 g5)),(21,(.q ids 6 g6)),(22,(.str r7.1)),(23,(.I r7.2)),(106,(.bool (((((((r.2.2 != 0)||(r1.2.2 != 80))||(r2.2.2 != 80))||(r3.2.2 != 80))||(r4.2 != 80))||(r5.2 != 0))||(r6.2.2 != 0))))] ?_ fun hJ5=>Bq ((((((r.2.2 != 0)||(r1.2.2 != 80))||(r2.2.2 != 80))||(r3.2.2 != 80))||(r4.2 != 80))||(r5.2 != 0)) (fun hb11=>?_) (fun hb11=>?_)
      ·refine Z (.bool (((((((r.2.2 != 0)||(r1.2.2 != 80))||(r2.2.2 != 80))||(r3.2.2 != 80))||(r4.2 != 80))||(r5.2 != 0))||(r6.2.2 != 0))) J Ae<|Bw 3 [(1,(.q ids 0 g)),(2,(.I r.2.1)),(5,(.I r1.2.1)),(8,(.I r2.2.1)),(11,(.I r3.2.1)),(15,(.str r5.1)),(17,(.q ids 4 g4)),(18,(.I r6.2.1)),(20,(.q ids 5 g5)),(21,(.q ids 6 g6)),(22,(.str r7.1)),(110,(.bool ((((((((r.2.2 != 0)||(r1.2.2 != 80))||(r2.2.2 != 80))||(r3.2.2 != 80))||(r4.2 != 80))||(r5.2 != 0))||(r6.2.2 != 0))||(r7.2 != 0))))] ?_ fun hJ6=>Bq (((((((r.2.2 != 0)||(r1.2.2 != 80))||(r2.2.2 != 80))||(r3.2.2 != 80))||(r4.2 != 80))||(r5.2 != 0))||(r6.2.2 != 0)) (fun hb13=>?_) (fun hb13=>?_)
       ·refine Z (.bool ((((((((r.2.2 != 0)||(r1.2.2 != 80))||(r2.2.2 != 80))||(r3.2.2 != 80))||(r4.2 != 80))||(r5.2 != 0))||(r6.2.2 != 0))||(r7.2 != 0))) J Ae<|Bw 3 [(1,(.q ids 0 g)),(5,(.I r1.2.1)),(8,(.I r2.2.1)),(11,(.I r3.2.1)),(15,(.str r5.1)),(17,(.q ids 4 g4)),(18,(.I r6.2.1)),(20,(.q ids 5 g5)),(21,(.q ids 6 g6)),(22,(.str r7.1)),(114,(.bool (((((((((r.2.2 != 0)||(r1.2.2 != 80))||(r2.2.2 != 80))||(r3.2.2 != 80))||(r4.2 != 80))||(r5.2 != 0))||(r6.2.2 != 0))||(r7.2 != 0))||(r.2.1 != 0))))] ?_ fun hJ7=>Bq ((((((((r.2.2 != 0)||(r1.2.2 != 80))||(r2.2.2 != 80))||(r3.2.2 != 80))||(r4.2 != 80))||(r5.2 != 0))||(r6.2.2 != 0))||(r7.2 != 0)) (fun hb15=>?_) (fun hb15=>?_)
        ·refine Z (.bool (((((((((r.2.2 != 0)||(r1.2.2 != 80))||(r2.2.2 != 80))||(r3.2.2 != 80))||(r4.2 != 80))||(r5.2 != 0))||(r6.2.2 != 0))||(r7.2 != 0))||(r.2.1 != 0))) J Ae<|Bw 3 [(1,(.q ids 0 g)),(8,(.I r2.2.1)),(11,(.I r3.2.1)),(15,(.str r5.1)),(17,(.q ids 4 g4)),(18,(.I r6.2.1)),(20,(.q ids 5 g5)),(21,(.q ids 6 g6)),(22,(.str r7.1)),(118,(.bool ((((((((((r.2.2 != 0)||(r1.2.2 != 80))||(r2.2.2 != 80))||(r3.2.2 != 80))||(r4.2 != 80))||(r5.2 != 0))||(r6.2.2 != 0))||(r7.2 != 0))||(r.2.1 != 0))||(r1.2.1 != 22))))] ?_ fun hJ8=>Bq (((((((((r.2.2 != 0)||(r1.2.2 != 80))||(r2.2.2 != 80))||(r3.2.2 != 80))||(r4.2 != 80))||(r5.2 != 0))||(r6.2.2 != 0))||(r7.2 != 0))||(r.2.1 != 0)) (fun hb17=>?_) (fun hb17=>?_)
         ·refine Z (.bool ((((((((((r.2.2 != 0)||(r1.2.2 != 80))||(r2.2.2 != 80))||(r3.2.2 != 80))||(r4.2 != 80))||(r5.2 != 0))||(r6.2.2 != 0))||(r7.2 != 0))||(r.2.1 != 0))||(r1.2.1 != 22))) J Ae<|Bw 3 [(1,(.q ids 0 g)),(11,(.I r3.2.1)),(15,(.str r5.1)),(17,(.q ids 4 g4)),(18,(.I r6.2.1)),(20,(.q ids 5 g5)),(21,(.q ids 6 g6)),(22,(.str r7.1)),(122,(.bool (((((((((((r.2.2 != 0)||(r1.2.2 != 80))||(r2.2.2 != 80))||(r3.2.2 != 80))||(r4.2 != 80))||(r5.2 != 0))||(r6.2.2 != 0))||(r7.2 != 0))||(r.2.1 != 0))||(r1.2.1 != 22))||(r2.2.1 != 12))))] ?_ fun hJ9=>Bq ((((((((((r.2.2 != 0)||(r1.2.2 != 80))||(r2.2.2 != 80))||(r3.2.2 != 80))||(r4.2 != 80))||(r5.2 != 0))||(r6.2.2 != 0))||(r7.2 != 0))||(r.2.1 != 0))||(r1.2.1 != 22)) (fun hb19=>?_) (fun hb19=>?_)
          ·refine Z (.bool (((((((((((r.2.2 != 0)||(r1.2.2 != 80))||(r2.2.2 != 80))||(r3.2.2 != 80))||(r4.2 != 80))||(r5.2 != 0))||(r6.2.2 != 0))||(r7.2 != 0))||(r.2.1 != 0))||(r1.2.1 != 22))||(r2.2.1 != 12))) J Ae<|Bw 3 [(1,(.q ids 0 g)),(15,(.str r5.1)),(17,(.q ids 4 g4)),(18,(.I r6.2.1)),(20,(.q ids 5 g5)),(21,(.q ids 6 g6)),(22,(.str r7.1)),(126,(.bool ((((((((((((r.2.2 != 0)||(r1.2.2 != 80))||(r2.2.2 != 80))||(r3.2.2 != 80))||(r4.2 != 80))||(r5.2 != 0))||(r6.2.2 != 0))||(r7.2 != 0))||(r.2.1 != 0))||(r1.2.1 != 22))||(r2.2.1 != 12))||(r3.2.1 != 14))))] ?_ fun hJ10=>Bq (((((((((((r.2.2 != 0)||(r1.2.2 != 80))||(r2.2.2 != 80))||(r3.2.2 != 80))||(r4.2 != 80))||(r5.2 != 0))||(r6.2.2 != 0))||(r7.2 != 0))||(r.2.1 != 0))||(r1.2.1 != 22))||(r2.2.1 != 12)) (fun hb21=>?_) (fun hb21=>?_)
           ·refine Z (.bool ((((((((((((r.2.2 != 0)||(r1.2.2 != 80))||(r2.2.2 != 80))||(r3.2.2 != 80))||(r4.2 != 80))||(r5.2 != 0))||(r6.2.2 != 0))||(r7.2 != 0))||(r.2.1 != 0))||(r1.2.1 != 22))||(r2.2.1 != 12))||(r3.2.1 != 14))) J Ae<|Bw 3 [(1,(.q ids 0 g)),(15,(.str r5.1)),(17,(.q ids 4 g4)),(20,(.q ids 5 g5)),(21,(.q ids 6 g6)),(22,(.str r7.1)),(130,(.bool (((((((((((((r.2.2 != 0)||(r1.2.2 != 80))||(r2.2.2 != 80))||(r3.2.2 != 80))||(r4.2 != 80))||(r5.2 != 0))||(r6.2.2 != 0))||(r7.2 != 0))||(r.2.1 != 0))||(r1.2.1 != 22))||(r2.2.1 != 12))||(r3.2.1 != 14))||(r6.2.1 != 0))))] ?_ fun hJ11=>Bq ((((((((((((r.2.2 != 0)||(r1.2.2 != 80))||(r2.2.2 != 80))||(r3.2.2 != 80))||(r4.2 != 80))||(r5.2 != 0))||(r6.2.2 != 0))||(r7.2 != 0))||(r.2.1 != 0))||(r1.2.1 != 22))||(r2.2.1 != 12))||(r3.2.1 != 14)) (fun hb23=>?_) (fun hb23=>?_)
            ·refine Aa<|B6 J (fun hc=>?_) (fun hc=>?_)
             ·refine Y<|O<|Z (.bool false) J An<|Aa<|Bv (a:=false) (vs:=[(.bool false)]) Tryz.func9 hI J (.same _)
             refine A2<|Y<|O<|Ab 2 [0] [(132,(.agg [.emp,.emp,.emp,.emp,.emp,.emp,.emp,.emp])),(131,(.agg (Aw r.1)))] ?_
             refine B0 [(.agg (Aw r.1)),(.agg [.emp,.emp,.emp,.emp,.emp,.emp,.emp,.emp])] J J J J (fun hb=>Bl.weak (.cons (.same _) (.cons (.aggL (.cons (.emp _) (.cons (.emp _) (.cons (.emp _) (.cons (.emp _) (.cons (.emp _) (.cons (.emp _) (.cons (.emp _) (.cons (.emp _) .nil))))))))) .nil)) ((Tr r.1 ({ Volumes:=[],Sectors:=[],Configs:=[],Segments:=[],Routes:=[],Airports:=[],Classes:=[],Rules:=[] }:Airspace)) _ hb)) (fun v _=>Cc Tryz.func9 hI) fun r8 _=>Z (.bool r8) J Ae<|Bw 3 [(17,(.q ids 4 g4)),(20,(.q ids 5 g5)),(21,(.q ids 6 g6)),(22,(.str r7.1)),(137,(.bool (r8&&(r5.1==[118,111,108,117,109,101,32,97,32,59]))))] ?_ fun hJ12=>Bq r8 (fun hb25=>?_) (fun hb25=>?_)
             ·refine Z (.bool (r8&&(r5.1==[118,111,108,117,109,101,32,97,32,59]))) J Ae<|C8 4 ((fun(b:Bool)=>(if(b&&(r7.1==[115,101,99,116,111,114,32,115,32,61,32,97,32,44,32,98,32,114,97,100,97,114,32,57,32,112,114,111,99,101,100,117,114,97,108,32,52,32,59,32,99,117,114,102,101,119,32,104,101,97,118,121,32,97,116,32,120,32,48,32,116,111,32,51,48,48,32,59])) then(Nt r6.1 ({ Volumes:=[],Sectors:=[({ Name:=[115],Names:=[[97],[98]],Volumes:=[],Radar:=9,Procedural:=4 }:Sector)],Configs:=[],Segments:=[],Routes:=[],Airports:=[],Classes:=[],Rules:=[({ Kind:=1,C:=[104,101,97,118,121],A:=[120],Class:=0,Airport:=0,N:=0,Hours:=({ From:=0,To:=300 }:Span) }:Rule)] }:Airspace)).bind fun r10=>R.ok r10 else R.ok false).bind (fun(b1:Bool)=>(if b1 then(Nt r6.1 ({ Volumes:=[],Sectors:=[({ Name:=[115],Names:=[[97],[98]],Volumes:=[0,1],Radar:=9,Procedural:=4 }:Sector)],Configs:=[],Segments:=[],Routes:=[],Airports:=[],Classes:=[],Rules:=[({ Kind:=1,C:=[104,101,97,118,121],A:=[120],Class:=0,Airport:=0,N:=0,Hours:=({ From:=0,To:=300 }:Span) }:Rule)] }:Airspace)).bind fun r11=>R.ok (!r11) else R.ok false).bind (fun(b2:Bool)=>.ok b2))):Bool→R Bool) (fun(b:Bool) (fr:Nat→AV) (h:Ag)=>fr=A5 [(17,(.q ids 4 g4)),(20,(.q ids 5 g5)),(21,(.q ids 6 g6)),(22,(.str r7.1)),(142,(.bool b))]∧h=hp h0 ids [(some (.rows g 8 [(Aw r.1)])),(some (.rows g1 8 [(Aw r1.1)])),(some (.rows g2 8 [(Aw r2.1)])),(some (.rows g3 8 [(Aw r3.1)])),(some (.rows g4 8 [(Aw r6.1)])),(some (.rows g5 8 [[.emp,(.sl 5 (List.map A6 [({ Name:=[115],Names:=[[97],[98]],Volumes:=[],Radar:=9,Procedural:=4 }:Sector)])),.emp,.emp,.emp,.emp,.emp,(.sl 8 (List.map A7 [({ Kind:=1,C:=[104,101,97,118,121],A:=[120],Class:=0,Airport:=0,N:=0,Hours:=({ From:=0,To:=300 }:Span) }:Rule)]))]])),(some (.rows g6 8 [[.emp,(.sl 5 (List.map A6 [({ Name:=[115],Names:=[[97],[98]],Volumes:=[0,1],Radar:=9,Procedural:=4 }:Sector)])),.emp,.emp,.emp,.emp,.emp,(.sl 8 (List.map A7 [({ Kind:=1,C:=[104,101,97,118,121],A:=[120],Class:=0,Airport:=0,N:=0,Hours:=({ From:=0,To:=300 }:Span) }:Rule)]))]]))]) ?_ fun hJ13=>Dy (fun hb27=>?_) (fun hb27=>?_)
              ·rintro b fr h ⟨rfl,rfl⟩
               refine Z (.bool b) J Ae<|Bw 3 [(17,(.q ids 4 g4)),(20,(.q ids 5 g5)),(21,(.q ids 6 g6)),(146,(.bool (b&&(r7.1==[115,101,99,116,111,114,32,115,32,61,32,97,32,44,32,98,32,114,97,100,97,114,32,57,32,112,114,111,99,101,100,117,114,97,108,32,52,32,59,32,99,117,114,102,101,119,32,104,101,97,118,121,32,97,116,32,120,32,48,32,116,111,32,51,48,48,32,59]))))] ?_ fun hJ14=>Bq b (fun hb29=>?_) (fun hb29=>?_)
               ·refine Z (.bool (b&&(r7.1==[115,101,99,116,111,114,32,115,32,61,32,97,32,44,32,98,32,114,97,100,97,114,32,57,32,112,114,111,99,101,100,117,114,97,108,32,52,32,59,32,99,117,114,102,101,119,32,104,101,97,118,121,32,97,116,32,120,32,48,32,116,111,32,51,48,48,32,59]))) J Ae<|C8 4 ((fun(b1:Bool)=>(if b1 then(Nt r6.1 ({ Volumes:=[],Sectors:=[({ Name:=[115],Names:=[[97],[98]],Volumes:=[0,1],Radar:=9,Procedural:=4 }:Sector)],Configs:=[],Segments:=[],Routes:=[],Airports:=[],Classes:=[],Rules:=[({ Kind:=1,C:=[104,101,97,118,121],A:=[120],Class:=0,Airport:=0,N:=0,Hours:=({ From:=0,To:=300 }:Span) }:Rule)] }:Airspace)).bind fun r11=>R.ok (!r11) else R.ok false).bind (fun(b2:Bool)=>.ok b2)):Bool→R Bool) (fun(b1:Bool) (fr:Nat→AV) (h:Ag)=>fr=A5 [(17,(.q ids 4 g4)),(21,(.q ids 6 g6)),(151,(.bool b1))]∧h=hp h0 ids [(some (.rows g 8 [(Aw r.1)])),(some (.rows g1 8 [(Aw r1.1)])),(some (.rows g2 8 [(Aw r2.1)])),(some (.rows g3 8 [(Aw r3.1)])),(some (.rows g4 8 [(Aw r6.1)])),(some (.rows g5 8 [[.emp,(.sl 5 (List.map A6 [({ Name:=[115],Names:=[[97],[98]],Volumes:=[],Radar:=9,Procedural:=4 }:Sector)])),.emp,.emp,.emp,.emp,.emp,(.sl 8 (List.map A7 [({ Kind:=1,C:=[104,101,97,118,121],A:=[120],Class:=0,Airport:=0,N:=0,Hours:=({ From:=0,To:=300 }:Span) }:Rule)]))]])),(some (.rows g6 8 [[.emp,(.sl 5 (List.map A6 [({ Name:=[115],Names:=[[97],[98]],Volumes:=[0,1],Radar:=9,Procedural:=4 }:Sector)])),.emp,.emp,.emp,.emp,.emp,(.sl 8 (List.map A7 [({ Kind:=1,C:=[104,101,97,118,121],A:=[120],Class:=0,Airport:=0,N:=0,Hours:=({ From:=0,To:=300 }:Span) }:Rule)]))]]))]) ?_ fun hJ15=>Dy (fun hb31=>?_) (fun hb31=>?_)
                ·rintro b1 fr h ⟨rfl,rfl⟩
                 refine Z (.bool b1) J Ae<|C8 5 ((fun(b2:Bool)=>.ok b2):Bool→R Bool) (fun(b2:Bool) (fr:Nat→AV) (h:Ag)=>fr=A5 [(157,(.bool b2))]∧h=hp h0 ids [(some (.rows g 8 [(Aw r.1)])),(some (.rows g1 8 [(Aw r1.1)])),(some (.rows g2 8 [(Aw r2.1)])),(some (.rows g3 8 [(Aw r3.1)])),(some (.rows g4 8 [(Aw r6.1)])),(some (.rows g5 8 [[.emp,(.sl 5 (List.map A6 [({ Name:=[115],Names:=[[97],[98]],Volumes:=[],Radar:=9,Procedural:=4 }:Sector)])),.emp,.emp,.emp,.emp,.emp,(.sl 8 (List.map A7 [({ Kind:=1,C:=[104,101,97,118,121],A:=[120],Class:=0,Airport:=0,N:=0,Hours:=({ From:=0,To:=300 }:Span) }:Rule)]))]])),(some (.rows g6 8 [[.emp,(.sl 5 (List.map A6 [({ Name:=[115],Names:=[[97],[98]],Volumes:=[0,1],Radar:=9,Procedural:=4 }:Sector)])),.emp,.emp,.emp,.emp,.emp,(.sl 8 (List.map A7 [({ Kind:=1,C:=[104,101,97,118,121],A:=[120],Class:=0,Airport:=0,N:=0,Hours:=({ From:=0,To:=300 }:Span) }:Rule)]))]]))]) ?_ fun hJ16=>Dy (fun hb33=>?_) (fun hb33=>?_)
                 ·rintro b2 fr h ⟨rfl,rfl⟩
                  refine Z (.bool b2) J An<|Aa<|Bv (a:=b2) (vs:=[(.bool b2)]) Tryz.func9 hI J (.same _)
                 ·refine A0 (t:=152) hb33 J<|Ab 2 [4,6] [(154,(.agg [.emp,(.sl 5 (List.map A6 [({ Name:=[115],Names:=[[97],[98]],Volumes:=[0,1],Radar:=9,Procedural:=4 }:Sector)])),.emp,.emp,.emp,.emp,.emp,(.sl 8 (List.map A7 [({ Kind:=1,C:=[104,101,97,118,121],A:=[120],Class:=0,Airport:=0,N:=0,Hours:=({ From:=0,To:=300 }:Span) }:Rule)]))])),(153,(.agg (Aw r6.1)))] ?_
                  refine B0 [(.agg (Aw r6.1)),(.agg [.emp,(.sl 5 (List.map A6 [({ Name:=[115],Names:=[[97],[98]],Volumes:=[0,1],Radar:=9,Procedural:=4 }:Sector)])),.emp,.emp,.emp,.emp,.emp,(.sl 8 (List.map A7 [({ Kind:=1,C:=[104,101,97,118,121],A:=[120],Class:=0,Airport:=0,N:=0,Hours:=({ From:=0,To:=300 }:Span) }:Rule)]))])] J (Cj (tj:=152) J J) J J (fun hb=>Bl.weak (.cons (.same _) (.cons (.aggL (.cons (.emp _) (.cons (.same _) (.cons (.emp _) (.cons (.emp _) (.cons (.emp _) (.cons (.emp _) (.cons (.emp _) (.cons (.same _) .nil))))))))) .nil)) ((Wz r6.1 ({ Volumes:=[],Sectors:=[({ Name:=[115],Names:=[[97],[98]],Volumes:=[0,1],Radar:=9,Procedural:=4 }:Sector)],Configs:=[],Segments:=[],Routes:=[],Airports:=[],Classes:=[],Rules:=[({ Kind:=1,C:=[104,101,97,118,121],A:=[120],Class:=0,Airport:=0,N:=0,Hours:=({ From:=0,To:=300 }:Span) }:Rule)] }:Airspace)) _ hb)) (fun v _=>Cc Tryz.func9 hI) fun r11 _=>Ab 2 [] [(157,(.bool (!r11)))] ?_
                  refine Bn<|Ca [(157,(.bool (!r11)))] (FI J)<|hJ16 (!r11) _ _ ⟨J,J⟩
                 refine A0 (t:=152) hb33 J<|Ab 5 [] [(157,(.bool false))] ?_
                 refine Bn<|Ca [(157,(.bool false))] (FI J)<|hJ16 false _ _ ⟨J,J⟩
                ·refine A0 (t:=147) hb31 J<|Ab 2 [4,5] [(149,(.agg [.emp,(.sl 5 (List.map A6 [({ Name:=[115],Names:=[[97],[98]],Volumes:=[],Radar:=9,Procedural:=4 }:Sector)])),.emp,.emp,.emp,.emp,.emp,(.sl 8 (List.map A7 [({ Kind:=1,C:=[104,101,97,118,121],A:=[120],Class:=0,Airport:=0,N:=0,Hours:=({ From:=0,To:=300 }:Span) }:Rule)]))])),(148,(.agg (Aw r6.1)))] ?_
                 refine B0 [(.agg (Aw r6.1)),(.agg [.emp,(.sl 5 (List.map A6 [({ Name:=[115],Names:=[[97],[98]],Volumes:=[],Radar:=9,Procedural:=4 }:Sector)])),.emp,.emp,.emp,.emp,.emp,(.sl 8 (List.map A7 [({ Kind:=1,C:=[104,101,97,118,121],A:=[120],Class:=0,Airport:=0,N:=0,Hours:=({ From:=0,To:=300 }:Span) }:Rule)]))])] J (Cj (tj:=147) J J) J J (fun hb=>Bl.weak (.cons (.same _) (.cons (.aggL (.cons (.emp _) (.cons (.same _) (.cons (.emp _) (.cons (.emp _) (.cons (.emp _) (.cons (.emp _) (.cons (.emp _) (.cons (.same _) .nil))))))))) .nil)) ((Wz r6.1 ({ Volumes:=[],Sectors:=[({ Name:=[115],Names:=[[97],[98]],Volumes:=[],Radar:=9,Procedural:=4 }:Sector)],Configs:=[],Segments:=[],Routes:=[],Airports:=[],Classes:=[],Rules:=[({ Kind:=1,C:=[104,101,97,118,121],A:=[120],Class:=0,Airport:=0,N:=0,Hours:=({ From:=0,To:=300 }:Span) }:Rule)] }:Airspace)) _ hb)) (fun v _=>Cc Tryz.func9 hI) fun r10 _=>Z (.bool r10) J (Fj (t:=true) J J)<|Bn<|Ca [(17,(.q ids 4 g4)),(21,(.q ids 6 g6)),(151,(.bool r10))] (FI J)<|hJ15 r10 _ _ ⟨J,J⟩
                refine A0 (t:=147) hb31 J<|Ab 4 [] [(151,(.bool false))] ?_
                refine Bn<|Ca [(17,(.q ids 4 g4)),(21,(.q ids 6 g6)),(151,(.bool false))] (FI J)<|hJ15 false _ _ ⟨J,J⟩
               ·refine A0 (t:=143) hb29 J<|Ab 3 [] [(146,(.bool (r7.1==[115,101,99,116,111,114,32,115,32,61,32,97,32,44,32,98,32,114,97,100,97,114,32,57,32,112,114,111,99,101,100,117,114,97,108,32,52,32,59,32,99,117,114,102,101,119,32,104,101,97,118,121,32,97,116,32,120,32,48,32,116,111,32,51,48,48,32,59])))] ?_
                exact Ba hJ14 (.cons J (.cons J (.cons J (.cons (Gp hb29) .nil))))
               refine A0 (t:=143) hb29 J<|Ab 3 [] [(146,(.bool false))] ?_
               exact Ba hJ14 (.cons J (.cons J (.cons J (.cons (Gm hb29) .nil))))
              ·refine A0 (t:=138) hb27 J<|Ab 2 [4,5] [(140,(.agg [.emp,(.sl 5 (List.map A6 [({ Name:=[115],Names:=[[97],[98]],Volumes:=[],Radar:=9,Procedural:=4 }:Sector)])),.emp,.emp,.emp,.emp,.emp,(.sl 8 (List.map A7 [({ Kind:=1,C:=[104,101,97,118,121],A:=[120],Class:=0,Airport:=0,N:=0,Hours:=({ From:=0,To:=300 }:Span) }:Rule)]))])),(139,(.agg (Aw r6.1)))] ?_
               refine B0 [(.agg (Aw r6.1)),(.agg [.emp,(.sl 5 (List.map A6 [({ Name:=[115],Names:=[[97],[98]],Volumes:=[],Radar:=9,Procedural:=4 }:Sector)])),.emp,.emp,.emp,.emp,.emp,(.sl 8 (List.map A7 [({ Kind:=1,C:=[104,101,97,118,121],A:=[120],Class:=0,Airport:=0,N:=0,Hours:=({ From:=0,To:=300 }:Span) }:Rule)]))])] J (Cj (tj:=138) J J) J J (fun hb=>Bl.weak (.cons (.same _) (.cons (.aggL (.cons (.emp _) (.cons (.same _) (.cons (.emp _) (.cons (.emp _) (.cons (.emp _) (.cons (.emp _) (.cons (.emp _) (.cons (.same _) .nil))))))))) .nil)) ((Tr r6.1 ({ Volumes:=[],Sectors:=[({ Name:=[115],Names:=[[97],[98]],Volumes:=[],Radar:=9,Procedural:=4 }:Sector)],Configs:=[],Segments:=[],Routes:=[],Airports:=[],Classes:=[],Rules:=[({ Kind:=1,C:=[104,101,97,118,121],A:=[120],Class:=0,Airport:=0,N:=0,Hours:=({ From:=0,To:=300 }:Span) }:Rule)] }:Airspace)) _ hb)) (fun v _=>Cc Tryz.func9 hI) fun r9 _=>Z (.bool r9) J (Fj (t:=true) J J)<|Bn<|Ca [(17,(.q ids 4 g4)),(20,(.q ids 5 g5)),(21,(.q ids 6 g6)),(22,(.str r7.1)),(142,(.bool r9))] (FI J)<|hJ13 r9 _ _ ⟨J,J⟩
              refine A0 (t:=138) hb27 J<|Ab 4 [] [(142,(.bool false))] ?_
              refine Bn<|Ca [(17,(.q ids 4 g4)),(20,(.q ids 5 g5)),(21,(.q ids 6 g6)),(22,(.str r7.1)),(142,(.bool false))] (FI J)<|hJ13 false _ _ ⟨J,J⟩
             ·refine A0 (t:=134) hb25 J<|Ab 3 [] [(137,(.bool (r5.1==[118,111,108,117,109,101,32,97,32,59])))] ?_
              exact Ba hJ12 (.cons J (.cons J (.cons J (.cons J (.cons (Gp hb25) .nil)))))
             refine A0 (t:=134) hb25 J<|Ab 3 [] [(137,(.bool false))] ?_
             exact Ba hJ12 (.cons J (.cons J (.cons J (.cons J (.cons (Gm hb25) .nil)))))
            ·refine A0 (t:=127) hb23 J<|Ab 3 [] [(130,(.bool true))] ?_
             exact Ba hJ11 (.cons J (.cons J (.cons J (.cons J (.cons J (.cons J (.cons (Fb hb23) .nil)))))))
            refine A0 (t:=127) hb23 J<|Ab 3 [] [(130,(.bool (r6.2.1 != 0)))] ?_
            exact Ba hJ11 (.cons J (.cons J (.cons J (.cons J (.cons J (.cons J (.cons (Fa hb23) .nil)))))))
           ·refine A0 (t:=123) hb21 J<|Ab 3 [] [(126,(.bool true))] ?_
            exact Ba hJ10 (.cons J (.cons J (.cons J (.cons J (.cons J (.cons J (.cons J (.cons (Fb hb21) .nil))))))))
           refine A0 (t:=123) hb21 J<|Ab 3 [] [(126,(.bool (r3.2.1 != 14)))] ?_
           exact Ba hJ10 (.cons J (.cons J (.cons J (.cons J (.cons J (.cons J (.cons J (.cons (Fa hb21) .nil))))))))
          ·refine A0 (t:=119) hb19 J<|Ab 3 [] [(122,(.bool true))] ?_
           exact Ba hJ9 (.cons J (.cons J (.cons J (.cons J (.cons J (.cons J (.cons J (.cons J (.cons (Fb hb19) .nil)))))))))
          refine A0 (t:=119) hb19 J<|Ab 3 [] [(122,(.bool (r2.2.1 != 12)))] ?_
          exact Ba hJ9 (.cons J (.cons J (.cons J (.cons J (.cons J (.cons J (.cons J (.cons J (.cons (Fa hb19) .nil)))))))))
         ·refine A0 (t:=115) hb17 J<|Ab 3 [] [(118,(.bool true))] ?_
          exact Ba hJ8 (.cons J (.cons J (.cons J (.cons J (.cons J (.cons J (.cons J (.cons J (.cons J (.cons (Fb hb17) .nil))))))))))
         refine A0 (t:=115) hb17 J<|Ab 3 [] [(118,(.bool (r1.2.1 != 22)))] ?_
         exact Ba hJ8 (.cons J (.cons J (.cons J (.cons J (.cons J (.cons J (.cons J (.cons J (.cons J (.cons (Fa hb17) .nil))))))))))
        ·refine A0 (t:=111) hb15 J<|Ab 3 [] [(114,(.bool true))] ?_
         exact Ba hJ7 (.cons J (.cons J (.cons J (.cons J (.cons J (.cons J (.cons J (.cons J (.cons J (.cons J (.cons (Fb hb15) .nil)))))))))))
        refine A0 (t:=111) hb15 J<|Ab 3 [] [(114,(.bool (r.2.1 != 0)))] ?_
        exact Ba hJ7 (.cons J (.cons J (.cons J (.cons J (.cons J (.cons J (.cons J (.cons J (.cons J (.cons J (.cons (Fa hb15) .nil)))))))))))
       ·refine A0 (t:=107) hb13 J<|Ab 3 [] [(110,(.bool true))] ?_
        exact Ba hJ6 (.cons J (.cons J (.cons J (.cons J (.cons J (.cons J (.cons J (.cons J (.cons J (.cons J (.cons J (.cons (Fb hb13) .nil))))))))))))
       refine A0 (t:=107) hb13 J<|Ab 3 [] [(110,(.bool (r7.2 != 0)))] ?_
       exact Ba hJ6 (.cons J (.cons J (.cons J (.cons J (.cons J (.cons J (.cons J (.cons J (.cons J (.cons J (.cons J (.cons (Fa hb13) .nil))))))))))))
      ·refine A0 (t:=103) hb11 J<|Ab 3 [] [(106,(.bool true))] ?_
       exact Ba hJ5 (.cons J (.cons J (.cons J (.cons J (.cons J (.cons J (.cons J (.cons J (.cons J (.cons J (.cons J (.cons J (.cons (Fb hb11) .nil)))))))))))))
      refine A0 (t:=103) hb11 J<|Ab 3 [] [(106,(.bool (r6.2.2 != 0)))] ?_
      exact Ba hJ5 (.cons J (.cons J (.cons J (.cons J (.cons J (.cons J (.cons J (.cons J (.cons J (.cons J (.cons J (.cons J (.cons (Fa hb11) .nil)))))))))))))
     ·refine A0 (t:=99) hb9 J<|Ab 3 [] [(102,(.bool true))] ?_
      exact Ba hJ4 (.cons J (.cons J (.cons J (.cons J (.cons J (.cons J (.cons J (.cons J (.cons J (.cons J (.cons J (.cons J (.cons J (.cons (Fb hb9) .nil))))))))))))))
     refine A0 (t:=99) hb9 J<|Ab 3 [] [(102,(.bool (r5.2 != 0)))] ?_
     exact Ba hJ4 (.cons J (.cons J (.cons J (.cons J (.cons J (.cons J (.cons J (.cons J (.cons J (.cons J (.cons J (.cons J (.cons J (.cons (Fa hb9) .nil))))))))))))))
    ·refine A0 (t:=95) hb7 J<|Ab 3 [] [(98,(.bool true))] ?_
     exact Ba hJ3 (.cons J (.cons J (.cons J (.cons J (.cons J (.cons J (.cons J (.cons J (.cons J (.cons J (.cons J (.cons J (.cons J (.cons J (.cons (Fb hb7) .nil)))))))))))))))
    refine A0 (t:=95) hb7 J<|Ab 3 [] [(98,(.bool (r4.2 != 80)))] ?_
    exact Ba hJ3 (.cons J (.cons J (.cons J (.cons J (.cons J (.cons J (.cons J (.cons J (.cons J (.cons J (.cons J (.cons J (.cons J (.cons J (.cons (Fa hb7) .nil)))))))))))))))
   ·refine A0 (t:=91) hb5 J<|Ab 3 [] [(94,(.bool true))] ?_
    exact Ba hJ2 (.cons J (.cons J (.cons J (.cons J (.cons J (.cons J (.cons J (.cons J (.cons J (.cons J (.cons J (.cons J (.cons J (.cons J (.cons J (.cons (Fb hb5) .nil))))))))))))))))
   refine A0 (t:=91) hb5 J<|Ab 3 [] [(94,(.bool (r3.2.2 != 80)))] ?_
   exact Ba hJ2 (.cons J (.cons J (.cons J (.cons J (.cons J (.cons J (.cons J (.cons J (.cons J (.cons J (.cons J (.cons J (.cons J (.cons J (.cons J (.cons (Fa hb5) .nil))))))))))))))))
  ·refine A0 (t:=87) hb3 J<|Ab 3 [] [(90,(.bool true))] ?_
   exact Ba hJ1 (.cons J (.cons J (.cons J (.cons J (.cons J (.cons J (.cons J (.cons J (.cons J (.cons J (.cons J (.cons J (.cons J (.cons J (.cons J (.cons J (.cons (Fb hb3) .nil)))))))))))))))))
  refine A0 (t:=87) hb3 J<|Ab 3 [] [(90,(.bool (r2.2.2 != 80)))] ?_
  exact Ba hJ1 (.cons J (.cons J (.cons J (.cons J (.cons J (.cons J (.cons J (.cons J (.cons J (.cons J (.cons J (.cons J (.cons J (.cons J (.cons J (.cons J (.cons (Fa hb3) .nil)))))))))))))))))
 ·refine A0 (t:=83) hb1 J<|Ab 3 [] [(86,(.bool true))] ?_
  exact Ba hJ (.cons J (.cons J (.cons J (.cons J (.cons J (.cons J (.cons J (.cons J (.cons J (.cons J (.cons J (.cons J (.cons J (.cons J (.cons J (.cons J (.cons J (.cons (Fb hb1) .nil))))))))))))))))))
 refine A0 (t:=83) hb1 J<|Ab 3 [] [(86,(.bool (r1.2.2 != 80)))] ?_
 exact Ba hJ (.cons J (.cons J (.cons J (.cons J (.cons J (.cons J (.cons J (.cons J (.cons J (.cons J (.cons J (.cons J (.cons J (.cons J (.cons J (.cons J (.cons J (.cons (Fa hb1) .nil))))))))))))))))))
end Go.Am
namespace Go.Am
open Go Go.Proofs
set_option maxRecDepth 100000
set_option maxHeartbeats 4000000
set_option linter.unusedSimpArgs false
set_option linter.unusedVariables false
theorem Ac1 (a:Airspace)(b:Airspace):CP Tryz.prog 18 [(.agg (Aw a)),(.agg (Aw b))] (Rj a b) (fun(x:Bool)=>(AV.bool x)):=by
 refine Cq (n:=83) 2 Tryz.func18 J (by decide) J J fun h0 ids hI=>Bo (Al (Rj.eq_1 _ _) ?_)
 refine Y<|O<|Ck (v:=(.agg (Aw a))) (j:=0) hI J J J J J J J fun g=>Ck (v:=(.agg (Aw b))) (j:=1) hI J J J J J J J fun g1=>Z (.bool false) J An<|Aa<|Aj ?_
 refine Y<|O<|Ab 2 [0] [(6,(.sl 2 (List.map As a.Volumes)))] ?_
 refine Z (.I (a.Volumes.length:Int)) J (Ay (A8 Ew))<|Ab 2 [1] [(9,(.sl 2 (List.map As b.Volumes)))] ?_
 refine Z (.I (b.Volumes.length:Int)) J (Ay (A8 Ew))<|Ab 3 [] [(13,(.bool (decide ((IntKind.wrap .i64 ((a.Volumes.length:Int)+(b.Volumes.length:Int)))≤64))))] ?_
 refine Bw 9 [(2,(.q ids 0 g)),(3,(.q ids 1 g1)),(22,(.bool ((decide ((IntKind.wrap .i64 ((a.Volumes.length:Int)+(b.Volumes.length:Int)))≤64))&&(decide ((IntKind.wrap .i64 ((a.Sectors.length:Int)+(b.Sectors.length:Int)))≤64)))))] ?_ fun hJ=>Bq (decide ((IntKind.wrap .i64 ((a.Volumes.length:Int)+(b.Volumes.length:Int)))≤64)) (fun hb1=>?_) (fun hb1=>?_)
 ·refine Z (.bool ((decide ((IntKind.wrap .i64 ((a.Volumes.length:Int)+(b.Volumes.length:Int)))≤64))&&(decide ((IntKind.wrap .i64 ((a.Sectors.length:Int)+(b.Sectors.length:Int)))≤64)))) J Ae<|Bw 9 [(2,(.q ids 0 g)),(3,(.q ids 1 g1)),(32,(.bool (((decide ((IntKind.wrap .i64 ((a.Volumes.length:Int)+(b.Volumes.length:Int)))≤64))&&(decide ((IntKind.wrap .i64 ((a.Sectors.length:Int)+(b.Sectors.length:Int)))≤64)))&&(decide ((IntKind.wrap .i64 ((a.Configs.length:Int)+(b.Configs.length:Int)))≤32)))))] ?_ fun hJ1=>Bq ((decide ((IntKind.wrap .i64 ((a.Volumes.length:Int)+(b.Volumes.length:Int)))≤64))&&(decide ((IntKind.wrap .i64 ((a.Sectors.length:Int)+(b.Sectors.length:Int)))≤64))) (fun hb3=>?_) (fun hb3=>?_)
  ·refine Z (.bool (((decide ((IntKind.wrap .i64 ((a.Volumes.length:Int)+(b.Volumes.length:Int)))≤64))&&(decide ((IntKind.wrap .i64 ((a.Sectors.length:Int)+(b.Sectors.length:Int)))≤64)))&&(decide ((IntKind.wrap .i64 ((a.Configs.length:Int)+(b.Configs.length:Int)))≤32)))) J Ae<|Bw 9 [(2,(.q ids 0 g)),(3,(.q ids 1 g1)),(42,(.bool ((((decide ((IntKind.wrap .i64 ((a.Volumes.length:Int)+(b.Volumes.length:Int)))≤64))&&(decide ((IntKind.wrap .i64 ((a.Sectors.length:Int)+(b.Sectors.length:Int)))≤64)))&&(decide ((IntKind.wrap .i64 ((a.Configs.length:Int)+(b.Configs.length:Int)))≤32)))&&(decide ((IntKind.wrap .i64 ((a.Segments.length:Int)+(b.Segments.length:Int)))≤128)))))] ?_ fun hJ2=>Bq (((decide ((IntKind.wrap .i64 ((a.Volumes.length:Int)+(b.Volumes.length:Int)))≤64))&&(decide ((IntKind.wrap .i64 ((a.Sectors.length:Int)+(b.Sectors.length:Int)))≤64)))&&(decide ((IntKind.wrap .i64 ((a.Configs.length:Int)+(b.Configs.length:Int)))≤32))) (fun hb5=>?_) (fun hb5=>?_)
   ·refine Z (.bool ((((decide ((IntKind.wrap .i64 ((a.Volumes.length:Int)+(b.Volumes.length:Int)))≤64))&&(decide ((IntKind.wrap .i64 ((a.Sectors.length:Int)+(b.Sectors.length:Int)))≤64)))&&(decide ((IntKind.wrap .i64 ((a.Configs.length:Int)+(b.Configs.length:Int)))≤32)))&&(decide ((IntKind.wrap .i64 ((a.Segments.length:Int)+(b.Segments.length:Int)))≤128)))) J Ae<|Bw 9 [(2,(.q ids 0 g)),(3,(.q ids 1 g1)),(52,(.bool (((((decide ((IntKind.wrap .i64 ((a.Volumes.length:Int)+(b.Volumes.length:Int)))≤64))&&(decide ((IntKind.wrap .i64 ((a.Sectors.length:Int)+(b.Sectors.length:Int)))≤64)))&&(decide ((IntKind.wrap .i64 ((a.Configs.length:Int)+(b.Configs.length:Int)))≤32)))&&(decide ((IntKind.wrap .i64 ((a.Segments.length:Int)+(b.Segments.length:Int)))≤128)))&&(decide ((IntKind.wrap .i64 ((a.Routes.length:Int)+(b.Routes.length:Int)))≤64)))))] ?_ fun hJ3=>Bq ((((decide ((IntKind.wrap .i64 ((a.Volumes.length:Int)+(b.Volumes.length:Int)))≤64))&&(decide ((IntKind.wrap .i64 ((a.Sectors.length:Int)+(b.Sectors.length:Int)))≤64)))&&(decide ((IntKind.wrap .i64 ((a.Configs.length:Int)+(b.Configs.length:Int)))≤32)))&&(decide ((IntKind.wrap .i64 ((a.Segments.length:Int)+(b.Segments.length:Int)))≤128))) (fun hb7=>?_) (fun hb7=>?_)
    ·refine Z (.bool (((((decide ((IntKind.wrap .i64 ((a.Volumes.length:Int)+(b.Volumes.length:Int)))≤64))&&(decide ((IntKind.wrap .i64 ((a.Sectors.length:Int)+(b.Sectors.length:Int)))≤64)))&&(decide ((IntKind.wrap .i64 ((a.Configs.length:Int)+(b.Configs.length:Int)))≤32)))&&(decide ((IntKind.wrap .i64 ((a.Segments.length:Int)+(b.Segments.length:Int)))≤128)))&&(decide ((IntKind.wrap .i64 ((a.Routes.length:Int)+(b.Routes.length:Int)))≤64)))) J Ae<|Bw 9 [(2,(.q ids 0 g)),(3,(.q ids 1 g1)),(62,(.bool ((((((decide ((IntKind.wrap .i64 ((a.Volumes.length:Int)+(b.Volumes.length:Int)))≤64))&&(decide ((IntKind.wrap .i64 ((a.Sectors.length:Int)+(b.Sectors.length:Int)))≤64)))&&(decide ((IntKind.wrap .i64 ((a.Configs.length:Int)+(b.Configs.length:Int)))≤32)))&&(decide ((IntKind.wrap .i64 ((a.Segments.length:Int)+(b.Segments.length:Int)))≤128)))&&(decide ((IntKind.wrap .i64 ((a.Routes.length:Int)+(b.Routes.length:Int)))≤64)))&&(decide ((IntKind.wrap .i64 ((a.Airports.length:Int)+(b.Airports.length:Int)))≤16)))))] ?_ fun hJ4=>Bq (((((decide ((IntKind.wrap .i64 ((a.Volumes.length:Int)+(b.Volumes.length:Int)))≤64))&&(decide ((IntKind.wrap .i64 ((a.Sectors.length:Int)+(b.Sectors.length:Int)))≤64)))&&(decide ((IntKind.wrap .i64 ((a.Configs.length:Int)+(b.Configs.length:Int)))≤32)))&&(decide ((IntKind.wrap .i64 ((a.Segments.length:Int)+(b.Segments.length:Int)))≤128)))&&(decide ((IntKind.wrap .i64 ((a.Routes.length:Int)+(b.Routes.length:Int)))≤64))) (fun hb9=>?_) (fun hb9=>?_)
     ·refine Z (.bool ((((((decide ((IntKind.wrap .i64 ((a.Volumes.length:Int)+(b.Volumes.length:Int)))≤64))&&(decide ((IntKind.wrap .i64 ((a.Sectors.length:Int)+(b.Sectors.length:Int)))≤64)))&&(decide ((IntKind.wrap .i64 ((a.Configs.length:Int)+(b.Configs.length:Int)))≤32)))&&(decide ((IntKind.wrap .i64 ((a.Segments.length:Int)+(b.Segments.length:Int)))≤128)))&&(decide ((IntKind.wrap .i64 ((a.Routes.length:Int)+(b.Routes.length:Int)))≤64)))&&(decide ((IntKind.wrap .i64 ((a.Airports.length:Int)+(b.Airports.length:Int)))≤16)))) J Ae<|Bw 9 [(2,(.q ids 0 g)),(3,(.q ids 1 g1)),(72,(.bool (((((((decide ((IntKind.wrap .i64 ((a.Volumes.length:Int)+(b.Volumes.length:Int)))≤64))&&(decide ((IntKind.wrap .i64 ((a.Sectors.length:Int)+(b.Sectors.length:Int)))≤64)))&&(decide ((IntKind.wrap .i64 ((a.Configs.length:Int)+(b.Configs.length:Int)))≤32)))&&(decide ((IntKind.wrap .i64 ((a.Segments.length:Int)+(b.Segments.length:Int)))≤128)))&&(decide ((IntKind.wrap .i64 ((a.Routes.length:Int)+(b.Routes.length:Int)))≤64)))&&(decide ((IntKind.wrap .i64 ((a.Airports.length:Int)+(b.Airports.length:Int)))≤16)))&&(decide ((IntKind.wrap .i64 ((a.Classes.length:Int)+(b.Classes.length:Int)))≤8)))))] ?_ fun hJ5=>Bq ((((((decide ((IntKind.wrap .i64 ((a.Volumes.length:Int)+(b.Volumes.length:Int)))≤64))&&(decide ((IntKind.wrap .i64 ((a.Sectors.length:Int)+(b.Sectors.length:Int)))≤64)))&&(decide ((IntKind.wrap .i64 ((a.Configs.length:Int)+(b.Configs.length:Int)))≤32)))&&(decide ((IntKind.wrap .i64 ((a.Segments.length:Int)+(b.Segments.length:Int)))≤128)))&&(decide ((IntKind.wrap .i64 ((a.Routes.length:Int)+(b.Routes.length:Int)))≤64)))&&(decide ((IntKind.wrap .i64 ((a.Airports.length:Int)+(b.Airports.length:Int)))≤16))) (fun hb11=>?_) (fun hb11=>?_)
      ·refine Z (.bool (((((((decide ((IntKind.wrap .i64 ((a.Volumes.length:Int)+(b.Volumes.length:Int)))≤64))&&(decide ((IntKind.wrap .i64 ((a.Sectors.length:Int)+(b.Sectors.length:Int)))≤64)))&&(decide ((IntKind.wrap .i64 ((a.Configs.length:Int)+(b.Configs.length:Int)))≤32)))&&(decide ((IntKind.wrap .i64 ((a.Segments.length:Int)+(b.Segments.length:Int)))≤128)))&&(decide ((IntKind.wrap .i64 ((a.Routes.length:Int)+(b.Routes.length:Int)))≤64)))&&(decide ((IntKind.wrap .i64 ((a.Airports.length:Int)+(b.Airports.length:Int)))≤16)))&&(decide ((IntKind.wrap .i64 ((a.Classes.length:Int)+(b.Classes.length:Int)))≤8)))) J Ae<|Bw 9 [(82,(.bool ((((((((decide ((IntKind.wrap .i64 ((a.Volumes.length:Int)+(b.Volumes.length:Int)))≤64))&&(decide ((IntKind.wrap .i64 ((a.Sectors.length:Int)+(b.Sectors.length:Int)))≤64)))&&(decide ((IntKind.wrap .i64 ((a.Configs.length:Int)+(b.Configs.length:Int)))≤32)))&&(decide ((IntKind.wrap .i64 ((a.Segments.length:Int)+(b.Segments.length:Int)))≤128)))&&(decide ((IntKind.wrap .i64 ((a.Routes.length:Int)+(b.Routes.length:Int)))≤64)))&&(decide ((IntKind.wrap .i64 ((a.Airports.length:Int)+(b.Airports.length:Int)))≤16)))&&(decide ((IntKind.wrap .i64 ((a.Classes.length:Int)+(b.Classes.length:Int)))≤8)))&&(decide ((IntKind.wrap .i64 ((a.Rules.length:Int)+(b.Rules.length:Int)))≤64)))))] ?_ fun hJ6=>Bq (((((((decide ((IntKind.wrap .i64 ((a.Volumes.length:Int)+(b.Volumes.length:Int)))≤64))&&(decide ((IntKind.wrap .i64 ((a.Sectors.length:Int)+(b.Sectors.length:Int)))≤64)))&&(decide ((IntKind.wrap .i64 ((a.Configs.length:Int)+(b.Configs.length:Int)))≤32)))&&(decide ((IntKind.wrap .i64 ((a.Segments.length:Int)+(b.Segments.length:Int)))≤128)))&&(decide ((IntKind.wrap .i64 ((a.Routes.length:Int)+(b.Routes.length:Int)))≤64)))&&(decide ((IntKind.wrap .i64 ((a.Airports.length:Int)+(b.Airports.length:Int)))≤16)))&&(decide ((IntKind.wrap .i64 ((a.Classes.length:Int)+(b.Classes.length:Int)))≤8))) (fun hb13=>?_) (fun hb13=>?_)
       ·refine Z (.bool ((((((((decide ((IntKind.wrap .i64 ((a.Volumes.length:Int)+(b.Volumes.length:Int)))≤64))&&(decide ((IntKind.wrap .i64 ((a.Sectors.length:Int)+(b.Sectors.length:Int)))≤64)))&&(decide ((IntKind.wrap .i64 ((a.Configs.length:Int)+(b.Configs.length:Int)))≤32)))&&(decide ((IntKind.wrap .i64 ((a.Segments.length:Int)+(b.Segments.length:Int)))≤128)))&&(decide ((IntKind.wrap .i64 ((a.Routes.length:Int)+(b.Routes.length:Int)))≤64)))&&(decide ((IntKind.wrap .i64 ((a.Airports.length:Int)+(b.Airports.length:Int)))≤16)))&&(decide ((IntKind.wrap .i64 ((a.Classes.length:Int)+(b.Classes.length:Int)))≤8)))&&(decide ((IntKind.wrap .i64 ((a.Rules.length:Int)+(b.Rules.length:Int)))≤64)))) J An<|Aa<|Bv (a:=((((((((decide ((IntKind.wrap .i64 ((a.Volumes.length:Int)+(b.Volumes.length:Int)))≤64))&&(decide ((IntKind.wrap .i64 ((a.Sectors.length:Int)+(b.Sectors.length:Int)))≤64)))&&(decide ((IntKind.wrap .i64 ((a.Configs.length:Int)+(b.Configs.length:Int)))≤32)))&&(decide ((IntKind.wrap .i64 ((a.Segments.length:Int)+(b.Segments.length:Int)))≤128)))&&(decide ((IntKind.wrap .i64 ((a.Routes.length:Int)+(b.Routes.length:Int)))≤64)))&&(decide ((IntKind.wrap .i64 ((a.Airports.length:Int)+(b.Airports.length:Int)))≤16)))&&(decide ((IntKind.wrap .i64 ((a.Classes.length:Int)+(b.Classes.length:Int)))≤8)))&&(decide ((IntKind.wrap .i64 ((a.Rules.length:Int)+(b.Rules.length:Int)))≤64)))) (vs:=[(.bool ((((((((decide ((IntKind.wrap .i64 ((a.Volumes.length:Int)+(b.Volumes.length:Int)))≤64))&&(decide ((IntKind.wrap .i64 ((a.Sectors.length:Int)+(b.Sectors.length:Int)))≤64)))&&(decide ((IntKind.wrap .i64 ((a.Configs.length:Int)+(b.Configs.length:Int)))≤32)))&&(decide ((IntKind.wrap .i64 ((a.Segments.length:Int)+(b.Segments.length:Int)))≤128)))&&(decide ((IntKind.wrap .i64 ((a.Routes.length:Int)+(b.Routes.length:Int)))≤64)))&&(decide ((IntKind.wrap .i64 ((a.Airports.length:Int)+(b.Airports.length:Int)))≤16)))&&(decide ((IntKind.wrap .i64 ((a.Classes.length:Int)+(b.Classes.length:Int)))≤8)))&&(decide ((IntKind.wrap .i64 ((a.Rules.length:Int)+(b.Rules.length:Int)))≤64))))]) Tryz.func18 hI J (.same _)
       ·refine A0 (t:=73) hb13 J<|Ab 2 [0] [(75,(.sl 8 (List.map A7 a.Rules)))] ?_
        refine Bu (tj:=73) (.I (a.Rules.length:Int)) J J J (Ay (A8 Dz))<|Ab 2 [1] [(78,(.sl 8 (List.map A7 b.Rules)))] ?_
        refine Bu (tj:=73) (.I (b.Rules.length:Int)) J J J (Ay (A8 Dz))<|Ab 3 [] [(82,(.bool (decide ((IntKind.wrap .i64 ((a.Rules.length:Int)+(b.Rules.length:Int)))≤64))))] ?_
        exact Ba hJ6 (.cons (Gp hb13) .nil)
       refine A0 (t:=73) hb13 J<|Ab 9 [] [(82,(.bool false))] ?_
       exact Ba hJ6 (.cons (Gm hb13) .nil)
      ·refine A0 (t:=63) hb11 J<|Ab 2 [0] [(65,(.sl 4 (List.map B2 a.Classes)))] ?_
       refine Bu (tj:=63) (.I (a.Classes.length:Int)) J J J (Ay (A8 Fs))<|Ab 2 [1] [(68,(.sl 4 (List.map B2 b.Classes)))] ?_
       refine Bu (tj:=63) (.I (b.Classes.length:Int)) J J J (Ay (A8 Fs))<|Ab 3 [] [(72,(.bool (decide ((IntKind.wrap .i64 ((a.Classes.length:Int)+(b.Classes.length:Int)))≤8))))] ?_
       exact Ba hJ5 (.cons J (.cons J (.cons (Gp hb11) .nil)))
      refine A0 (t:=63) hb11 J<|Ab 9 [] [(72,(.bool false))] ?_
      exact Ba hJ5 (.cons J (.cons J (.cons (Gm hb11) .nil)))
     ·refine A0 (t:=53) hb9 J<|Ab 2 [0] [(55,(.sl 2 (List.map Bb a.Airports)))] ?_
      refine Bu (tj:=53) (.I (a.Airports.length:Int)) J J J (Ay (A8 F6))<|Ab 2 [1] [(58,(.sl 2 (List.map Bb b.Airports)))] ?_
      refine Bu (tj:=53) (.I (b.Airports.length:Int)) J J J (Ay (A8 F6))<|Ab 3 [] [(62,(.bool (decide ((IntKind.wrap .i64 ((a.Airports.length:Int)+(b.Airports.length:Int)))≤16))))] ?_
      exact Ba hJ4 (.cons J (.cons J (.cons (Gp hb9) .nil)))
     refine A0 (t:=53) hb9 J<|Ab 9 [] [(62,(.bool false))] ?_
     exact Ba hJ4 (.cons J (.cons J (.cons (Gm hb9) .nil)))
    ·refine A0 (t:=43) hb7 J<|Ab 2 [0] [(45,(.sl 7 (List.map Bt a.Routes)))] ?_
     refine Bu (tj:=43) (.I (a.Routes.length:Int)) J J J (Ay (A8 Gi))<|Ab 2 [1] [(48,(.sl 7 (List.map Bt b.Routes)))] ?_
     refine Bu (tj:=43) (.I (b.Routes.length:Int)) J J J (Ay (A8 Gi))<|Ab 3 [] [(52,(.bool (decide ((IntKind.wrap .i64 ((a.Routes.length:Int)+(b.Routes.length:Int)))≤64))))] ?_
     exact Ba hJ3 (.cons J (.cons J (.cons (Gp hb7) .nil)))
    refine A0 (t:=43) hb7 J<|Ab 9 [] [(52,(.bool false))] ?_
    exact Ba hJ3 (.cons J (.cons J (.cons (Gm hb7) .nil)))
   ·refine A0 (t:=33) hb5 J<|Ab 2 [0] [(35,(.sl 5 (List.map Bd a.Segments)))] ?_
    refine Bu (tj:=33) (.I (a.Segments.length:Int)) J J J (Ay (A8 Gk))<|Ab 2 [1] [(38,(.sl 5 (List.map Bd b.Segments)))] ?_
    refine Bu (tj:=33) (.I (b.Segments.length:Int)) J J J (Ay (A8 Gk))<|Ab 3 [] [(42,(.bool (decide ((IntKind.wrap .i64 ((a.Segments.length:Int)+(b.Segments.length:Int)))≤128))))] ?_
    exact Ba hJ2 (.cons J (.cons J (.cons (Gp hb5) .nil)))
   refine A0 (t:=33) hb5 J<|Ab 9 [] [(42,(.bool false))] ?_
   exact Ba hJ2 (.cons J (.cons J (.cons (Gm hb5) .nil)))
  ·refine A0 (t:=23) hb3 J<|Ab 2 [0] [(25,(.sl 3 (List.map Bk a.Configs)))] ?_
   refine Bu (tj:=23) (.I (a.Configs.length:Int)) J J J (Ay (A8 Gl))<|Ab 2 [1] [(28,(.sl 3 (List.map Bk b.Configs)))] ?_
   refine Bu (tj:=23) (.I (b.Configs.length:Int)) J J J (Ay (A8 Gl))<|Ab 3 [] [(32,(.bool (decide ((IntKind.wrap .i64 ((a.Configs.length:Int)+(b.Configs.length:Int)))≤32))))] ?_
   exact Ba hJ1 (.cons J (.cons J (.cons (Gp hb3) .nil)))
  refine A0 (t:=23) hb3 J<|Ab 9 [] [(32,(.bool false))] ?_
  exact Ba hJ1 (.cons J (.cons J (.cons (Gm hb3) .nil)))
 ·refine A0 (t:=13) hb1 J<|Ab 2 [0] [(15,(.sl 5 (List.map A6 a.Sectors)))] ?_
  refine Bu (tj:=13) (.I (a.Sectors.length:Int)) J J J (Ay (A8 Fr))<|Ab 2 [1] [(18,(.sl 5 (List.map A6 b.Sectors)))] ?_
  refine Bu (tj:=13) (.I (b.Sectors.length:Int)) J J J (Ay (A8 Fr))<|Ab 3 [] [(22,(.bool (decide ((IntKind.wrap .i64 ((a.Sectors.length:Int)+(b.Sectors.length:Int)))≤64))))] ?_
  exact Ba hJ (.cons J (.cons J (.cons (Gp hb1) .nil)))
 refine A0 (t:=13) hb1 J<|Ab 9 [] [(22,(.bool false))] ?_
 exact Ba hJ (.cons J (.cons J (.cons (Gm hb1) .nil)))
end Go.Am
