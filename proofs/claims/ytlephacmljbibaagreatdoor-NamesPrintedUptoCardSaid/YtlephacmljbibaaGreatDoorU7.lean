/- Written by shrink.py from texts of ours: comments struck, what is not reached left out, names short. -/
import Derived.Test.YtlephacmljbibaaGreatDoorU6
namespace Go.Am
open Go Go.Proofs
set_option maxRecDepth 100000
set_option maxHeartbeats 4000000
set_option linter.unusedSimpArgs false
set_option linter.unusedVariables false
theorem Yj (text:An)(l:List Volume)(most:Int)(s0_bad:Bool)(h0:Af)(o0:Nat)(o1:Nat)(o2:Nat)(g:Nat)(g1:Nat)(hI0:Ids h0 [o0,o1,o2] 3):G7 text l most s0_bad≠.bad→Bg Tryz.prog 16 [(.ptr o0 g 0 0),(.str text),(.sl 2 (List.map Ar l)),(.int .i64 most),(.func (.func 17) [] [(.ptr o1 g1 0 0)])] (hp h0 [o0,o1,o2] [some (.rows g 2 [[.emp,(.bool s0_bad)]]),some (.rows g1 1 [[(.ptr o0 g 0 0)]]),none]) (Cq (fun a_ v h' => ∃ (v6:AV),∃ (g8:Nat),Az v6 o2 g8 a_.2.length∧v=(.tup [])∧h'=hp h0 [o0,o1,o2] [some (.rows g 2 [[v6,(.bool a_.1)]]),some (.rows g1 1 [[(.ptr o0 g 0 0)]]),Ai v6 g8 4 (List.map Ad a_.2)]) h0 (G7 text l most s0_bad)):=by
 refine Bb (n:=44) 1 Tryz.func16 J (by decide) J J hI0 J fun ids he hI=>?_
 clear hI0
 obtain rfl:ix ids 0=o0:=he 0 rfl
 obtain rfl:ix ids 1=o1:=he 1 rfl
 obtain rfl:ix ids 2=o2:=he 2 rfl
 clear he
 refine Bk (Al (G7.eq_1 _ _ _ _) ?_)
 refine Ak ?_
 refine Y<|O<|Ac 6 [0] [(17,(.bool s0_bad)),(12,(.q ids 0 g))] ?_
 refine B9 5 [(0,(.q ids 0 g)),(1,(.str text)),(2,(.sl 2 (List.map Ar l))),(4,(.func (.func 17) [] [(.q ids 1 g1)])),(12,(.q ids 0 g)),(22,(.bool (s0_bad||(decide ((l.length:Int) > most)))))] ?_ fun hJ=>Bz s0_bad (fun hb1=>?_) (fun hb1=>?_)
 ·refine Ac 2 [] [(24,(.ptr (ix ids 0) g 0 1))] ?_
  refine Au (A4 (v:=(.bool (s0_bad||(decide ((l.length:Int) > most))))) hI J J J J R9 J J J J J)<|Z<|Ak ?_
  refine Y<|O<|Aa (.sl 2 (List.map Ar l)) J Ae<|Aa (.I (l.length:Int)) J (Ay (A8 H7))<|Aa (.I 0) J Ae<|Z<|A3 ?_
  refine Db [(0,(.q ids 0 g)),(1,(.str text)),(4,(.func (.func 17) [] [(.q ids 1 g1)])),(25,(.sl 2 (List.map Ar l))),(26,(.I (l.length:Int))),(27,(.I 0))] (FI J)<|Di (P:=Tryz.prog) l (fun _ a=>C2 fun fBad l1=>F3 text a fBad l1) (((C2 fun fBad l1=>.ok (fBad,l1))):(Bool×(List Token))→R (Bool×(List Token))) (fun j=>C2 fun fBad l1=>fun(fr:Nat→AV) (h:Af) => ∃ (v1:AV),∃ (g2:Nat),Az v1 (ix ids 2) g2 l1.length∧fr=A2 [(0,(.q ids 0 g)),(1,(.str text)),(4,(.func (.func 17) [] [(.q ids 1 g1)])),(25,(.sl 2 (List.map Ar l))),(26,(.I (l.length:Int))),(27,(.I (j:Int)))]∧h=hp h0 ids [(some (.rows g 2 [[v1,(.bool fBad)]])),(some (.rows g1 1 [[(.q ids 0 g)]])),(Ai v1 g2 4 (List.map Ad l1)),none]) ((s0_bad||(decide ((l.length:Int) > most))),[]) ?_ ?_ ?_
  ·exact⟨.emp,0,.nil,J,J⟩
  ·rintro j a ha W hW ⟨fBad,l1⟩ fr h ⟨v1,g2,vH,rfl,rfl⟩
   refine Al (m':=F3 text a fBad l1) J (Al (F3.eq_1 _ _ _ _) ?_)
   refine Y<|O<|Aa (.bool (decide ((j:Int)<(l.length:Int)))) J (Ba J J J)<|Z<|Y<|Dn (t:=25) (L:=l) J fun hlim=>Ch J (Int.ofNat_lt.2 (Av ha)) ?_
   refine A0<|Y<|A3<|Y<|O<|Aa (.cp (Ar a) 0) J (Bt (Ct H7 Lb J ha))<|Aa (.agg (Ar a)) J (As (Dh Lb J)) ?_
   refine Bl (j:=3) hI J J J J Lb J fun g3=>Au (A4 (v:=(.agg (Ar a))) hI J J J J Lb J J J J J)<|Z<|Ak ?_
   refine Y<|Y<|O<|Ac 2 [] [(32,(.bool (!(text==[]))))] ?_
   refine Z<|D3 (C2 fun fBad1 l2=>Ht a fBad1 l2) (C2 fun fBad1 l2=>fun(fr:Nat→AV) (h:Af) => ∃ (v3:AV),∃ (g5:Nat),Az v3 (ix ids 2) g5 l2.length∧fr=A2 [(0,(.q ids 0 g)),(1,(.str text)),(4,(.func (.func 17) [] [(.q ids 1 g1)])),(11,(.q ids 3 g3)),(25,(.sl 2 (List.map Ar l))),(26,(.I (l.length:Int))),(27,(.I (j:Int)))]∧h=hp h0 ids [(some (.rows g 2 [[v3,(.bool fBad1)]])),(some (.rows g1 1 [[(.q ids 0 g)]])),(Ai v3 g5 4 (List.map Ad l2)),(some (.rows g3 2 [(Ar a)]))]) ?_ fun hJ1=>?_
   ·rintro⟨fBad1,l2⟩ fr h ⟨v3,g5,vH2,rfl,rfl⟩
    refine Al (Ht.eq_1 _ _ _)<|Y<|O<|Ac 2 [3] [(38,(.agg (Ar a))),(37,(.func (.func 17) [] [(.q ids 1 g1)]))] ?_
    refine Ao [1,0,2] hI J J (Adl a fBad1 l2 _ (ix ids 1) (ix ids 0) (ix ids 2) g1 g v3 g5 vH2 (by exact hI.sub' J J)) J J J J J J (fun v _=>Ap (K:=3) (N:=1) Tryz.func16 hI) ?_
    rintro r1 _ _ _ ⟨v4,g6,vH3,rfl,rfl⟩
    refine Aw [1,0,2] hI J J J ?_
    refine Aq<|Z<|Ak ?_
    refine O<|Aa (.q ids 0 g) J Ae<|Dp (e:=rS) (L:=[[59]]) (st:=1) (rows:=[[(.str [59])]]) J Dg Cf J J J J J (.cons (RowSim.refl _) .nil) (fun x=>Hg x) J J<|Ao [0,2] hI J J (Dc [[59]] r1.1 r1.2 _ (ix ids 0) (ix ids 2) g v4 g6 vH3 (by exact hI.sub' J J)) J J J J J J (fun v _=>Ap (K:=3) (N:=1) Tryz.func16 hI) ?_
    rintro r2 _ _ _ ⟨v5,g7,vH4,rfl,rfl⟩
    refine Aw [0,2] hI J J J ?_
    refine Aq<|Z<|Ak ?_
    refine Bf<|O<|Ac 2 [] [(27,(.I (IntKind.wrap .i64 ((j:Int)+1))))] ?_
    refine Z<|Dr [(some (.rows g 2 [[v5,(.bool r2.1)]])),(some (.rows g1 1 [[(.q ids 0 g)]])),(Ai v5 g7 4 (List.map Ad r2.2)),none] hI J (.keep (.keep (.keep (.drop .nil))))<|Bp (I7 (hW (r2.1,r2.2) _ _ ⟨v5,g7,vH4,J,J⟩)) (.cons J (.cons J (.cons J (.cons J (.cons J (.cons (C3 (Av ha) hlim) .nil))))))
   refine Fj J (fun hc=>?_) (fun hc=>?_)
   ·refine A0<|Bp (hJ1 (fBad,l1) _ _ ⟨v1,g2,vH,J,J⟩)
   refine O<|Ac 2 [] [(34,(.str text)),(33,(.q ids 0 g))] ?_
   refine Dp (e:=rS) (L:=[text]) (st:=1) (rows:=[[(.str text)]]) J Dg Cf J J J J J (.cons (RowSim.refl _) .nil) (fun x=>Hg x) J J<|Ao [0,2] hI J J (By [text] fBad l1 _ (ix ids 0) (ix ids 2) g v1 g2 vH (by exact hI.sub' J J)) J J J J J J (fun v _=>Ap (K:=3) (N:=1) Tryz.func16 hI) ?_
   rintro r _ _ _ ⟨v2,g4,vH1,rfl,rfl⟩
   refine Aw [0,2] hI J J J ?_
   refine Aq<|Z<|Ak ?_
   exact Bp (hJ1 (r.1,r.2) _ _ ⟨v2,g4,vH1,J,J⟩)
  rintro⟨fBad,l1⟩ fr h ⟨v1,g2,vH,rfl,rfl⟩
  refine Al (Q7 _ _ _)<|Y<|O<|Aa (.bool (decide ((l.length:Int)<(l.length:Int)))) J (Ba J J J)<|Z<|Y<|Cg J (Int.lt_irrefl _) ?_
  refine Cl J<|Cc (K:=3) (N:=1) (a:=(fBad,l1)) (vs:=[]) [some (.rows g 2 [[v1,(.bool fBad)]]),some (.rows g1 1 [[(.q ids 0 g)]]),Ai v1 g2 4 (List.map Ad l1)] Tryz.func16 hI J J J (.keep (.keep (.keep (.keep .nil)))) (.same _) ⟨v1,g2,vH,J,J⟩
 ·refine Bj (t:=17) hb1 J<|Ac 5 [] [(22,(.bool true))] ?_
  exact Br hJ (.cons J (.cons J (.cons J (.cons J (.cons J (.cons (Fe hb1) .nil))))))
 refine Bj (t:=17) hb1 J<|Bx (tj:=17) (.sl 2 (List.map Ar l)) J J J Ae<|Bx (tj:=17) (.I (l.length:Int)) J J J (Ay (A8 H7))<|Ac 3 [] [(22,(.bool (decide ((l.length:Int) > most))))] ?_
 exact Br hJ (.cons J (.cons J (.cons J (.cons J (.cons J (.cons (Fg hb1) .nil))))))
theorem N0 (l:List An)(most:Int)(s0_bad:Bool)(l1:List Token)(h0:Af)(o0:Nat)(o1:Nat)(g:Nat)(v1:AV)(g1:Nat)(vH:Az v1 o1 g1 l1.length)(hI0:Ids h0 [o0,o1] 2):Ft l most s0_bad l1≠.bad→Bg Tryz.prog 23 [(.ptr o0 g 0 0),(.sl 1 (List.map rS l)),(.int .i64 most),(.func (.func 18) [(.ptr o0 g 0 0)] [])] (hp h0 [o0,o1] [some (.rows g 2 [[v1,(.bool s0_bad)]]),Ai v1 g1 4 (List.map Ad l1)]) (Cq (fun a_ v h' => ∃ (v6:AV),∃ (g6:Nat),Az v6 o1 g6 a_.2.length∧v=(.tup [])∧h'=hp h0 [o0,o1] [some (.rows g 2 [[v6,(.bool a_.1)]]),Ai v6 g6 4 (List.map Ad a_.2)]) h0 (Ft l most s0_bad l1)):=by
 refine Bb (n:=44) 0 Tryz.func23 J (by decide) J J hI0 J fun ids he hI=>?_
 clear hI0
 obtain rfl:ix ids 0=o0:=he 0 rfl
 obtain rfl:ix ids 1=o1:=he 1 rfl
 clear he
 refine Bk (Al (Ft.eq_1 _ _ _ _) ?_)
 refine Y<|O<|Ac 6 [0] [(15,(.bool s0_bad)),(10,(.q ids 0 g))] ?_
 refine B9 4 [(0,(.q ids 0 g)),(1,(.sl 1 (List.map rS l))),(2,(.I most)),(3,(.func (.func 18) [(.q ids 0 g)] [])),(10,(.q ids 0 g)),(19,(.bool (s0_bad||((l.length:Int)==0))))] ?_ fun hJ=>Bz s0_bad (fun hb1=>?_) (fun hb1=>?_)
 ·refine Aa (.bool (s0_bad||((l.length:Int)==0))) J Ae<|B9 5 [(0,(.q ids 0 g)),(1,(.sl 1 (List.map rS l))),(3,(.func (.func 18) [(.q ids 0 g)] [])),(10,(.q ids 0 g)),(25,(.bool ((s0_bad||((l.length:Int)==0))||(decide ((l.length:Int) > most)))))] ?_ fun hJ1=>Bz (s0_bad||((l.length:Int)==0)) (fun hb3=>?_) (fun hb3=>?_)
  ·refine Ac 2 [] [(27,(.ptr (ix ids 0) g 0 1))] ?_
   refine Au (A4 (v:=(.bool ((s0_bad||((l.length:Int)==0))||(decide ((l.length:Int) > most))))) hI J J J J R9 J J J J J)<|Z<|Ak ?_
   refine Y<|O<|Aa (.sl 1 (List.map rS l)) J Ae<|Aa (.I (l.length:Int)) J (Ay (A8 Dg))<|Aa (.I 0) J Ae<|Z<|A3 ?_
   refine Db [(0,(.q ids 0 g)),(3,(.func (.func 18) [(.q ids 0 g)] [])),(28,(.sl 1 (List.map rS l))),(29,(.I (l.length:Int))),(30,(.I 0))] (FI J)<|Di (P:=Tryz.prog) l (fun j a=>C2 fun fBad l2=>Kq j a fBad l2) (((C2 fun fBad l2=>.ok (fBad,l2))):(Bool×(List Token))→R (Bool×(List Token))) (fun j=>C2 fun fBad l2=>fun(fr:Nat→AV) (h:Af) => ∃ (v2:AV),∃ (g2:Nat),Az v2 (ix ids 1) g2 l2.length∧fr=A2 [(0,(.q ids 0 g)),(3,(.func (.func 18) [(.q ids 0 g)] [])),(28,(.sl 1 (List.map rS l))),(29,(.I (l.length:Int))),(30,(.I (j:Int)))]∧h=hp h0 ids [(some (.rows g 2 [[v2,(.bool fBad)]])),(Ai v2 g2 4 (List.map Ad l2))]) (((s0_bad||((l.length:Int)==0))||(decide ((l.length:Int) > most))),l1) ?_ ?_ ?_
   ·exact⟨v1,g1,vH,J,J⟩
   ·rintro j a ha W hW ⟨fBad,l2⟩ fr h ⟨v2,g2,vH1,rfl,rfl⟩
    refine Al (m':=Kq j a fBad l2) J (Al (Kq.eq_1 _ _ _ _) ?_)
    refine Y<|O<|Aa (.bool (decide ((j:Int)<(l.length:Int)))) J (Ba J J J)<|Z<|Y<|Dn (t:=28) (L:=l) J fun hlim=>Ch J (Int.ofNat_lt.2 (Av ha)) ?_
    refine A0<|Y<|A3<|Y<|O<|Aa (.I (j:Int)) J Ae<|Aa (.cp [(.str a)] 0) J (Bt (Ct Dg Cf J ha)) ?_
    refine Ac 3 [] [(9,(.str a)),(8,(.I (j:Int)))] ?_
    refine Z<|Y<|Y<|O<|Ac 2 [] [(36,(.bool (decide ((j:Int) > 0))))] ?_
    refine Z<|D3 (C2 fun fBad1 l3=>Kn a fBad1 l3) (C2 fun fBad1 l3=>fun(fr:Nat→AV) (h:Af) => ∃ (v4:AV),∃ (g4:Nat),Az v4 (ix ids 1) g4 l3.length∧fr=A2 [(0,(.q ids 0 g)),(3,(.func (.func 18) [(.q ids 0 g)] [])),(9,(.str a)),(28,(.sl 1 (List.map rS l))),(29,(.I (l.length:Int))),(30,(.I (j:Int)))]∧h=hp h0 ids [(some (.rows g 2 [[v4,(.bool fBad1)]])),(Ai v4 g4 4 (List.map Ad l3))]) ?_ fun hJ2=>?_
    ·rintro⟨fBad1,l3⟩ fr h ⟨v4,g4,vH3,rfl,rfl⟩
     refine Al (Kn.eq_1 _ _ _)<|O<|Ac 2 [] [(41,(.str a)),(40,(.func (.func 18) [(.q ids 0 g)] []))] ?_
     refine Ao [0,1] hI J J (C7 a fBad1 l3 _ (ix ids 0) (ix ids 1) g v4 g4 vH3 (by exact hI.sub' J J)) J J J J J J (fun v _=>Ap (K:=2) (N:=0) Tryz.func23 hI) ?_
     rintro r1 _ _ _ ⟨v5,g5,vH4,rfl,rfl⟩
     refine Aw [0,1] hI J J J ?_
     refine Aq<|Z<|Ak ?_
     refine Bf<|O<|Ac 2 [] [(30,(.I (IntKind.wrap .i64 ((j:Int)+1))))] ?_
     refine Z<|Bp (I7 (hW (r1.1,r1.2) _ _ ⟨v5,g5,vH4,J,J⟩)) (.cons J (.cons J (.cons J (.cons J (.cons (C3 (Av ha) hlim) .nil)))))
    refine On J (fun hc=>?_) (fun hc=>?_)
    ·refine O<|Aa (.q ids 0 g) J Ae<|Dp (e:=rS) (L:=[[44]]) (st:=1) (rows:=[[(.str [44])]]) J Dg Cf J J J J J (.cons (RowSim.refl _) .nil) (fun x=>Hg x) J J<|Ao [0,1] hI J J (Dc [[44]] fBad l2 _ (ix ids 0) (ix ids 1) g v2 g2 vH1 (by exact hI.sub' J J)) J J J J J J (fun v _=>Ap (K:=2) (N:=0) Tryz.func23 hI) ?_
     rintro r _ _ _ ⟨v3,g3,vH2,rfl,rfl⟩
     refine Aw [0,1] hI J J J ?_
     refine Aq<|Z<|Ak ?_
     exact Bp (hJ2 (r.1,r.2) _ _ ⟨v3,g3,vH2,J,J⟩)
    refine A0<|Bp (hJ2 (fBad,l2) _ _ ⟨v2,g2,vH1,J,J⟩)
   rintro⟨fBad,l2⟩ fr h ⟨v2,g2,vH1,rfl,rfl⟩
   refine Al (Q7 _ _ _)<|Y<|O<|Aa (.bool (decide ((l.length:Int)<(l.length:Int)))) J (Ba J J J)<|Z<|Y<|Cg J (Int.lt_irrefl _) ?_
   refine Cl J<|Cc (K:=2) (N:=0) (a:=(fBad,l2)) (vs:=[]) [some (.rows g 2 [[v2,(.bool fBad)]]),Ai v2 g2 4 (List.map Ad l2)] Tryz.func23 hI J J J (.keep (.keep .nil)) (.same _) ⟨v2,g2,vH1,J,J⟩
  ·refine Bj (t:=20) hb3 J<|Ac 5 [] [(25,(.bool true))] ?_
   exact Br hJ1 (.cons J (.cons J (.cons J (.cons J (.cons (Fe hb3) .nil)))))
  refine Bj (t:=20) hb3 J<|Bx (tj:=20) (.sl 1 (List.map rS l)) J J J Ae<|Bx (tj:=20) (.I (l.length:Int)) J J J (Ay (A8 Dg))<|Ac 3 [] [(25,(.bool (decide ((l.length:Int) > most))))] ?_
  exact Br hJ1 (.cons J (.cons J (.cons J (.cons J (.cons (Fg hb3) .nil)))))
 ·refine Bj (t:=15) hb1 J<|Ac 4 [] [(19,(.bool true))] ?_
  exact Br hJ (.cons J (.cons J (.cons J (.cons J (.cons J (.cons (Fe hb1) .nil))))))
 refine Bj (t:=15) hb1 J<|Bx (tj:=15) (.sl 1 (List.map rS l)) J J J Ae<|Bx (tj:=15) (.I (l.length:Int)) J J J (Ay (A8 Dg))<|Ac 2 [] [(19,(.bool ((l.length:Int)==0)))] ?_
 exact Br hJ (.cons J (.cons J (.cons J (.cons J (.cons J (.cons (Fg hb1) .nil))))))
theorem Ad8 (a:Sector)(s1_bad:Bool)(l:List Token)(h0:Af)(o0:Nat)(o1:Nat)(o2:Nat)(g:Nat)(g1:Nat)(v1:AV)(g2:Nat)(vH:Az v1 o2 g2 l.length)(hI0:Ids h0 [o0,o1,o2] 3):Om a s1_bad l≠.bad→Bg Tryz.prog 21 [(.agg (A9 a)),(.ptr o0 g 0 0)] (hp h0 [o0,o1,o2] [some (.rows g 1 [[(.ptr o1 g1 0 0)]]),some (.rows g1 2 [[v1,(.bool s1_bad)]]),Ai v1 g2 4 (List.map Ad l)]) (Cq (fun a_ v h' => ∃ (v9:AV),∃ (g11:Nat),Az v9 o2 g11 a_.2.length∧v=(.tup [])∧h'=hp h0 [o0,o1,o2] [some (.rows g 1 [[(.ptr o1 g1 0 0)]]),some (.rows g1 2 [[v9,(.bool a_.1)]]),Ai v9 g11 4 (List.map Ad a_.2)]) h0 (Om a s1_bad l)):=by
 refine Bb (n:=32) 1 Tryz.func21 J (by decide) J J hI0 J fun ids he hI=>?_
 clear hI0
 obtain rfl:ix ids 0=o0:=he 0 rfl
 obtain rfl:ix ids 1=o1:=he 1 rfl
 obtain rfl:ix ids 2=o2:=he 2 rfl
 clear he
 refine Bk (Al (Om.eq_1 _ _ _) ?_)
 refine Ak ?_
 refine Y<|O<|Ck (v:=(.agg (A9 a))) (j:=3) hI J J J J J J J fun g3=>Z<|Ak ?_
 refine Y<|O<|Ac 3 [0,3] [(5,(.str a.Name)),(3,(.q ids 1 g1))] ?_
 refine Ao [1,2] hI J J (C7 a.Name s1_bad l _ (ix ids 1) (ix ids 2) g1 v1 g2 vH (by exact hI.sub' J J)) J J J J J J (fun v _=>Ap (K:=3) (N:=1) Tryz.func21 hI) ?_
 rintro r _ _ _ ⟨v2,g4,vH1,rfl,rfl⟩
 refine Aw [1,2] hI J J J ?_
 refine Aq<|Z<|Ak ?_
 refine Y<|O<|Ac 1 [0] [(7,(.q ids 1 g1))] ?_
 refine Dp (e:=rS) (L:=[[61]]) (st:=1) (rows:=[[(.str [61])]]) J Dg Cf J J J J J (.cons (RowSim.refl _) .nil) (fun x=>Hg x) J J<|Ao [1,2] hI J J (Dc [[61]] r.1 r.2 _ (ix ids 1) (ix ids 2) g1 v2 g4 vH1 (by exact hI.sub' J J)) J J J J J J (fun v _=>Ap (K:=3) (N:=1) Tryz.func21 hI) ?_
 rintro r1 _ _ _ ⟨v3,g5,vH2,rfl,rfl⟩
 refine Aw [1,2] hI J J J ?_
 refine Aq<|Z<|Ak ?_
 refine Y<|O<|Ac 5 [0,3,0] [(14,(.func (.func 18) [(.q ids 1 g1)] [])),(12,(.sl 1 (List.map rS a.Names))),(10,(.q ids 1 g1))] ?_
 refine Ao [1,2] hI J J (N0 a.Names 64 r1.1 r1.2 _ (ix ids 1) (ix ids 2) g1 v3 g5 vH2 (by exact hI.sub' J J)) J J J J J J (fun v _=>Ap (K:=3) (N:=1) Tryz.func21 hI) ?_
 rintro r2 _ _ _ ⟨v4,g6,vH3,rfl,rfl⟩
 refine Aw [1,2] hI J J J ?_
 refine Aq<|Z<|Ak ?_
 refine Y<|O<|Ac 1 [0] [(16,(.q ids 1 g1))] ?_
 refine Dp (e:=rS) (L:=[[114,97,100,97,114]]) (st:=1) (rows:=[[(.str [114,97,100,97,114])]]) J Dg Cf J J J J J (.cons (RowSim.refl _) .nil) (fun x=>Hg x) J J<|Ao [1,2] hI J J (By [[114,97,100,97,114]] r2.1 r2.2 _ (ix ids 1) (ix ids 2) g1 v4 g6 vH3 (by exact hI.sub' J J)) J J J J J J (fun v _=>Ap (K:=3) (N:=1) Tryz.func21 hI) ?_
 rintro r3 _ _ _ ⟨v5,g7,vH4,rfl,rfl⟩
 refine Aw [1,2] hI J J J ?_
 refine Aq<|Z<|Ak ?_
 refine Y<|O<|Ac 3 [0,3] [(21,(.I a.Radar)),(19,(.q ids 1 g1))] ?_
 refine Ao [1,2] hI J J (Ds a.Radar 0 64 r3.1 r3.2 _ (ix ids 1) (ix ids 2) g1 v5 g7 vH4 (by exact hI.sub' J J)) J J J J J J (fun v _=>Ap (K:=3) (N:=1) Tryz.func21 hI) ?_
 rintro r4 _ _ _ ⟨v6,g8,vH5,rfl,rfl⟩
 refine Aw [1,2] hI J J J ?_
 refine Aq<|Z<|Ak ?_
 refine Y<|O<|Ac 1 [0] [(23,(.q ids 1 g1))] ?_
 refine Dp (e:=rS) (L:=[[112,114,111,99,101,100,117,114,97,108]]) (st:=1) (rows:=[[(.str [112,114,111,99,101,100,117,114,97,108])]]) J Dg Cf J J J J J (.cons (RowSim.refl _) .nil) (fun x=>Hg x) J J<|Ao [1,2] hI J J (By [[112,114,111,99,101,100,117,114,97,108]] (r3.1||(!((decide (a.Radar≥0))&&(decide (a.Radar≤64))))) r4 _ (ix ids 1) (ix ids 2) g1 v6 g8 vH5 (by exact hI.sub' J J)) J J J J J J (fun v _=>Ap (K:=3) (N:=1) Tryz.func21 hI) ?_
 rintro r5 _ _ _ ⟨v7,g9,vH6,rfl,rfl⟩
 refine Aw [1,2] hI J J J ?_
 refine Aq<|Z<|Ak ?_
 refine O<|Ac 5 [0,3,3] [(30,(.I a.Radar)),(28,(.I a.Procedural)),(26,(.q ids 1 g1))] ?_
 refine Ao [1,2] hI J J (Ds a.Procedural 0 a.Radar r5.1 r5.2 _ (ix ids 1) (ix ids 2) g1 v7 g9 vH6 (by exact hI.sub' J J)) J J J J J J (fun v _=>Ap (K:=3) (N:=1) Tryz.func21 hI) ?_
 rintro r6 _ _ _ ⟨v8,g10,vH7,rfl,rfl⟩
 refine Aw [1,2] hI J J J ?_
 refine Aq<|Z<|Ak ?_
 exact Cc (K:=3) (N:=1) (a:=((r5.1||(!((decide (a.Procedural≥0))&&(decide (a.Procedural≤a.Radar))))),r6)) (vs:=[]) [some (.rows g 1 [[(.q ids 1 g1)]]),some (.rows g1 2 [[v8,(.bool (r5.1||(!((decide (a.Procedural≥0))&&(decide (a.Procedural≤a.Radar))))))]]),Ai v8 g10 4 (List.map Ad r6)] Tryz.func21 hI J J J (.keep (.keep (.keep (.drop .nil)))) (.same _) ⟨v8,g10,vH7,J,J⟩
theorem X3 (text:An)(l:List Sector)(most:Int)(s0_bad:Bool)(l1:List Token)(h0:Af)(o0:Nat)(o1:Nat)(o2:Nat)(g:Nat)(v1:AV)(g1:Nat)(g2:Nat)(vH:Az v1 o1 g1 l1.length)(hI0:Ids h0 [o0,o1,o2] 3):Fr text l most s0_bad l1≠.bad→Bg Tryz.prog 20 [(.ptr o0 g 0 0),(.str text),(.sl 5 (List.map A9 l)),(.int .i64 most),(.func (.func 21) [] [(.ptr o2 g2 0 0)])] (hp h0 [o0,o1,o2] [some (.rows g 2 [[v1,(.bool s0_bad)]]),Ai v1 g1 4 (List.map Ad l1),some (.rows g2 1 [[(.ptr o0 g 0 0)]])]) (Cq (fun a_ v h' => ∃ (v7:AV),∃ (g9:Nat),Az v7 o1 g9 a_.2.length∧v=(.tup [])∧h'=hp h0 [o0,o1,o2] [some (.rows g 2 [[v7,(.bool a_.1)]]),Ai v7 g9 4 (List.map Ad a_.2),some (.rows g2 1 [[(.ptr o0 g 0 0)]])]) h0 (Fr text l most s0_bad l1)):=by
 refine Bb (n:=44) 1 Tryz.func20 J (by decide) J J hI0 J fun ids he hI=>?_
 clear hI0
 obtain rfl:ix ids 0=o0:=he 0 rfl
 obtain rfl:ix ids 1=o1:=he 1 rfl
 obtain rfl:ix ids 2=o2:=he 2 rfl
 clear he
 refine Bk (Al (Fr.eq_1 _ _ _ _ _) ?_)
 refine Ak ?_
 refine Y<|O<|Ac 6 [0] [(17,(.bool s0_bad)),(12,(.q ids 0 g))] ?_
 refine B9 5 [(0,(.q ids 0 g)),(1,(.str text)),(2,(.sl 5 (List.map A9 l))),(4,(.func (.func 21) [] [(.q ids 2 g2)])),(12,(.q ids 0 g)),(22,(.bool (s0_bad||(decide ((l.length:Int) > most)))))] ?_ fun hJ=>Bz s0_bad (fun hb1=>?_) (fun hb1=>?_)
 ·refine Ac 2 [] [(24,(.ptr (ix ids 0) g 0 1))] ?_
  refine Au (A4 (v:=(.bool (s0_bad||(decide ((l.length:Int) > most))))) hI J J J J R9 J J J J J)<|Z<|Ak ?_
  refine Y<|O<|Aa (.sl 5 (List.map A9 l)) J Ae<|Aa (.I (l.length:Int)) J (Ay (A8 Fp))<|Aa (.I 0) J Ae<|Z<|A3 ?_
  refine Db [(0,(.q ids 0 g)),(1,(.str text)),(4,(.func (.func 21) [] [(.q ids 2 g2)])),(25,(.sl 5 (List.map A9 l))),(26,(.I (l.length:Int))),(27,(.I 0))] (FI J)<|Di (P:=Tryz.prog) l (fun _ a=>C2 fun fBad l2=>Hq text a fBad l2) (((C2 fun fBad l2=>.ok (fBad,l2))):(Bool×(List Token))→R (Bool×(List Token))) (fun j=>C2 fun fBad l2=>fun(fr:Nat→AV) (h:Af) => ∃ (v2:AV),∃ (g3:Nat),Az v2 (ix ids 1) g3 l2.length∧fr=A2 [(0,(.q ids 0 g)),(1,(.str text)),(4,(.func (.func 21) [] [(.q ids 2 g2)])),(25,(.sl 5 (List.map A9 l))),(26,(.I (l.length:Int))),(27,(.I (j:Int)))]∧h=hp h0 ids [(some (.rows g 2 [[v2,(.bool fBad)]])),(Ai v2 g3 4 (List.map Ad l2)),(some (.rows g2 1 [[(.q ids 0 g)]])),none]) ((s0_bad||(decide ((l.length:Int) > most))),l1) ?_ ?_ ?_
  ·exact⟨v1,g1,vH,J,J⟩
  ·rintro j a ha W hW ⟨fBad,l2⟩ fr h ⟨v2,g3,vH1,rfl,rfl⟩
   refine Al (m':=Hq text a fBad l2) J (Al (Hq.eq_1 _ _ _ _) ?_)
   refine Y<|O<|Aa (.bool (decide ((j:Int)<(l.length:Int)))) J (Ba J J J)<|Z<|Y<|Dn (t:=25) (L:=l) J fun hlim=>Ch J (Int.ofNat_lt.2 (Av ha)) ?_
   refine A0<|Y<|A3<|Y<|O<|Aa (.cp (A9 a) 0) J (Bt (Ct Fp Gg J ha))<|Aa (.agg (A9 a)) J (As (Dh Gg J)) ?_
   refine Bl (j:=3) hI J J J J Gg J fun g4=>Au (A4 (v:=(.agg (A9 a))) hI J J J J Gg J J J J J)<|Z<|Ak ?_
   refine Y<|Y<|O<|Ac 2 [] [(32,(.bool (!(text==[]))))] ?_
   refine Z<|D3 (C2 fun fBad1 l3=>Hp a fBad1 l3) (C2 fun fBad1 l3=>fun(fr:Nat→AV) (h:Af) => ∃ (v4:AV),∃ (g6:Nat),Az v4 (ix ids 1) g6 l3.length∧fr=A2 [(0,(.q ids 0 g)),(1,(.str text)),(4,(.func (.func 21) [] [(.q ids 2 g2)])),(11,(.q ids 3 g4)),(25,(.sl 5 (List.map A9 l))),(26,(.I (l.length:Int))),(27,(.I (j:Int)))]∧h=hp h0 ids [(some (.rows g 2 [[v4,(.bool fBad1)]])),(Ai v4 g6 4 (List.map Ad l3)),(some (.rows g2 1 [[(.q ids 0 g)]])),(some (.rows g4 5 [(A9 a)]))]) ?_ fun hJ1=>?_
   ·rintro⟨fBad1,l3⟩ fr h ⟨v4,g6,vH3,rfl,rfl⟩
    refine Al (Hp.eq_1 _ _ _)<|Y<|O<|Ac 2 [3] [(38,(.agg (A9 a))),(37,(.func (.func 21) [] [(.q ids 2 g2)]))] ?_
    refine Ao [2,0,1] hI J J (Ad8 a fBad1 l3 _ (ix ids 2) (ix ids 0) (ix ids 1) g2 g v4 g6 vH3 (by exact hI.sub' J J)) J J J J J J (fun v _=>Ap (K:=3) (N:=1) Tryz.func20 hI) ?_
    rintro r1 _ _ _ ⟨v5,g7,vH4,rfl,rfl⟩
    refine Aw [2,0,1] hI J J J ?_
    refine Aq<|Z<|Ak ?_
    refine O<|Aa (.q ids 0 g) J Ae<|Dp (e:=rS) (L:=[[59]]) (st:=1) (rows:=[[(.str [59])]]) J Dg Cf J J J J J (.cons (RowSim.refl _) .nil) (fun x=>Hg x) J J<|Ao [0,1] hI J J (Dc [[59]] r1.1 r1.2 _ (ix ids 0) (ix ids 1) g v5 g7 vH4 (by exact hI.sub' J J)) J J J J J J (fun v _=>Ap (K:=3) (N:=1) Tryz.func20 hI) ?_
    rintro r2 _ _ _ ⟨v6,g8,vH5,rfl,rfl⟩
    refine Aw [0,1] hI J J J ?_
    refine Aq<|Z<|Ak ?_
    refine Bf<|O<|Ac 2 [] [(27,(.I (IntKind.wrap .i64 ((j:Int)+1))))] ?_
    refine Z<|Dr [(some (.rows g 2 [[v6,(.bool r2.1)]])),(Ai v6 g8 4 (List.map Ad r2.2)),(some (.rows g2 1 [[(.q ids 0 g)]])),none] hI J (.keep (.keep (.keep (.drop .nil))))<|Bp (I7 (hW (r2.1,r2.2) _ _ ⟨v6,g8,vH5,J,J⟩)) (.cons J (.cons J (.cons J (.cons J (.cons J (.cons (C3 (Av ha) hlim) .nil))))))
   refine Fj J (fun hc=>?_) (fun hc=>?_)
   ·refine A0<|Bp (hJ1 (fBad,l2) _ _ ⟨v2,g3,vH1,J,J⟩)
   refine O<|Ac 2 [] [(34,(.str text)),(33,(.q ids 0 g))] ?_
   refine Dp (e:=rS) (L:=[text]) (st:=1) (rows:=[[(.str text)]]) J Dg Cf J J J J J (.cons (RowSim.refl _) .nil) (fun x=>Hg x) J J<|Ao [0,1] hI J J (By [text] fBad l2 _ (ix ids 0) (ix ids 1) g v2 g3 vH1 (by exact hI.sub' J J)) J J J J J J (fun v _=>Ap (K:=3) (N:=1) Tryz.func20 hI) ?_
   rintro r _ _ _ ⟨v3,g5,vH2,rfl,rfl⟩
   refine Aw [0,1] hI J J J ?_
   refine Aq<|Z<|Ak ?_
   exact Bp (hJ1 (r.1,r.2) _ _ ⟨v3,g5,vH2,J,J⟩)
  rintro⟨fBad,l2⟩ fr h ⟨v2,g3,vH1,rfl,rfl⟩
  refine Al (Q7 _ _ _)<|Y<|O<|Aa (.bool (decide ((l.length:Int)<(l.length:Int)))) J (Ba J J J)<|Z<|Y<|Cg J (Int.lt_irrefl _) ?_
  refine Cl J<|Cc (K:=3) (N:=1) (a:=(fBad,l2)) (vs:=[]) [some (.rows g 2 [[v2,(.bool fBad)]]),Ai v2 g3 4 (List.map Ad l2),some (.rows g2 1 [[(.q ids 0 g)]])] Tryz.func20 hI J J J (.keep (.keep (.keep (.keep .nil)))) (.same _) ⟨v2,g3,vH1,J,J⟩
 ·refine Bj (t:=17) hb1 J<|Ac 5 [] [(22,(.bool true))] ?_
  exact Br hJ (.cons J (.cons J (.cons J (.cons J (.cons J (.cons (Fe hb1) .nil))))))
 refine Bj (t:=17) hb1 J<|Bx (tj:=17) (.sl 5 (List.map A9 l)) J J J Ae<|Bx (tj:=17) (.I (l.length:Int)) J J J (Ay (A8 Fp))<|Ac 3 [] [(22,(.bool (decide ((l.length:Int) > most))))] ?_
 exact Br hJ (.cons J (.cons J (.cons J (.cons J (.cons J (.cons (Fg hb1) .nil))))))
theorem Ad2 (a:Config)(s1_bad:Bool)(l:List Token)(h0:Af)(o0:Nat)(o1:Nat)(o2:Nat)(g:Nat)(g1:Nat)(v1:AV)(g2:Nat)(vH:Az v1 o2 g2 l.length)(hI0:Ids h0 [o0,o1,o2] 3):Oo a s1_bad l≠.bad→Bg Tryz.prog 27 [(.agg (Bh a)),(.ptr o0 g 0 0)] (hp h0 [o0,o1,o2] [some (.rows g 1 [[(.ptr o1 g1 0 0)]]),some (.rows g1 2 [[v1,(.bool s1_bad)]]),Ai v1 g2 4 (List.map Ad l)]) (Cq (fun a_ v h' => ∃ (v5:AV),∃ (g7:Nat),Az v5 o2 g7 a_.2.length∧v=(.tup [])∧h'=hp h0 [o0,o1,o2] [some (.rows g 1 [[(.ptr o1 g1 0 0)]]),some (.rows g1 2 [[v5,(.bool a_.1)]]),Ai v5 g7 4 (List.map Ad a_.2)]) h0 (Oo a s1_bad l)):=by
 refine Bb (n:=16) 1 Tryz.func27 J (by decide) J J hI0 J fun ids he hI=>?_
 clear hI0
 obtain rfl:ix ids 0=o0:=he 0 rfl
 obtain rfl:ix ids 1=o1:=he 1 rfl
 obtain rfl:ix ids 2=o2:=he 2 rfl
 clear he
 refine Bk (Al (Oo.eq_1 _ _ _) ?_)
 refine Ak ?_
 refine Y<|O<|Ck (v:=(.agg (Bh a))) (j:=3) hI J J J J J J J fun g3=>Z<|Ak ?_
 refine Y<|O<|Ac 3 [0,3] [(5,(.str a.Name)),(3,(.q ids 1 g1))] ?_
 refine Ao [1,2] hI J J (C7 a.Name s1_bad l _ (ix ids 1) (ix ids 2) g1 v1 g2 vH (by exact hI.sub' J J)) J J J J J J (fun v _=>Ap (K:=3) (N:=1) Tryz.func27 hI) ?_
 rintro r _ _ _ ⟨v2,g4,vH1,rfl,rfl⟩
 refine Aw [1,2] hI J J J ?_
 refine Aq<|Z<|Ak ?_
 refine Y<|O<|Ac 1 [0] [(7,(.q ids 1 g1))] ?_
 refine Dp (e:=rS) (L:=[[61]]) (st:=1) (rows:=[[(.str [61])]]) J Dg Cf J J J J J (.cons (RowSim.refl _) .nil) (fun x=>Hg x) J J<|Ao [1,2] hI J J (Dc [[61]] r.1 r.2 _ (ix ids 1) (ix ids 2) g1 v2 g4 vH1 (by exact hI.sub' J J)) J J J J J J (fun v _=>Ap (K:=3) (N:=1) Tryz.func27 hI) ?_
 rintro r1 _ _ _ ⟨v3,g5,vH2,rfl,rfl⟩
 refine Aw [1,2] hI J J J ?_
 refine Aq<|Z<|Ak ?_
 refine O<|Ac 5 [0,3,0] [(14,(.func (.func 18) [(.q ids 1 g1)] [])),(12,(.sl 1 (List.map rS a.Names))),(10,(.q ids 1 g1))] ?_
 refine Ao [1,2] hI J J (N0 a.Names 64 r1.1 r1.2 _ (ix ids 1) (ix ids 2) g1 v3 g5 vH2 (by exact hI.sub' J J)) J J J J J J (fun v _=>Ap (K:=3) (N:=1) Tryz.func27 hI) ?_
 rintro r2 _ _ _ ⟨v4,g6,vH3,rfl,rfl⟩
 refine Aw [1,2] hI J J J ?_
 refine Aq<|Z<|Ak ?_
 exact Cc (K:=3) (N:=1) (a:=(r2.1,r2.2)) (vs:=[]) [some (.rows g 1 [[(.q ids 1 g1)]]),some (.rows g1 2 [[v4,(.bool r2.1)]]),Ai v4 g6 4 (List.map Ad r2.2)] Tryz.func27 hI J J J (.keep (.keep (.keep (.drop .nil)))) (.same _) ⟨v4,g6,vH3,J,J⟩
theorem Yi (text:An)(l:List Config)(most:Int)(s0_bad:Bool)(l1:List Token)(h0:Af)(o0:Nat)(o1:Nat)(o2:Nat)(g:Nat)(v1:AV)(g1:Nat)(g2:Nat)(vH:Az v1 o1 g1 l1.length)(hI0:Ids h0 [o0,o1,o2] 3):Fs text l most s0_bad l1≠.bad→Bg Tryz.prog 26 [(.ptr o0 g 0 0),(.str text),(.sl 3 (List.map Bh l)),(.int .i64 most),(.func (.func 27) [] [(.ptr o2 g2 0 0)])] (hp h0 [o0,o1,o2] [some (.rows g 2 [[v1,(.bool s0_bad)]]),Ai v1 g1 4 (List.map Ad l1),some (.rows g2 1 [[(.ptr o0 g 0 0)]])]) (Cq (fun a_ v h' => ∃ (v7:AV),∃ (g9:Nat),Az v7 o1 g9 a_.2.length∧v=(.tup [])∧h'=hp h0 [o0,o1,o2] [some (.rows g 2 [[v7,(.bool a_.1)]]),Ai v7 g9 4 (List.map Ad a_.2),some (.rows g2 1 [[(.ptr o0 g 0 0)]])]) h0 (Fs text l most s0_bad l1)):=by
 refine Bb (n:=44) 1 Tryz.func26 J (by decide) J J hI0 J fun ids he hI=>?_
 clear hI0
 obtain rfl:ix ids 0=o0:=he 0 rfl
 obtain rfl:ix ids 1=o1:=he 1 rfl
 obtain rfl:ix ids 2=o2:=he 2 rfl
 clear he
 refine Bk (Al (Fs.eq_1 _ _ _ _ _) ?_)
 refine Ak ?_
 refine Y<|O<|Ac 6 [0] [(17,(.bool s0_bad)),(12,(.q ids 0 g))] ?_
 refine B9 5 [(0,(.q ids 0 g)),(1,(.str text)),(2,(.sl 3 (List.map Bh l))),(4,(.func (.func 27) [] [(.q ids 2 g2)])),(12,(.q ids 0 g)),(22,(.bool (s0_bad||(decide ((l.length:Int) > most)))))] ?_ fun hJ=>Bz s0_bad (fun hb1=>?_) (fun hb1=>?_)
 ·refine Ac 2 [] [(24,(.ptr (ix ids 0) g 0 1))] ?_
  refine Au (A4 (v:=(.bool (s0_bad||(decide ((l.length:Int) > most))))) hI J J J J R9 J J J J J)<|Z<|Ak ?_
  refine Y<|O<|Aa (.sl 3 (List.map Bh l)) J Ae<|Aa (.I (l.length:Int)) J (Ay (A8 F7))<|Aa (.I 0) J Ae<|Z<|A3 ?_
  refine Db [(0,(.q ids 0 g)),(1,(.str text)),(4,(.func (.func 27) [] [(.q ids 2 g2)])),(25,(.sl 3 (List.map Bh l))),(26,(.I (l.length:Int))),(27,(.I 0))] (FI J)<|Di (P:=Tryz.prog) l (fun _ a=>C2 fun fBad l2=>Hr text a fBad l2) (((C2 fun fBad l2=>.ok (fBad,l2))):(Bool×(List Token))→R (Bool×(List Token))) (fun j=>C2 fun fBad l2=>fun(fr:Nat→AV) (h:Af) => ∃ (v2:AV),∃ (g3:Nat),Az v2 (ix ids 1) g3 l2.length∧fr=A2 [(0,(.q ids 0 g)),(1,(.str text)),(4,(.func (.func 27) [] [(.q ids 2 g2)])),(25,(.sl 3 (List.map Bh l))),(26,(.I (l.length:Int))),(27,(.I (j:Int)))]∧h=hp h0 ids [(some (.rows g 2 [[v2,(.bool fBad)]])),(Ai v2 g3 4 (List.map Ad l2)),(some (.rows g2 1 [[(.q ids 0 g)]])),none]) ((s0_bad||(decide ((l.length:Int) > most))),l1) ?_ ?_ ?_
  ·exact⟨v1,g1,vH,J,J⟩
  ·rintro j a ha W hW ⟨fBad,l2⟩ fr h ⟨v2,g3,vH1,rfl,rfl⟩
   refine Al (m':=Hr text a fBad l2) J (Al (Hr.eq_1 _ _ _ _) ?_)
   refine Y<|O<|Aa (.bool (decide ((j:Int)<(l.length:Int)))) J (Ba J J J)<|Z<|Y<|Dn (t:=25) (L:=l) J fun hlim=>Ch J (Int.ofNat_lt.2 (Av ha)) ?_
   refine A0<|Y<|A3<|Y<|O<|Aa (.cp (Bh a) 0) J (Bt (Ct F7 Iq J ha))<|Aa (.agg (Bh a)) J (As (Dh Iq J)) ?_
   refine Bl (j:=3) hI J J J J Iq J fun g4=>Au (A4 (v:=(.agg (Bh a))) hI J J J J Iq J J J J J)<|Z<|Ak ?_
   refine Y<|Y<|O<|Ac 2 [] [(32,(.bool (!(text==[]))))] ?_
   refine Z<|D3 (C2 fun fBad1 l3=>Hn a fBad1 l3) (C2 fun fBad1 l3=>fun(fr:Nat→AV) (h:Af) => ∃ (v4:AV),∃ (g6:Nat),Az v4 (ix ids 1) g6 l3.length∧fr=A2 [(0,(.q ids 0 g)),(1,(.str text)),(4,(.func (.func 27) [] [(.q ids 2 g2)])),(11,(.q ids 3 g4)),(25,(.sl 3 (List.map Bh l))),(26,(.I (l.length:Int))),(27,(.I (j:Int)))]∧h=hp h0 ids [(some (.rows g 2 [[v4,(.bool fBad1)]])),(Ai v4 g6 4 (List.map Ad l3)),(some (.rows g2 1 [[(.q ids 0 g)]])),(some (.rows g4 3 [(Bh a)]))]) ?_ fun hJ1=>?_
   ·rintro⟨fBad1,l3⟩ fr h ⟨v4,g6,vH3,rfl,rfl⟩
    refine Al (Hn.eq_1 _ _ _)<|Y<|O<|Ac 2 [3] [(38,(.agg (Bh a))),(37,(.func (.func 27) [] [(.q ids 2 g2)]))] ?_
    refine Ao [2,0,1] hI J J (Ad2 a fBad1 l3 _ (ix ids 2) (ix ids 0) (ix ids 1) g2 g v4 g6 vH3 (by exact hI.sub' J J)) J J J J J J (fun v _=>Ap (K:=3) (N:=1) Tryz.func26 hI) ?_
    rintro r1 _ _ _ ⟨v5,g7,vH4,rfl,rfl⟩
    refine Aw [2,0,1] hI J J J ?_
    refine Aq<|Z<|Ak ?_
    refine O<|Aa (.q ids 0 g) J Ae<|Dp (e:=rS) (L:=[[59]]) (st:=1) (rows:=[[(.str [59])]]) J Dg Cf J J J J J (.cons (RowSim.refl _) .nil) (fun x=>Hg x) J J<|Ao [0,1] hI J J (Dc [[59]] r1.1 r1.2 _ (ix ids 0) (ix ids 1) g v5 g7 vH4 (by exact hI.sub' J J)) J J J J J J (fun v _=>Ap (K:=3) (N:=1) Tryz.func26 hI) ?_
    rintro r2 _ _ _ ⟨v6,g8,vH5,rfl,rfl⟩
    refine Aw [0,1] hI J J J ?_
    refine Aq<|Z<|Ak ?_
    refine Bf<|O<|Ac 2 [] [(27,(.I (IntKind.wrap .i64 ((j:Int)+1))))] ?_
    refine Z<|Dr [(some (.rows g 2 [[v6,(.bool r2.1)]])),(Ai v6 g8 4 (List.map Ad r2.2)),(some (.rows g2 1 [[(.q ids 0 g)]])),none] hI J (.keep (.keep (.keep (.drop .nil))))<|Bp (I7 (hW (r2.1,r2.2) _ _ ⟨v6,g8,vH5,J,J⟩)) (.cons J (.cons J (.cons J (.cons J (.cons J (.cons (C3 (Av ha) hlim) .nil))))))
   refine Fj J (fun hc=>?_) (fun hc=>?_)
   ·refine A0<|Bp (hJ1 (fBad,l2) _ _ ⟨v2,g3,vH1,J,J⟩)
   refine O<|Ac 2 [] [(34,(.str text)),(33,(.q ids 0 g))] ?_
   refine Dp (e:=rS) (L:=[text]) (st:=1) (rows:=[[(.str text)]]) J Dg Cf J J J J J (.cons (RowSim.refl _) .nil) (fun x=>Hg x) J J<|Ao [0,1] hI J J (By [text] fBad l2 _ (ix ids 0) (ix ids 1) g v2 g3 vH1 (by exact hI.sub' J J)) J J J J J J (fun v _=>Ap (K:=3) (N:=1) Tryz.func26 hI) ?_
   rintro r _ _ _ ⟨v3,g5,vH2,rfl,rfl⟩
   refine Aw [0,1] hI J J J ?_
   refine Aq<|Z<|Ak ?_
   exact Bp (hJ1 (r.1,r.2) _ _ ⟨v3,g5,vH2,J,J⟩)
  rintro⟨fBad,l2⟩ fr h ⟨v2,g3,vH1,rfl,rfl⟩
  refine Al (Q7 _ _ _)<|Y<|O<|Aa (.bool (decide ((l.length:Int)<(l.length:Int)))) J (Ba J J J)<|Z<|Y<|Cg J (Int.lt_irrefl _) ?_
  refine Cl J<|Cc (K:=3) (N:=1) (a:=(fBad,l2)) (vs:=[]) [some (.rows g 2 [[v2,(.bool fBad)]]),Ai v2 g3 4 (List.map Ad l2),some (.rows g2 1 [[(.q ids 0 g)]])] Tryz.func26 hI J J J (.keep (.keep (.keep (.keep .nil)))) (.same _) ⟨v2,g3,vH1,J,J⟩
 ·refine Bj (t:=17) hb1 J<|Ac 5 [] [(22,(.bool true))] ?_
  exact Br hJ (.cons J (.cons J (.cons J (.cons J (.cons J (.cons (Fe hb1) .nil))))))
 refine Bj (t:=17) hb1 J<|Bx (tj:=17) (.sl 3 (List.map Bh l)) J J J Ae<|Bx (tj:=17) (.I (l.length:Int)) J J J (Ay (A8 F7))<|Ac 3 [] [(22,(.bool (decide ((l.length:Int) > most))))] ?_
 exact Br hJ (.cons J (.cons J (.cons J (.cons J (.cons J (.cons (Fg hb1) .nil))))))
theorem Adq (a:Segment)(s1_bad:Bool)(l:List Token)(h0:Af)(o0:Nat)(o1:Nat)(o2:Nat)(g:Nat)(g1:Nat)(v1:AV)(g2:Nat)(vH:Az v1 o2 g2 l.length)(hI0:Ids h0 [o0,o1,o2] 3):Ou a s1_bad l≠.bad→Bg Tryz.prog 29 [(.agg (Bc a)),(.ptr o0 g 0 0)] (hp h0 [o0,o1,o2] [some (.rows g 1 [[(.ptr o1 g1 0 0)]]),some (.rows g1 2 [[v1,(.bool s1_bad)]]),Ai v1 g2 4 (List.map Ad l)]) (Cq (fun a_ v h' => ∃ (v8:AV),∃ (g10:Nat),Az v8 o2 g10 a_.2.length∧v=(.tup [])∧h'=hp h0 [o0,o1,o2] [some (.rows g 1 [[(.ptr o1 g1 0 0)]]),some (.rows g1 2 [[v8,(.bool a_.1)]]),Ai v8 g10 4 (List.map Ad a_.2)]) h0 (Ou a s1_bad l)):=by
 refine Bb (n:=25) 1 Tryz.func29 J (by decide) J J hI0 J fun ids he hI=>?_
 clear hI0
 obtain rfl:ix ids 0=o0:=he 0 rfl
 obtain rfl:ix ids 1=o1:=he 1 rfl
 obtain rfl:ix ids 2=o2:=he 2 rfl
 clear he
 refine Bk (Al (Ou.eq_1 _ _ _) ?_)
 refine Ak ?_
 refine Y<|O<|Ck (v:=(.agg (Bc a))) (j:=3) hI J J J J J J J fun g3=>Z<|Ak ?_
 refine Y<|O<|Ac 3 [0,3] [(5,(.str a.Name)),(3,(.q ids 1 g1))] ?_
 refine Ao [1,2] hI J J (C7 a.Name s1_bad l _ (ix ids 1) (ix ids 2) g1 v1 g2 vH (by exact hI.sub' J J)) J J J J J J (fun v _=>Ap (K:=3) (N:=1) Tryz.func29 hI) ?_
 rintro r _ _ _ ⟨v2,g4,vH1,rfl,rfl⟩
 refine Aw [1,2] hI J J J ?_
 refine Aq<|Z<|Ak ?_
 refine Y<|O<|Ac 1 [0] [(7,(.q ids 1 g1))] ?_
 refine Dp (e:=rS) (L:=[[105,110]]) (st:=1) (rows:=[[(.str [105,110])]]) J Dg Cf J J J J J (.cons (RowSim.refl _) .nil) (fun x=>Hg x) J J<|Ao [1,2] hI J J (By [[105,110]] r.1 r.2 _ (ix ids 1) (ix ids 2) g1 v2 g4 vH1 (by exact hI.sub' J J)) J J J J J J (fun v _=>Ap (K:=3) (N:=1) Tryz.func29 hI) ?_
 rintro r1 _ _ _ ⟨v3,g5,vH2,rfl,rfl⟩
 refine Aw [1,2] hI J J J ?_
 refine Aq<|Z<|Ak ?_
 refine Y<|O<|Ac 3 [0,3] [(12,(.str a.In)),(10,(.q ids 1 g1))] ?_
 refine Ao [1,2] hI J J (C7 a.In r1.1 r1.2 _ (ix ids 1) (ix ids 2) g1 v3 g5 vH2 (by exact hI.sub' J J)) J J J J J J (fun v _=>Ap (K:=3) (N:=1) Tryz.func29 hI) ?_
 rintro r2 _ _ _ ⟨v4,g6,vH3,rfl,rfl⟩
 refine Aw [1,2] hI J J J ?_
 refine Aq<|Z<|Ak ?_
 refine Y<|O<|Ac 1 [0] [(14,(.q ids 1 g1))] ?_
 refine Dp (e:=rS) (L:=[[108,101,110,103,116,104]]) (st:=1) (rows:=[[(.str [108,101,110,103,116,104])]]) J Dg Cf J J J J J (.cons (RowSim.refl _) .nil) (fun x=>Hg x) J J<|Ao [1,2] hI J J (By [[108,101,110,103,116,104]] r2.1 r2.2 _ (ix ids 1) (ix ids 2) g1 v4 g6 vH3 (by exact hI.sub' J J)) J J J J J J (fun v _=>Ap (K:=3) (N:=1) Tryz.func29 hI) ?_
 rintro r3 _ _ _ ⟨v5,g7,vH4,rfl,rfl⟩
 refine Aw [1,2] hI J J J ?_
 refine Aq<|Z<|Ak ?_
 refine Y<|O<|Ac 3 [0,3] [(19,(.I a.Length)),(17,(.q ids 1 g1))] ?_
 refine Ao [1,2] hI J J (Ds a.Length 1 4096 r3.1 r3.2 _ (ix ids 1) (ix ids 2) g1 v5 g7 vH4 (by exact hI.sub' J J)) J J J J J J (fun v _=>Ap (K:=3) (N:=1) Tryz.func29 hI) ?_
 rintro r4 _ _ _ ⟨v6,g8,vH5,rfl,rfl⟩
 refine Aw [1,2] hI J J J ?_
 refine Aq<|Z<|Ak ?_
 refine O<|Ac 3 [0,3] [(23,(.sl 2 (List.map C0 a.Open))),(21,(.q ids 1 g1))] ?_
 refine Ao [1,2] hI J J (Sy [111,112,101,110] a.Open (r3.1||(!((decide (a.Length≥1))&&(decide (a.Length≤4096))))) r4 _ (ix ids 1) (ix ids 2) g1 v6 g8 vH5 (by exact hI.sub' J J)) J J J J J J (fun v _=>Ap (K:=3) (N:=1) Tryz.func29 hI) ?_
 rintro r5 _ _ _ ⟨v7,g9,vH6,rfl,rfl⟩
 refine Aw [1,2] hI J J J ?_
 refine Aq<|Z<|Ak ?_
 exact Cc (K:=3) (N:=1) (a:=(r5.1,r5.2)) (vs:=[]) [some (.rows g 1 [[(.q ids 1 g1)]]),some (.rows g1 2 [[v7,(.bool r5.1)]]),Ai v7 g9 4 (List.map Ad r5.2)] Tryz.func29 hI J J J (.keep (.keep (.keep (.drop .nil)))) (.same _) ⟨v7,g9,vH6,J,J⟩
theorem Wx (text:An)(l:List Segment)(most:Int)(s0_bad:Bool)(l1:List Token)(h0:Af)(o0:Nat)(o1:Nat)(o2:Nat)(g:Nat)(v1:AV)(g1:Nat)(g2:Nat)(vH:Az v1 o1 g1 l1.length)(hI0:Ids h0 [o0,o1,o2] 3):Fk text l most s0_bad l1≠.bad→Bg Tryz.prog 28 [(.ptr o0 g 0 0),(.str text),(.sl 5 (List.map Bc l)),(.int .i64 most),(.func (.func 29) [] [(.ptr o2 g2 0 0)])] (hp h0 [o0,o1,o2] [some (.rows g 2 [[v1,(.bool s0_bad)]]),Ai v1 g1 4 (List.map Ad l1),some (.rows g2 1 [[(.ptr o0 g 0 0)]])]) (Cq (fun a_ v h' => ∃ (v7:AV),∃ (g9:Nat),Az v7 o1 g9 a_.2.length∧v=(.tup [])∧h'=hp h0 [o0,o1,o2] [some (.rows g 2 [[v7,(.bool a_.1)]]),Ai v7 g9 4 (List.map Ad a_.2),some (.rows g2 1 [[(.ptr o0 g 0 0)]])]) h0 (Fk text l most s0_bad l1)):=by
 refine Bb (n:=44) 1 Tryz.func28 J (by decide) J J hI0 J fun ids he hI=>?_
 clear hI0
 obtain rfl:ix ids 0=o0:=he 0 rfl
 obtain rfl:ix ids 1=o1:=he 1 rfl
 obtain rfl:ix ids 2=o2:=he 2 rfl
 clear he
 refine Bk (Al (Fk.eq_1 _ _ _ _ _) ?_)
 refine Ak ?_
 refine Y<|O<|Ac 6 [0] [(17,(.bool s0_bad)),(12,(.q ids 0 g))] ?_
 refine B9 5 [(0,(.q ids 0 g)),(1,(.str text)),(2,(.sl 5 (List.map Bc l))),(4,(.func (.func 29) [] [(.q ids 2 g2)])),(12,(.q ids 0 g)),(22,(.bool (s0_bad||(decide ((l.length:Int) > most)))))] ?_ fun hJ=>Bz s0_bad (fun hb1=>?_) (fun hb1=>?_)
 ·refine Ac 2 [] [(24,(.ptr (ix ids 0) g 0 1))] ?_
  refine Au (A4 (v:=(.bool (s0_bad||(decide ((l.length:Int) > most))))) hI J J J J R9 J J J J J)<|Z<|Ak ?_
  refine Y<|O<|Aa (.sl 5 (List.map Bc l)) J Ae<|Aa (.I (l.length:Int)) J (Ay (A8 Gl))<|Aa (.I 0) J Ae<|Z<|A3 ?_
  refine Db [(0,(.q ids 0 g)),(1,(.str text)),(4,(.func (.func 29) [] [(.q ids 2 g2)])),(25,(.sl 5 (List.map Bc l))),(26,(.I (l.length:Int))),(27,(.I 0))] (FI J)<|Di (P:=Tryz.prog) l (fun _ a=>C2 fun fBad l2=>Hb text a fBad l2) (((C2 fun fBad l2=>.ok (fBad,l2))):(Bool×(List Token))→R (Bool×(List Token))) (fun j=>C2 fun fBad l2=>fun(fr:Nat→AV) (h:Af) => ∃ (v2:AV),∃ (g3:Nat),Az v2 (ix ids 1) g3 l2.length∧fr=A2 [(0,(.q ids 0 g)),(1,(.str text)),(4,(.func (.func 29) [] [(.q ids 2 g2)])),(25,(.sl 5 (List.map Bc l))),(26,(.I (l.length:Int))),(27,(.I (j:Int)))]∧h=hp h0 ids [(some (.rows g 2 [[v2,(.bool fBad)]])),(Ai v2 g3 4 (List.map Ad l2)),(some (.rows g2 1 [[(.q ids 0 g)]])),none]) ((s0_bad||(decide ((l.length:Int) > most))),l1) ?_ ?_ ?_
  ·exact⟨v1,g1,vH,J,J⟩
  ·rintro j a ha W hW ⟨fBad,l2⟩ fr h ⟨v2,g3,vH1,rfl,rfl⟩
   refine Al (m':=Hb text a fBad l2) J (Al (Hb.eq_1 _ _ _ _) ?_)
   refine Y<|O<|Aa (.bool (decide ((j:Int)<(l.length:Int)))) J (Ba J J J)<|Z<|Y<|Dn (t:=25) (L:=l) J fun hlim=>Ch J (Int.ofNat_lt.2 (Av ha)) ?_
   refine A0<|Y<|A3<|Y<|O<|Aa (.cp (Bc a) 0) J (Bt (Ct Gl Hd J ha))<|Aa (.agg (Bc a)) J (As (Dh Hd J)) ?_
   refine Bl (j:=3) hI J J J J Hd J fun g4=>Au (A4 (v:=(.agg (Bc a))) hI J J J J Hd J J J J J)<|Z<|Ak ?_
   refine Y<|Y<|O<|Ac 2 [] [(32,(.bool (!(text==[]))))] ?_
   refine Z<|D3 (C2 fun fBad1 l3=>G6 a fBad1 l3) (C2 fun fBad1 l3=>fun(fr:Nat→AV) (h:Af) => ∃ (v4:AV),∃ (g6:Nat),Az v4 (ix ids 1) g6 l3.length∧fr=A2 [(0,(.q ids 0 g)),(1,(.str text)),(4,(.func (.func 29) [] [(.q ids 2 g2)])),(11,(.q ids 3 g4)),(25,(.sl 5 (List.map Bc l))),(26,(.I (l.length:Int))),(27,(.I (j:Int)))]∧h=hp h0 ids [(some (.rows g 2 [[v4,(.bool fBad1)]])),(Ai v4 g6 4 (List.map Ad l3)),(some (.rows g2 1 [[(.q ids 0 g)]])),(some (.rows g4 5 [(Bc a)]))]) ?_ fun hJ1=>?_
   ·rintro⟨fBad1,l3⟩ fr h ⟨v4,g6,vH3,rfl,rfl⟩
    refine Al (G6.eq_1 _ _ _)<|Y<|O<|Ac 2 [3] [(38,(.agg (Bc a))),(37,(.func (.func 29) [] [(.q ids 2 g2)]))] ?_
    refine Ao [2,0,1] hI J J (Adq a fBad1 l3 _ (ix ids 2) (ix ids 0) (ix ids 1) g2 g v4 g6 vH3 (by exact hI.sub' J J)) J J J J J J (fun v _=>Ap (K:=3) (N:=1) Tryz.func28 hI) ?_
    rintro r1 _ _ _ ⟨v5,g7,vH4,rfl,rfl⟩
    refine Aw [2,0,1] hI J J J ?_
    refine Aq<|Z<|Ak ?_
    refine O<|Aa (.q ids 0 g) J Ae<|Dp (e:=rS) (L:=[[59]]) (st:=1) (rows:=[[(.str [59])]]) J Dg Cf J J J J J (.cons (RowSim.refl _) .nil) (fun x=>Hg x) J J<|Ao [0,1] hI J J (Dc [[59]] r1.1 r1.2 _ (ix ids 0) (ix ids 1) g v5 g7 vH4 (by exact hI.sub' J J)) J J J J J J (fun v _=>Ap (K:=3) (N:=1) Tryz.func28 hI) ?_
    rintro r2 _ _ _ ⟨v6,g8,vH5,rfl,rfl⟩
    refine Aw [0,1] hI J J J ?_
    refine Aq<|Z<|Ak ?_
    refine Bf<|O<|Ac 2 [] [(27,(.I (IntKind.wrap .i64 ((j:Int)+1))))] ?_
    refine Z<|Dr [(some (.rows g 2 [[v6,(.bool r2.1)]])),(Ai v6 g8 4 (List.map Ad r2.2)),(some (.rows g2 1 [[(.q ids 0 g)]])),none] hI J (.keep (.keep (.keep (.drop .nil))))<|Bp (I7 (hW (r2.1,r2.2) _ _ ⟨v6,g8,vH5,J,J⟩)) (.cons J (.cons J (.cons J (.cons J (.cons J (.cons (C3 (Av ha) hlim) .nil))))))
   refine Fj J (fun hc=>?_) (fun hc=>?_)
   ·refine A0<|Bp (hJ1 (fBad,l2) _ _ ⟨v2,g3,vH1,J,J⟩)
   refine O<|Ac 2 [] [(34,(.str text)),(33,(.q ids 0 g))] ?_
   refine Dp (e:=rS) (L:=[text]) (st:=1) (rows:=[[(.str text)]]) J Dg Cf J J J J J (.cons (RowSim.refl _) .nil) (fun x=>Hg x) J J<|Ao [0,1] hI J J (By [text] fBad l2 _ (ix ids 0) (ix ids 1) g v2 g3 vH1 (by exact hI.sub' J J)) J J J J J J (fun v _=>Ap (K:=3) (N:=1) Tryz.func28 hI) ?_
   rintro r _ _ _ ⟨v3,g5,vH2,rfl,rfl⟩
   refine Aw [0,1] hI J J J ?_
   refine Aq<|Z<|Ak ?_
   exact Bp (hJ1 (r.1,r.2) _ _ ⟨v3,g5,vH2,J,J⟩)
  rintro⟨fBad,l2⟩ fr h ⟨v2,g3,vH1,rfl,rfl⟩
  refine Al (Q7 _ _ _)<|Y<|O<|Aa (.bool (decide ((l.length:Int)<(l.length:Int)))) J (Ba J J J)<|Z<|Y<|Cg J (Int.lt_irrefl _) ?_
  refine Cl J<|Cc (K:=3) (N:=1) (a:=(fBad,l2)) (vs:=[]) [some (.rows g 2 [[v2,(.bool fBad)]]),Ai v2 g3 4 (List.map Ad l2),some (.rows g2 1 [[(.q ids 0 g)]])] Tryz.func28 hI J J J (.keep (.keep (.keep (.keep .nil)))) (.same _) ⟨v2,g3,vH1,J,J⟩
 ·refine Bj (t:=17) hb1 J<|Ac 5 [] [(22,(.bool true))] ?_
  exact Br hJ (.cons J (.cons J (.cons J (.cons J (.cons J (.cons (Fe hb1) .nil))))))
 refine Bj (t:=17) hb1 J<|Bx (tj:=17) (.sl 5 (List.map Bc l)) J J J Ae<|Bx (tj:=17) (.I (l.length:Int)) J J J (Ay (A8 Gl))<|Ac 3 [] [(22,(.bool (decide ((l.length:Int) > most))))] ?_
 exact Br hJ (.cons J (.cons J (.cons J (.cons J (.cons J (.cons (Fg hb1) .nil))))))
theorem Adi (a:Route)(s1_bad:Bool)(l:List Token)(h0:Af)(o0:Nat)(o1:Nat)(o2:Nat)(g:Nat)(g1:Nat)(v1:AV)(g2:Nat)(vH:Az v1 o2 g2 l.length)(hI0:Ids h0 [o0,o1,o2] 3):Ox a s1_bad l≠.bad→Bg Tryz.prog 31 [(.agg (Bs a)),(.ptr o0 g 0 0)] (hp h0 [o0,o1,o2] [some (.rows g 1 [[(.ptr o1 g1 0 0)]]),some (.rows g1 2 [[v1,(.bool s1_bad)]]),Ai v1 g2 4 (List.map Ad l)]) (Cq (fun a_ v h' => ∃ (v9:AV),∃ (g11:Nat),Az v9 o2 g11 a_.2.length∧v=(.tup [])∧h'=hp h0 [o0,o1,o2] [some (.rows g 1 [[(.ptr o1 g1 0 0)]]),some (.rows g1 2 [[v9,(.bool a_.1)]]),Ai v9 g11 4 (List.map Ad a_.2)]) h0 (Ox a s1_bad l)):=by
 refine Bb (n:=30) 1 Tryz.func31 J (by decide) J J hI0 J fun ids he hI=>?_
 clear hI0
 obtain rfl:ix ids 0=o0:=he 0 rfl
 obtain rfl:ix ids 1=o1:=he 1 rfl
 obtain rfl:ix ids 2=o2:=he 2 rfl
 clear he
 refine Bk (Al (Ox.eq_1 _ _ _) ?_)
 refine Ak ?_
 refine Y<|O<|Ck (v:=(.agg (Bs a))) (j:=3) hI J J J J J J J fun g3=>Z<|Ak ?_
 refine Y<|O<|Ac 3 [0,3] [(5,(.str a.Name)),(3,(.q ids 1 g1))] ?_
 refine Ao [1,2] hI J J (C7 a.Name s1_bad l _ (ix ids 1) (ix ids 2) g1 v1 g2 vH (by exact hI.sub' J J)) J J J J J J (fun v _=>Ap (K:=3) (N:=1) Tryz.func31 hI) ?_
 rintro r _ _ _ ⟨v2,g4,vH1,rfl,rfl⟩
 refine Aw [1,2] hI J J J ?_
 refine Aq<|Z<|Ak ?_
 refine Y<|O<|Ac 1 [0] [(7,(.q ids 1 g1))] ?_
 refine Dp (e:=rS) (L:=[[102,114,111,109]]) (st:=1) (rows:=[[(.str [102,114,111,109])]]) J Dg Cf J J J J J (.cons (RowSim.refl _) .nil) (fun x=>Hg x) J J<|Ao [1,2] hI J J (By [[102,114,111,109]] r.1 r.2 _ (ix ids 1) (ix ids 2) g1 v2 g4 vH1 (by exact hI.sub' J J)) J J J J J J (fun v _=>Ap (K:=3) (N:=1) Tryz.func31 hI) ?_
 rintro r1 _ _ _ ⟨v3,g5,vH2,rfl,rfl⟩
 refine Aw [1,2] hI J J J ?_
 refine Aq<|Z<|Ak ?_
 refine Y<|O<|Ac 3 [0,3] [(12,(.str a.A)),(10,(.q ids 1 g1))] ?_
 refine Ao [1,2] hI J J (C7 a.A r1.1 r1.2 _ (ix ids 1) (ix ids 2) g1 v3 g5 vH2 (by exact hI.sub' J J)) J J J J J J (fun v _=>Ap (K:=3) (N:=1) Tryz.func31 hI) ?_
 rintro r2 _ _ _ ⟨v4,g6,vH3,rfl,rfl⟩
 refine Aw [1,2] hI J J J ?_
 refine Aq<|Z<|Ak ?_
 refine Y<|O<|Ac 1 [0] [(14,(.q ids 1 g1))] ?_
 refine Dp (e:=rS) (L:=[[116,111]]) (st:=1) (rows:=[[(.str [116,111])]]) J Dg Cf J J J J J (.cons (RowSim.refl _) .nil) (fun x=>Hg x) J J<|Ao [1,2] hI J J (By [[116,111]] r2.1 r2.2 _ (ix ids 1) (ix ids 2) g1 v4 g6 vH3 (by exact hI.sub' J J)) J J J J J J (fun v _=>Ap (K:=3) (N:=1) Tryz.func31 hI) ?_
 rintro r3 _ _ _ ⟨v5,g7,vH4,rfl,rfl⟩
 refine Aw [1,2] hI J J J ?_
 refine Aq<|Z<|Ak ?_
 refine Y<|O<|Ac 3 [0,3] [(19,(.str a.B)),(17,(.q ids 1 g1))] ?_
 refine Ao [1,2] hI J J (C7 a.B r3.1 r3.2 _ (ix ids 1) (ix ids 2) g1 v5 g7 vH4 (by exact hI.sub' J J)) J J J J J J (fun v _=>Ap (K:=3) (N:=1) Tryz.func31 hI) ?_
 rintro r4 _ _ _ ⟨v6,g8,vH5,rfl,rfl⟩
 refine Aw [1,2] hI J J J ?_
 refine Aq<|Z<|Ak ?_
 refine Y<|O<|Ac 1 [0] [(21,(.q ids 1 g1))] ?_
 refine Dp (e:=rS) (L:=[[118,105,97]]) (st:=1) (rows:=[[(.str [118,105,97])]]) J Dg Cf J J J J J (.cons (RowSim.refl _) .nil) (fun x=>Hg x) J J<|Ao [1,2] hI J J (By [[118,105,97]] r4.1 r4.2 _ (ix ids 1) (ix ids 2) g1 v6 g8 vH5 (by exact hI.sub' J J)) J J J J J J (fun v _=>Ap (K:=3) (N:=1) Tryz.func31 hI) ?_
 rintro r5 _ _ _ ⟨v7,g9,vH6,rfl,rfl⟩
 refine Aw [1,2] hI J J J ?_
 refine Aq<|Z<|Ak ?_
 refine O<|Ac 5 [0,3,0] [(28,(.func (.func 18) [(.q ids 1 g1)] [])),(26,(.sl 1 (List.map rS a.Names))),(24,(.q ids 1 g1))] ?_
 refine Ao [1,2] hI J J (N0 a.Names 8 r5.1 r5.2 _ (ix ids 1) (ix ids 2) g1 v7 g9 vH6 (by exact hI.sub' J J)) J J J J J J (fun v _=>Ap (K:=3) (N:=1) Tryz.func31 hI) ?_
 rintro r6 _ _ _ ⟨v8,g10,vH7,rfl,rfl⟩
 refine Aw [1,2] hI J J J ?_
 refine Aq<|Z<|Ak ?_
 exact Cc (K:=3) (N:=1) (a:=(r6.1,r6.2)) (vs:=[]) [some (.rows g 1 [[(.q ids 1 g1)]]),some (.rows g1 2 [[v8,(.bool r6.1)]]),Ai v8 g10 4 (List.map Ad r6.2)] Tryz.func31 hI J J J (.keep (.keep (.keep (.drop .nil)))) (.same _) ⟨v8,g10,vH7,J,J⟩
theorem Yn (text:An)(l:List Route)(most:Int)(s0_bad:Bool)(l1:List Token)(h0:Af)(o0:Nat)(o1:Nat)(o2:Nat)(g:Nat)(v1:AV)(g1:Nat)(g2:Nat)(vH:Az v1 o1 g1 l1.length)(hI0:Ids h0 [o0,o1,o2] 3):F6 text l most s0_bad l1≠.bad→Bg Tryz.prog 30 [(.ptr o0 g 0 0),(.str text),(.sl 7 (List.map Bs l)),(.int .i64 most),(.func (.func 31) [] [(.ptr o2 g2 0 0)])] (hp h0 [o0,o1,o2] [some (.rows g 2 [[v1,(.bool s0_bad)]]),Ai v1 g1 4 (List.map Ad l1),some (.rows g2 1 [[(.ptr o0 g 0 0)]])]) (Cq (fun a_ v h' => ∃ (v7:AV),∃ (g9:Nat),Az v7 o1 g9 a_.2.length∧v=(.tup [])∧h'=hp h0 [o0,o1,o2] [some (.rows g 2 [[v7,(.bool a_.1)]]),Ai v7 g9 4 (List.map Ad a_.2),some (.rows g2 1 [[(.ptr o0 g 0 0)]])]) h0 (F6 text l most s0_bad l1)):=by
 refine Bb (n:=44) 1 Tryz.func30 J (by decide) J J hI0 J fun ids he hI=>?_
 clear hI0
 obtain rfl:ix ids 0=o0:=he 0 rfl
 obtain rfl:ix ids 1=o1:=he 1 rfl
 obtain rfl:ix ids 2=o2:=he 2 rfl
 clear he
 refine Bk (Al (F6.eq_1 _ _ _ _ _) ?_)
 refine Ak ?_
 refine Y<|O<|Ac 6 [0] [(17,(.bool s0_bad)),(12,(.q ids 0 g))] ?_
 refine B9 5 [(0,(.q ids 0 g)),(1,(.str text)),(2,(.sl 7 (List.map Bs l))),(4,(.func (.func 31) [] [(.q ids 2 g2)])),(12,(.q ids 0 g)),(22,(.bool (s0_bad||(decide ((l.length:Int) > most)))))] ?_ fun hJ=>Bz s0_bad (fun hb1=>?_) (fun hb1=>?_)
 ·refine Ac 2 [] [(24,(.ptr (ix ids 0) g 0 1))] ?_
  refine Au (A4 (v:=(.bool (s0_bad||(decide ((l.length:Int) > most))))) hI J J J J R9 J J J J J)<|Z<|Ak ?_
  refine Y<|O<|Aa (.sl 7 (List.map Bs l)) J Ae<|Aa (.I (l.length:Int)) J (Ay (A8 H4))<|Aa (.I 0) J Ae<|Z<|A3 ?_
  refine Db [(0,(.q ids 0 g)),(1,(.str text)),(4,(.func (.func 31) [] [(.q ids 2 g2)])),(25,(.sl 7 (List.map Bs l))),(26,(.I (l.length:Int))),(27,(.I 0))] (FI J)<|Di (P:=Tryz.prog) l (fun _ a=>C2 fun fBad l2=>Ih text a fBad l2) (((C2 fun fBad l2=>.ok (fBad,l2))):(Bool×(List Token))→R (Bool×(List Token))) (fun j=>C2 fun fBad l2=>fun(fr:Nat→AV) (h:Af) => ∃ (v2:AV),∃ (g3:Nat),Az v2 (ix ids 1) g3 l2.length∧fr=A2 [(0,(.q ids 0 g)),(1,(.str text)),(4,(.func (.func 31) [] [(.q ids 2 g2)])),(25,(.sl 7 (List.map Bs l))),(26,(.I (l.length:Int))),(27,(.I (j:Int)))]∧h=hp h0 ids [(some (.rows g 2 [[v2,(.bool fBad)]])),(Ai v2 g3 4 (List.map Ad l2)),(some (.rows g2 1 [[(.q ids 0 g)]])),none]) ((s0_bad||(decide ((l.length:Int) > most))),l1) ?_ ?_ ?_
  ·exact⟨v1,g1,vH,J,J⟩
  ·rintro j a ha W hW ⟨fBad,l2⟩ fr h ⟨v2,g3,vH1,rfl,rfl⟩
   refine Al (m':=Ih text a fBad l2) J (Al (Ih.eq_1 _ _ _ _) ?_)
   refine Y<|O<|Aa (.bool (decide ((j:Int)<(l.length:Int)))) J (Ba J J J)<|Z<|Y<|Dn (t:=25) (L:=l) J fun hlim=>Ch J (Int.ofNat_lt.2 (Av ha)) ?_
   refine A0<|Y<|A3<|Y<|O<|Aa (.cp (Bs a) 0) J (Bt (Ct H4 Gk J ha))<|Aa (.agg (Bs a)) J (As (Dh Gk J)) ?_
   refine Bl (j:=3) hI J J J J Gk J fun g4=>Au (A4 (v:=(.agg (Bs a))) hI J J J J Gk J J J J J)<|Z<|Ak ?_
   refine Y<|Y<|O<|Ac 2 [] [(32,(.bool (!(text==[]))))] ?_
   refine Z<|D3 (C2 fun fBad1 l3=>Id a fBad1 l3) (C2 fun fBad1 l3=>fun(fr:Nat→AV) (h:Af) => ∃ (v4:AV),∃ (g6:Nat),Az v4 (ix ids 1) g6 l3.length∧fr=A2 [(0,(.q ids 0 g)),(1,(.str text)),(4,(.func (.func 31) [] [(.q ids 2 g2)])),(11,(.q ids 3 g4)),(25,(.sl 7 (List.map Bs l))),(26,(.I (l.length:Int))),(27,(.I (j:Int)))]∧h=hp h0 ids [(some (.rows g 2 [[v4,(.bool fBad1)]])),(Ai v4 g6 4 (List.map Ad l3)),(some (.rows g2 1 [[(.q ids 0 g)]])),(some (.rows g4 7 [(Bs a)]))]) ?_ fun hJ1=>?_
   ·rintro⟨fBad1,l3⟩ fr h ⟨v4,g6,vH3,rfl,rfl⟩
    refine Al (Id.eq_1 _ _ _)<|Y<|O<|Ac 2 [3] [(38,(.agg (Bs a))),(37,(.func (.func 31) [] [(.q ids 2 g2)]))] ?_
    refine Ao [2,0,1] hI J J (Adi a fBad1 l3 _ (ix ids 2) (ix ids 0) (ix ids 1) g2 g v4 g6 vH3 (by exact hI.sub' J J)) J J J J J J (fun v _=>Ap (K:=3) (N:=1) Tryz.func30 hI) ?_
    rintro r1 _ _ _ ⟨v5,g7,vH4,rfl,rfl⟩
    refine Aw [2,0,1] hI J J J ?_
    refine Aq<|Z<|Ak ?_
    refine O<|Aa (.q ids 0 g) J Ae<|Dp (e:=rS) (L:=[[59]]) (st:=1) (rows:=[[(.str [59])]]) J Dg Cf J J J J J (.cons (RowSim.refl _) .nil) (fun x=>Hg x) J J<|Ao [0,1] hI J J (Dc [[59]] r1.1 r1.2 _ (ix ids 0) (ix ids 1) g v5 g7 vH4 (by exact hI.sub' J J)) J J J J J J (fun v _=>Ap (K:=3) (N:=1) Tryz.func30 hI) ?_
    rintro r2 _ _ _ ⟨v6,g8,vH5,rfl,rfl⟩
    refine Aw [0,1] hI J J J ?_
    refine Aq<|Z<|Ak ?_
    refine Bf<|O<|Ac 2 [] [(27,(.I (IntKind.wrap .i64 ((j:Int)+1))))] ?_
    refine Z<|Dr [(some (.rows g 2 [[v6,(.bool r2.1)]])),(Ai v6 g8 4 (List.map Ad r2.2)),(some (.rows g2 1 [[(.q ids 0 g)]])),none] hI J (.keep (.keep (.keep (.drop .nil))))<|Bp (I7 (hW (r2.1,r2.2) _ _ ⟨v6,g8,vH5,J,J⟩)) (.cons J (.cons J (.cons J (.cons J (.cons J (.cons (C3 (Av ha) hlim) .nil))))))
   refine Fj J (fun hc=>?_) (fun hc=>?_)
   ·refine A0<|Bp (hJ1 (fBad,l2) _ _ ⟨v2,g3,vH1,J,J⟩)
   refine O<|Ac 2 [] [(34,(.str text)),(33,(.q ids 0 g))] ?_
   refine Dp (e:=rS) (L:=[text]) (st:=1) (rows:=[[(.str text)]]) J Dg Cf J J J J J (.cons (RowSim.refl _) .nil) (fun x=>Hg x) J J<|Ao [0,1] hI J J (By [text] fBad l2 _ (ix ids 0) (ix ids 1) g v2 g3 vH1 (by exact hI.sub' J J)) J J J J J J (fun v _=>Ap (K:=3) (N:=1) Tryz.func30 hI) ?_
   rintro r _ _ _ ⟨v3,g5,vH2,rfl,rfl⟩
   refine Aw [0,1] hI J J J ?_
   refine Aq<|Z<|Ak ?_
   exact Bp (hJ1 (r.1,r.2) _ _ ⟨v3,g5,vH2,J,J⟩)
  rintro⟨fBad,l2⟩ fr h ⟨v2,g3,vH1,rfl,rfl⟩
  refine Al (Q7 _ _ _)<|Y<|O<|Aa (.bool (decide ((l.length:Int)<(l.length:Int)))) J (Ba J J J)<|Z<|Y<|Cg J (Int.lt_irrefl _) ?_
  refine Cl J<|Cc (K:=3) (N:=1) (a:=(fBad,l2)) (vs:=[]) [some (.rows g 2 [[v2,(.bool fBad)]]),Ai v2 g3 4 (List.map Ad l2),some (.rows g2 1 [[(.q ids 0 g)]])] Tryz.func30 hI J J J (.keep (.keep (.keep (.keep .nil)))) (.same _) ⟨v2,g3,vH1,J,J⟩
 ·refine Bj (t:=17) hb1 J<|Ac 5 [] [(22,(.bool true))] ?_
  exact Br hJ (.cons J (.cons J (.cons J (.cons J (.cons J (.cons (Fe hb1) .nil))))))
 refine Bj (t:=17) hb1 J<|Bx (tj:=17) (.sl 7 (List.map Bs l)) J J J Ae<|Bx (tj:=17) (.I (l.length:Int)) J J J (Ay (A8 H4))<|Ac 3 [] [(22,(.bool (decide ((l.length:Int) > most))))] ?_
 exact Br hJ (.cons J (.cons J (.cons J (.cons J (.cons J (.cons (Fg hb1) .nil))))))
theorem Abm (m:Mode)(s1_bad:Bool)(l:List Token)(h0:Af)(o0:Nat)(o1:Nat)(o2:Nat)(g:Nat)(g1:Nat)(v1:AV)(g2:Nat)(vH:Az v1 o2 g2 l.length)(hI0:Ids h0 [o0,o1,o2] 3):Jt m s1_bad l≠.bad→Bg Tryz.prog 35 [(.agg (Dw m)),(.ptr o0 g 0 0)] (hp h0 [o0,o1,o2] [some (.rows g 1 [[(.ptr o1 g1 0 0)]]),some (.rows g1 2 [[v1,(.bool s1_bad)]]),Ai v1 g2 4 (List.map Ad l)]) (Cq (fun a_ v h' => ∃ (v5:AV),∃ (g7:Nat),Az v5 o2 g7 a_.2.length∧v=(.tup [])∧h'=hp h0 [o0,o1,o2] [some (.rows g 1 [[(.ptr o1 g1 0 0)]]),some (.rows g1 2 [[v5,(.bool a_.1)]]),Ai v5 g7 4 (List.map Ad a_.2)]) h0 (Jt m s1_bad l)):=by
 refine Bb (n:=14) 1 Tryz.func35 J (by decide) J J hI0 J fun ids he hI=>?_
 clear hI0
 obtain rfl:ix ids 0=o0:=he 0 rfl
 obtain rfl:ix ids 1=o1:=he 1 rfl
 obtain rfl:ix ids 2=o2:=he 2 rfl
 clear he
 refine Bk (Al (Jt.eq_1 _ _ _) ?_)
 refine Ak ?_
 refine Y<|O<|Ck (v:=(.agg (Dw m))) (j:=3) hI J J J J J J J fun g3=>Z<|Ak ?_
 refine Y<|O<|Ac 1 [0] [(3,(.q ids 1 g1))] ?_
 refine Dp (e:=rS) (L:=[[109,111,100,101]]) (st:=1) (rows:=[[(.str [109,111,100,101])]]) J Dg Cf J J J J J (.cons (RowSim.refl _) .nil) (fun x=>Hg x) J J<|Ao [1,2] hI J J (By [[109,111,100,101]] s1_bad l _ (ix ids 1) (ix ids 2) g1 v1 g2 vH (by exact hI.sub' J J)) J J J J J J (fun v _=>Ap (K:=3) (N:=1) Tryz.func35 hI) ?_
 rintro r _ _ _ ⟨v2,g4,vH1,rfl,rfl⟩
 refine Aw [1,2] hI J J J ?_
 refine Aq<|Z<|Ak ?_
 refine Y<|O<|Ac 3 [0,3] [(8,(.str m.Name)),(6,(.q ids 1 g1))] ?_
 refine Ao [1,2] hI J J (C7 m.Name r.1 r.2 _ (ix ids 1) (ix ids 2) g1 v2 g4 vH1 (by exact hI.sub' J J)) J J J J J J (fun v _=>Ap (K:=3) (N:=1) Tryz.func35 hI) ?_
 rintro r1 _ _ _ ⟨v3,g5,vH2,rfl,rfl⟩
 refine Aw [1,2] hI J J J ?_
 refine Aq<|Z<|Ak ?_
 refine O<|Ac 3 [0,3] [(12,(.I m.Places)),(10,(.q ids 1 g1))] ?_
 refine Ao [1,2] hI J J (Ds m.Places 0 64 r1.1 r1.2 _ (ix ids 1) (ix ids 2) g1 v3 g5 vH2 (by exact hI.sub' J J)) J J J J J J (fun v _=>Ap (K:=3) (N:=1) Tryz.func35 hI) ?_
 rintro r2 _ _ _ ⟨v4,g6,vH3,rfl,rfl⟩
 refine Aw [1,2] hI J J J ?_
 refine Aq<|Z<|Ak ?_
 exact Cc (K:=3) (N:=1) (a:=((r1.1||(!((decide (m.Places≥0))&&(decide (m.Places≤64))))),r2)) (vs:=[]) [some (.rows g 1 [[(.q ids 1 g1)]]),some (.rows g1 2 [[v4,(.bool (r1.1||(!((decide (m.Places≥0))&&(decide (m.Places≤64))))))]]),Ai v4 g6 4 (List.map Ad r2)] Tryz.func35 hI J J J (.keep (.keep (.keep (.drop .nil)))) (.same _) ⟨v4,g6,vH3,J,J⟩
theorem Abk (l:List Mode)(most:Int)(s0_bad:Bool)(l1:List Token)(h0:Af)(o0:Nat)(o1:Nat)(o2:Nat)(g:Nat)(v1:AV)(g1:Nat)(g2:Nat)(vH:Az v1 o1 g1 l1.length)(hI0:Ids h0 [o0,o1,o2] 3):Mf l most s0_bad l1≠.bad→Bg Tryz.prog 34 [(.ptr o0 g 0 0),(.sl 2 (List.map Dw l)),(.int .i64 most),(.func (.func 35) [] [(.ptr o2 g2 0 0)])] (hp h0 [o0,o1,o2] [some (.rows g 2 [[v1,(.bool s0_bad)]]),Ai v1 g1 4 (List.map Ad l1),some (.rows g2 1 [[(.ptr o0 g 0 0)]])]) (Cq (fun a_ v h' => ∃ (v6:AV),∃ (g8:Nat),Az v6 o1 g8 a_.2.length∧v=(.tup [])∧h'=hp h0 [o0,o1,o2] [some (.rows g 2 [[v6,(.bool a_.1)]]),Ai v6 g8 4 (List.map Ad a_.2),some (.rows g2 1 [[(.ptr o0 g 0 0)]])]) h0 (Mf l most s0_bad l1)):=by
 refine Bb (n:=44) 1 Tryz.func34 J (by decide) J J hI0 J fun ids he hI=>?_
 clear hI0
 obtain rfl:ix ids 0=o0:=he 0 rfl
 obtain rfl:ix ids 1=o1:=he 1 rfl
 obtain rfl:ix ids 2=o2:=he 2 rfl
 clear he
 refine Bk (Al (Mf.eq_1 _ _ _ _) ?_)
 refine Ak ?_
 refine Y<|O<|Ac 6 [0] [(15,(.bool s0_bad)),(10,(.q ids 0 g))] ?_
 refine B9 4 [(0,(.q ids 0 g)),(1,(.sl 2 (List.map Dw l))),(2,(.I most)),(3,(.func (.func 35) [] [(.q ids 2 g2)])),(10,(.q ids 0 g)),(19,(.bool (s0_bad||((l.length:Int)==0))))] ?_ fun hJ=>Bz s0_bad (fun hb1=>?_) (fun hb1=>?_)
 ·refine Aa (.bool (s0_bad||((l.length:Int)==0))) J Ae<|B9 5 [(0,(.q ids 0 g)),(1,(.sl 2 (List.map Dw l))),(3,(.func (.func 35) [] [(.q ids 2 g2)])),(10,(.q ids 0 g)),(25,(.bool ((s0_bad||((l.length:Int)==0))||(decide ((l.length:Int) > most)))))] ?_ fun hJ1=>Bz (s0_bad||((l.length:Int)==0)) (fun hb3=>?_) (fun hb3=>?_)
  ·refine Ac 2 [] [(27,(.ptr (ix ids 0) g 0 1))] ?_
   refine Au (A4 (v:=(.bool ((s0_bad||((l.length:Int)==0))||(decide ((l.length:Int) > most))))) hI J J J J R9 J J J J J)<|Z<|Ak ?_
   refine Y<|O<|Aa (.sl 2 (List.map Dw l)) J Ae<|Aa (.I (l.length:Int)) J (Ay (A8 Px))<|Aa (.I 0) J Ae<|Z<|A3 ?_
   refine Db [(0,(.q ids 0 g)),(3,(.func (.func 35) [] [(.q ids 2 g2)])),(28,(.sl 2 (List.map Dw l))),(29,(.I (l.length:Int))),(30,(.I 0))] (FI J)<|Di (P:=Tryz.prog) l (fun j a=>C2 fun fBad l2=>Ms j a fBad l2) (((C2 fun fBad l2=>.ok (fBad,l2))):(Bool×(List Token))→R (Bool×(List Token))) (fun j=>C2 fun fBad l2=>fun(fr:Nat→AV) (h:Af) => ∃ (v2:AV),∃ (g3:Nat),Az v2 (ix ids 1) g3 l2.length∧fr=A2 [(0,(.q ids 0 g)),(3,(.func (.func 35) [] [(.q ids 2 g2)])),(28,(.sl 2 (List.map Dw l))),(29,(.I (l.length:Int))),(30,(.I (j:Int)))]∧h=hp h0 ids [(some (.rows g 2 [[v2,(.bool fBad)]])),(Ai v2 g3 4 (List.map Ad l2)),(some (.rows g2 1 [[(.q ids 0 g)]])),none]) (((s0_bad||((l.length:Int)==0))||(decide ((l.length:Int) > most))),l1) ?_ ?_ ?_
   ·exact⟨v1,g1,vH,J,J⟩
   ·rintro j a ha W hW ⟨fBad,l2⟩ fr h ⟨v2,g3,vH1,rfl,rfl⟩
    refine Al (m':=Ms j a fBad l2) J (Al (Ms.eq_1 _ _ _ _) ?_)
    refine Y<|O<|Aa (.bool (decide ((j:Int)<(l.length:Int)))) J (Ba J J J)<|Z<|Y<|Dn (t:=28) (L:=l) J fun hlim=>Ch J (Int.ofNat_lt.2 (Av ha)) ?_
    refine A0<|Y<|A3<|Y<|O<|Aa (.I (j:Int)) J Ae<|Aa (.cp (Dw a) 0) J (Bt (Ct Px Q9 J ha)) ?_
    refine Aa (.agg (Dw a)) J (As (Dh Q9 J))<|Bl (j:=3) hI J J J J Q9 J fun g4=>Aa (.I (j:Int)) J Aj<|Au (A4 (v:=(.agg (Dw a))) hI J J J J Q9 J J J J J)<|Z<|Ak ?_
    refine Y<|Y<|O<|Ac 2 [] [(36,(.bool (decide ((j:Int) > 0))))] ?_
    refine Z<|D3 (C2 fun fBad1 l3=>Mo a fBad1 l3) (C2 fun fBad1 l3=>fun(fr:Nat→AV) (h:Af) => ∃ (v4:AV),∃ (g6:Nat),Az v4 (ix ids 1) g6 l3.length∧fr=A2 [(0,(.q ids 0 g)),(3,(.func (.func 35) [] [(.q ids 2 g2)])),(9,(.q ids 3 g4)),(28,(.sl 2 (List.map Dw l))),(29,(.I (l.length:Int))),(30,(.I (j:Int)))]∧h=hp h0 ids [(some (.rows g 2 [[v4,(.bool fBad1)]])),(Ai v4 g6 4 (List.map Ad l3)),(some (.rows g2 1 [[(.q ids 0 g)]])),(some (.rows g4 2 [(Dw a)]))]) ?_ fun hJ2=>?_
    ·rintro⟨fBad1,l3⟩ fr h ⟨v4,g6,vH3,rfl,rfl⟩
     refine Al (Mo.eq_1 _ _ _)<|O<|Ac 2 [3] [(41,(.agg (Dw a))),(40,(.func (.func 35) [] [(.q ids 2 g2)]))] ?_
     refine Ao [2,0,1] hI J J (Abm a fBad1 l3 _ (ix ids 2) (ix ids 0) (ix ids 1) g2 g v4 g6 vH3 (by exact hI.sub' J J)) J J J J J J (fun v _=>Ap (K:=3) (N:=1) Tryz.func34 hI) ?_
     rintro r1 _ _ _ ⟨v5,g7,vH4,rfl,rfl⟩
     refine Aw [2,0,1] hI J J J ?_
     refine Aq<|Z<|Ak ?_
     refine Bf<|O<|Ac 2 [] [(30,(.I (IntKind.wrap .i64 ((j:Int)+1))))] ?_
     refine Z<|Dr [(some (.rows g 2 [[v5,(.bool r1.1)]])),(Ai v5 g7 4 (List.map Ad r1.2)),(some (.rows g2 1 [[(.q ids 0 g)]])),none] hI J (.keep (.keep (.keep (.drop .nil))))<|Bp (I7 (hW (r1.1,r1.2) _ _ ⟨v5,g7,vH4,J,J⟩)) (.cons J (.cons J (.cons J (.cons J (.cons (C3 (Av ha) hlim) .nil)))))
    refine On J (fun hc=>?_) (fun hc=>?_)
    ·refine O<|Aa (.q ids 0 g) J Ae<|Dp (e:=rS) (L:=[[44]]) (st:=1) (rows:=[[(.str [44])]]) J Dg Cf J J J J J (.cons (RowSim.refl _) .nil) (fun x=>Hg x) J J<|Ao [0,1] hI J J (Dc [[44]] fBad l2 _ (ix ids 0) (ix ids 1) g v2 g3 vH1 (by exact hI.sub' J J)) J J J J J J (fun v _=>Ap (K:=3) (N:=1) Tryz.func34 hI) ?_
     rintro r _ _ _ ⟨v3,g5,vH2,rfl,rfl⟩
     refine Aw [0,1] hI J J J ?_
     refine Aq<|Z<|Ak ?_
     exact Bp (hJ2 (r.1,r.2) _ _ ⟨v3,g5,vH2,J,J⟩)
    refine A0<|Bp (hJ2 (fBad,l2) _ _ ⟨v2,g3,vH1,J,J⟩)
   rintro⟨fBad,l2⟩ fr h ⟨v2,g3,vH1,rfl,rfl⟩
   refine Al (Q7 _ _ _)<|Y<|O<|Aa (.bool (decide ((l.length:Int)<(l.length:Int)))) J (Ba J J J)<|Z<|Y<|Cg J (Int.lt_irrefl _) ?_
   refine Cl J<|Cc (K:=3) (N:=1) (a:=(fBad,l2)) (vs:=[]) [some (.rows g 2 [[v2,(.bool fBad)]]),Ai v2 g3 4 (List.map Ad l2),some (.rows g2 1 [[(.q ids 0 g)]])] Tryz.func34 hI J J J (.keep (.keep (.keep (.keep .nil)))) (.same _) ⟨v2,g3,vH1,J,J⟩
  ·refine Bj (t:=20) hb3 J<|Ac 5 [] [(25,(.bool true))] ?_
   exact Br hJ1 (.cons J (.cons J (.cons J (.cons J (.cons (Fe hb3) .nil)))))
  refine Bj (t:=20) hb3 J<|Bx (tj:=20) (.sl 2 (List.map Dw l)) J J J Ae<|Bx (tj:=20) (.I (l.length:Int)) J J J (Ay (A8 Px))<|Ac 3 [] [(25,(.bool (decide ((l.length:Int) > most))))] ?_
  exact Br hJ1 (.cons J (.cons J (.cons J (.cons J (.cons (Fg hb3) .nil)))))
 ·refine Bj (t:=15) hb1 J<|Ac 4 [] [(19,(.bool true))] ?_
  exact Br hJ (.cons J (.cons J (.cons J (.cons J (.cons J (.cons (Fe hb1) .nil))))))
 refine Bj (t:=15) hb1 J<|Bx (tj:=15) (.sl 2 (List.map Dw l)) J J J Ae<|Bx (tj:=15) (.I (l.length:Int)) J J J (Ay (A8 Px))<|Ac 2 [] [(19,(.bool ((l.length:Int)==0)))] ?_
 exact Br hJ (.cons J (.cons J (.cons J (.cons J (.cons J (.cons (Fg hb1) .nil))))))
theorem Ad0 (a:Airport)(s1_bad:Bool)(l:List Token)(h0:Af)(o0:Nat)(o1:Nat)(o2:Nat)(g:Nat)(g1:Nat)(v1:AV)(g2:Nat)(vH:Az v1 o2 g2 l.length)(hI0:Ids h0 [o0,o1,o2] 3):Oj a s1_bad l≠.bad→Bg Tryz.prog 33 [(.agg (A5 a)),(.ptr o0 g 0 0)] (hp h0 [o0,o1,o2] [some (.rows g 1 [[(.ptr o1 g1 0 0)]]),some (.rows g1 2 [[v1,(.bool s1_bad)]]),Ai v1 g2 4 (List.map Ad l)]) (Cq (fun a_ v h' => ∃ (v4:AV),∃ (g6:Nat),Az v4 o2 g6 a_.2.length∧v=(.tup [])∧h'=hp h0 [o0,o1,o2] [some (.rows g 1 [[(.ptr o1 g1 0 0)]]),some (.rows g1 2 [[v4,(.bool a_.1)]]),Ai v4 g6 4 (List.map Ad a_.2)]) h0 (Oj a s1_bad l)):=by
 refine Bb (n:=12) 1 Tryz.func33 J (by decide) J J hI0 J fun ids he hI=>?_
 clear hI0
 obtain rfl:ix ids 0=o0:=he 0 rfl
 obtain rfl:ix ids 1=o1:=he 1 rfl
 obtain rfl:ix ids 2=o2:=he 2 rfl
 clear he
 refine Bk (Al (Oj.eq_1 _ _ _) ?_)
 refine Ak ?_
 refine Y<|O<|Ck (v:=(.agg (A5 a))) (j:=3) hI J J J J J J J fun g3=>Z<|Ak ?_
 refine Y<|O<|Ac 3 [0,3] [(5,(.str a.Name)),(3,(.q ids 1 g1))] ?_
 refine Ao [1,2] hI J J (C7 a.Name s1_bad l _ (ix ids 1) (ix ids 2) g1 v1 g2 vH (by exact hI.sub' J J)) J J J J J J (fun v _=>Ap (K:=3) (N:=1) Tryz.func33 hI) ?_
 rintro r _ _ _ ⟨v2,g4,vH1,rfl,rfl⟩
 refine Aw [1,2] hI J J J ?_
 refine Aq<|Z<|Ak ?_
 refine O<|Ac 4 [0,3] [(10,(.func (.func 35) [] [(.q ids 0 g)])),(9,(.sl 2 (List.map Dw a.Modes))),(7,(.q ids 1 g1))] ?_
 refine Ao [1,2,0] hI J J (Abk a.Modes 16 r.1 r.2 _ (ix ids 1) (ix ids 2) (ix ids 0) g1 v2 g4 g vH1 (by exact hI.sub' J J)) J J J J J J (fun v _=>Ap (K:=3) (N:=1) Tryz.func33 hI) ?_
 rintro r1 _ _ _ ⟨v3,g5,vH2,rfl,rfl⟩
 refine Aw [1,2,0] hI J J J ?_
 refine Aq<|Z<|Ak ?_
 exact Cc (K:=3) (N:=1) (a:=(r1.1,r1.2)) (vs:=[]) [some (.rows g 1 [[(.q ids 1 g1)]]),some (.rows g1 2 [[v3,(.bool r1.1)]]),Ai v3 g5 4 (List.map Ad r1.2)] Tryz.func33 hI J J J (.keep (.keep (.keep (.drop .nil)))) (.same _) ⟨v3,g5,vH2,J,J⟩
theorem W0 (text:An)(l:List Airport)(most:Int)(s0_bad:Bool)(l1:List Token)(h0:Af)(o0:Nat)(o1:Nat)(o2:Nat)(g:Nat)(v1:AV)(g1:Nat)(g2:Nat)(vH:Az v1 o1 g1 l1.length)(hI0:Ids h0 [o0,o1,o2] 3):Fi text l most s0_bad l1≠.bad→Bg Tryz.prog 32 [(.ptr o0 g 0 0),(.str text),(.sl 2 (List.map A5 l)),(.int .i64 most),(.func (.func 33) [] [(.ptr o2 g2 0 0)])] (hp h0 [o0,o1,o2] [some (.rows g 2 [[v1,(.bool s0_bad)]]),Ai v1 g1 4 (List.map Ad l1),some (.rows g2 1 [[(.ptr o0 g 0 0)]])]) (Cq (fun a_ v h' => ∃ (v7:AV),∃ (g9:Nat),Az v7 o1 g9 a_.2.length∧v=(.tup [])∧h'=hp h0 [o0,o1,o2] [some (.rows g 2 [[v7,(.bool a_.1)]]),Ai v7 g9 4 (List.map Ad a_.2),some (.rows g2 1 [[(.ptr o0 g 0 0)]])]) h0 (Fi text l most s0_bad l1)):=by
 refine Bb (n:=44) 1 Tryz.func32 J (by decide) J J hI0 J fun ids he hI=>?_
 clear hI0
 obtain rfl:ix ids 0=o0:=he 0 rfl
 obtain rfl:ix ids 1=o1:=he 1 rfl
 obtain rfl:ix ids 2=o2:=he 2 rfl
 clear he
 refine Bk (Al (Fi.eq_1 _ _ _ _ _) ?_)
 refine Ak ?_
 refine Y<|O<|Ac 6 [0] [(17,(.bool s0_bad)),(12,(.q ids 0 g))] ?_
 refine B9 5 [(0,(.q ids 0 g)),(1,(.str text)),(2,(.sl 2 (List.map A5 l))),(4,(.func (.func 33) [] [(.q ids 2 g2)])),(12,(.q ids 0 g)),(22,(.bool (s0_bad||(decide ((l.length:Int) > most)))))] ?_ fun hJ=>Bz s0_bad (fun hb1=>?_) (fun hb1=>?_)
 ·refine Ac 2 [] [(24,(.ptr (ix ids 0) g 0 1))] ?_
  refine Au (A4 (v:=(.bool (s0_bad||(decide ((l.length:Int) > most))))) hI J J J J R9 J J J J J)<|Z<|Ak ?_
  refine Y<|O<|Aa (.sl 2 (List.map A5 l)) J Ae<|Aa (.I (l.length:Int)) J (Ay (A8 Lg))<|Aa (.I 0) J Ae<|Z<|A3 ?_
  refine Db [(0,(.q ids 0 g)),(1,(.str text)),(4,(.func (.func 33) [] [(.q ids 2 g2)])),(25,(.sl 2 (List.map A5 l))),(26,(.I (l.length:Int))),(27,(.I 0))] (FI J)<|Di (P:=Tryz.prog) l (fun _ a=>C2 fun fBad l2=>Hk text a fBad l2) (((C2 fun fBad l2=>.ok (fBad,l2))):(Bool×(List Token))→R (Bool×(List Token))) (fun j=>C2 fun fBad l2=>fun(fr:Nat→AV) (h:Af) => ∃ (v2:AV),∃ (g3:Nat),Az v2 (ix ids 1) g3 l2.length∧fr=A2 [(0,(.q ids 0 g)),(1,(.str text)),(4,(.func (.func 33) [] [(.q ids 2 g2)])),(25,(.sl 2 (List.map A5 l))),(26,(.I (l.length:Int))),(27,(.I (j:Int)))]∧h=hp h0 ids [(some (.rows g 2 [[v2,(.bool fBad)]])),(Ai v2 g3 4 (List.map Ad l2)),(some (.rows g2 1 [[(.q ids 0 g)]])),none]) ((s0_bad||(decide ((l.length:Int) > most))),l1) ?_ ?_ ?_
  ·exact⟨v1,g1,vH,J,J⟩
  ·rintro j a ha W hW ⟨fBad,l2⟩ fr h ⟨v2,g3,vH1,rfl,rfl⟩
   refine Al (m':=Hk text a fBad l2) J (Al (Hk.eq_1 _ _ _ _) ?_)
   refine Y<|O<|Aa (.bool (decide ((j:Int)<(l.length:Int)))) J (Ba J J J)<|Z<|Y<|Dn (t:=25) (L:=l) J fun hlim=>Ch J (Int.ofNat_lt.2 (Av ha)) ?_
   refine A0<|Y<|A3<|Y<|O<|Aa (.cp (A5 a) 0) J (Bt (Ct Lg I8 J ha))<|Aa (.agg (A5 a)) J (As (Dh I8 J)) ?_
   refine Bl (j:=3) hI J J J J I8 J fun g4=>Au (A4 (v:=(.agg (A5 a))) hI J J J J I8 J J J J J)<|Z<|Ak ?_
   refine Y<|Y<|O<|Ac 2 [] [(32,(.bool (!(text==[]))))] ?_
   refine Z<|D3 (C2 fun fBad1 l3=>G3 a fBad1 l3) (C2 fun fBad1 l3=>fun(fr:Nat→AV) (h:Af) => ∃ (v4:AV),∃ (g6:Nat),Az v4 (ix ids 1) g6 l3.length∧fr=A2 [(0,(.q ids 0 g)),(1,(.str text)),(4,(.func (.func 33) [] [(.q ids 2 g2)])),(11,(.q ids 3 g4)),(25,(.sl 2 (List.map A5 l))),(26,(.I (l.length:Int))),(27,(.I (j:Int)))]∧h=hp h0 ids [(some (.rows g 2 [[v4,(.bool fBad1)]])),(Ai v4 g6 4 (List.map Ad l3)),(some (.rows g2 1 [[(.q ids 0 g)]])),(some (.rows g4 2 [(A5 a)]))]) ?_ fun hJ1=>?_
   ·rintro⟨fBad1,l3⟩ fr h ⟨v4,g6,vH3,rfl,rfl⟩
    refine Al (G3.eq_1 _ _ _)<|Y<|O<|Ac 2 [3] [(38,(.agg (A5 a))),(37,(.func (.func 33) [] [(.q ids 2 g2)]))] ?_
    refine Ao [2,0,1] hI J J (Ad0 a fBad1 l3 _ (ix ids 2) (ix ids 0) (ix ids 1) g2 g v4 g6 vH3 (by exact hI.sub' J J)) J J J J J J (fun v _=>Ap (K:=3) (N:=1) Tryz.func32 hI) ?_
    rintro r1 _ _ _ ⟨v5,g7,vH4,rfl,rfl⟩
    refine Aw [2,0,1] hI J J J ?_
    refine Aq<|Z<|Ak ?_
    refine O<|Aa (.q ids 0 g) J Ae<|Dp (e:=rS) (L:=[[59]]) (st:=1) (rows:=[[(.str [59])]]) J Dg Cf J J J J J (.cons (RowSim.refl _) .nil) (fun x=>Hg x) J J<|Ao [0,1] hI J J (Dc [[59]] r1.1 r1.2 _ (ix ids 0) (ix ids 1) g v5 g7 vH4 (by exact hI.sub' J J)) J J J J J J (fun v _=>Ap (K:=3) (N:=1) Tryz.func32 hI) ?_
    rintro r2 _ _ _ ⟨v6,g8,vH5,rfl,rfl⟩
    refine Aw [0,1] hI J J J ?_
    refine Aq<|Z<|Ak ?_
    refine Bf<|O<|Ac 2 [] [(27,(.I (IntKind.wrap .i64 ((j:Int)+1))))] ?_
    refine Z<|Dr [(some (.rows g 2 [[v6,(.bool r2.1)]])),(Ai v6 g8 4 (List.map Ad r2.2)),(some (.rows g2 1 [[(.q ids 0 g)]])),none] hI J (.keep (.keep (.keep (.drop .nil))))<|Bp (I7 (hW (r2.1,r2.2) _ _ ⟨v6,g8,vH5,J,J⟩)) (.cons J (.cons J (.cons J (.cons J (.cons J (.cons (C3 (Av ha) hlim) .nil))))))
   refine Fj J (fun hc=>?_) (fun hc=>?_)
   ·refine A0<|Bp (hJ1 (fBad,l2) _ _ ⟨v2,g3,vH1,J,J⟩)
   refine O<|Ac 2 [] [(34,(.str text)),(33,(.q ids 0 g))] ?_
   refine Dp (e:=rS) (L:=[text]) (st:=1) (rows:=[[(.str text)]]) J Dg Cf J J J J J (.cons (RowSim.refl _) .nil) (fun x=>Hg x) J J<|Ao [0,1] hI J J (By [text] fBad l2 _ (ix ids 0) (ix ids 1) g v2 g3 vH1 (by exact hI.sub' J J)) J J J J J J (fun v _=>Ap (K:=3) (N:=1) Tryz.func32 hI) ?_
   rintro r _ _ _ ⟨v3,g5,vH2,rfl,rfl⟩
   refine Aw [0,1] hI J J J ?_
   refine Aq<|Z<|Ak ?_
   exact Bp (hJ1 (r.1,r.2) _ _ ⟨v3,g5,vH2,J,J⟩)
  rintro⟨fBad,l2⟩ fr h ⟨v2,g3,vH1,rfl,rfl⟩
  refine Al (Q7 _ _ _)<|Y<|O<|Aa (.bool (decide ((l.length:Int)<(l.length:Int)))) J (Ba J J J)<|Z<|Y<|Cg J (Int.lt_irrefl _) ?_
  refine Cl J<|Cc (K:=3) (N:=1) (a:=(fBad,l2)) (vs:=[]) [some (.rows g 2 [[v2,(.bool fBad)]]),Ai v2 g3 4 (List.map Ad l2),some (.rows g2 1 [[(.q ids 0 g)]])] Tryz.func32 hI J J J (.keep (.keep (.keep (.keep .nil)))) (.same _) ⟨v2,g3,vH1,J,J⟩
 ·refine Bj (t:=17) hb1 J<|Ac 5 [] [(22,(.bool true))] ?_
  exact Br hJ (.cons J (.cons J (.cons J (.cons J (.cons J (.cons (Fe hb1) .nil))))))
 refine Bj (t:=17) hb1 J<|Bx (tj:=17) (.sl 2 (List.map A5 l)) J J J Ae<|Bx (tj:=17) (.I (l.length:Int)) J J J (Ay (A8 Lg))<|Ac 3 [] [(22,(.bool (decide ((l.length:Int) > most))))] ?_
 exact Br hJ (.cons J (.cons J (.cons J (.cons J (.cons J (.cons (Fg hb1) .nil))))))
theorem Ad3 (a:Class)(s1_bad:Bool)(l:List Token)(h0:Af)(o0:Nat)(o1:Nat)(o2:Nat)(g:Nat)(g1:Nat)(v1:AV)(g2:Nat)(vH:Az v1 o2 g2 l.length)(hI0:Ids h0 [o0,o1,o2] 3):Oq a s1_bad l≠.bad→Bg Tryz.prog 37 [(.agg (Bn a)),(.ptr o0 g 0 0)] (hp h0 [o0,o1,o2] [some (.rows g 1 [[(.ptr o1 g1 0 0)]]),some (.rows g1 2 [[v1,(.bool s1_bad)]]),Ai v1 g2 4 (List.map Ad l)]) (Cq (fun a_ v h' => ∃ (v9:AV),∃ (g11:Nat),Az v9 o2 g11 a_.2.length∧v=(.tup [])∧h'=hp h0 [o0,o1,o2] [some (.rows g 1 [[(.ptr o1 g1 0 0)]]),some (.rows g1 2 [[v9,(.bool a_.1)]]),Ai v9 g11 4 (List.map Ad a_.2)]) h0 (Oq a s1_bad l)):=by
 refine Bb (n:=30) 1 Tryz.func37 J (by decide) J J hI0 J fun ids he hI=>?_
 clear hI0
 obtain rfl:ix ids 0=o0:=he 0 rfl
 obtain rfl:ix ids 1=o1:=he 1 rfl
 obtain rfl:ix ids 2=o2:=he 2 rfl
 clear he
 refine Bk (Al (Oq.eq_1 _ _ _) ?_)
 refine Ak ?_
 refine Y<|O<|Ck (v:=(.agg (Bn a))) (j:=3) hI J J J J J J J fun g3=>Z<|Ak ?_
 refine Y<|O<|Ac 3 [0,3] [(5,(.str a.Name)),(3,(.q ids 1 g1))] ?_
 refine Ao [1,2] hI J J (C7 a.Name s1_bad l _ (ix ids 1) (ix ids 2) g1 v1 g2 vH (by exact hI.sub' J J)) J J J J J J (fun v _=>Ap (K:=3) (N:=1) Tryz.func37 hI) ?_
 rintro r _ _ _ ⟨v2,g4,vH1,rfl,rfl⟩
 refine Aw [1,2] hI J J J ?_
 refine Aq<|Z<|Ak ?_
 refine Y<|O<|Ac 1 [0] [(7,(.q ids 1 g1))] ?_
 refine Dp (e:=rS) (L:=[[115,108,111,119]]) (st:=1) (rows:=[[(.str [115,108,111,119])]]) J Dg Cf J J J J J (.cons (RowSim.refl _) .nil) (fun x=>Hg x) J J<|Ao [1,2] hI J J (By [[115,108,111,119]] r.1 r.2 _ (ix ids 1) (ix ids 2) g1 v2 g4 vH1 (by exact hI.sub' J J)) J J J J J J (fun v _=>Ap (K:=3) (N:=1) Tryz.func37 hI) ?_
 rintro r1 _ _ _ ⟨v3,g5,vH2,rfl,rfl⟩
 refine Aw [1,2] hI J J J ?_
 refine Aq<|Z<|Ak ?_
 refine Y<|O<|Ac 3 [0,3] [(12,(.I a.Slow)),(10,(.q ids 1 g1))] ?_
 refine Ao [1,2] hI J J (Ds a.Slow 1 64 r1.1 r1.2 _ (ix ids 1) (ix ids 2) g1 v3 g5 vH2 (by exact hI.sub' J J)) J J J J J J (fun v _=>Ap (K:=3) (N:=1) Tryz.func37 hI) ?_
 rintro r2 _ _ _ ⟨v4,g6,vH3,rfl,rfl⟩
 refine Aw [1,2] hI J J J ?_
 refine Aq<|Z<|Ak ?_
 refine Y<|O<|Ac 1 [0] [(14,(.q ids 1 g1))] ?_
 refine Dp (e:=rS) (L:=[[102,97,115,116]]) (st:=1) (rows:=[[(.str [102,97,115,116])]]) J Dg Cf J J J J J (.cons (RowSim.refl _) .nil) (fun x=>Hg x) J J<|Ao [1,2] hI J J (By [[102,97,115,116]] (r1.1||(!((decide (a.Slow≥1))&&(decide (a.Slow≤64))))) r2 _ (ix ids 1) (ix ids 2) g1 v4 g6 vH3 (by exact hI.sub' J J)) J J J J J J (fun v _=>Ap (K:=3) (N:=1) Tryz.func37 hI) ?_
 rintro r3 _ _ _ ⟨v5,g7,vH4,rfl,rfl⟩
 refine Aw [1,2] hI J J J ?_
 refine Aq<|Z<|Ak ?_
 refine Y<|O<|Ac 5 [0,3,3] [(21,(.I a.Slow)),(19,(.I a.Fast)),(17,(.q ids 1 g1))] ?_
 refine Ao [1,2] hI J J (Ds a.Fast a.Slow 64 r3.1 r3.2 _ (ix ids 1) (ix ids 2) g1 v5 g7 vH4 (by exact hI.sub' J J)) J J J J J J (fun v _=>Ap (K:=3) (N:=1) Tryz.func37 hI) ?_
 rintro r4 _ _ _ ⟨v6,g8,vH5,rfl,rfl⟩
 refine Aw [1,2] hI J J J ?_
 refine Aq<|Z<|Ak ?_
 refine Y<|O<|Ac 1 [0] [(23,(.q ids 1 g1))] ?_
 refine Dp (e:=rS) (L:=[[112,108,97,99,101,115]]) (st:=1) (rows:=[[(.str [112,108,97,99,101,115])]]) J Dg Cf J J J J J (.cons (RowSim.refl _) .nil) (fun x=>Hg x) J J<|Ao [1,2] hI J J (By [[112,108,97,99,101,115]] (r3.1||(!((decide (a.Fast≥a.Slow))&&(decide (a.Fast≤64))))) r4 _ (ix ids 1) (ix ids 2) g1 v6 g8 vH5 (by exact hI.sub' J J)) J J J J J J (fun v _=>Ap (K:=3) (N:=1) Tryz.func37 hI) ?_
 rintro r5 _ _ _ ⟨v7,g9,vH6,rfl,rfl⟩
 refine Aw [1,2] hI J J J ?_
 refine Aq<|Z<|Ak ?_
 refine O<|Ac 3 [0,3] [(28,(.I a.Places)),(26,(.q ids 1 g1))] ?_
 refine Ao [1,2] hI J J (Ds a.Places 1 8 r5.1 r5.2 _ (ix ids 1) (ix ids 2) g1 v7 g9 vH6 (by exact hI.sub' J J)) J J J J J J (fun v _=>Ap (K:=3) (N:=1) Tryz.func37 hI) ?_
 rintro r6 _ _ _ ⟨v8,g10,vH7,rfl,rfl⟩
 refine Aw [1,2] hI J J J ?_
 refine Aq<|Z<|Ak ?_
 exact Cc (K:=3) (N:=1) (a:=((r5.1||(!((decide (a.Places≥1))&&(decide (a.Places≤8))))),r6)) (vs:=[]) [some (.rows g 1 [[(.q ids 1 g1)]]),some (.rows g1 2 [[v8,(.bool (r5.1||(!((decide (a.Places≥1))&&(decide (a.Places≤8))))))]]),Ai v8 g10 4 (List.map Ad r6)] Tryz.func37 hI J J J (.keep (.keep (.keep (.drop .nil)))) (.same _) ⟨v8,g10,vH7,J,J⟩
theorem Yt (text:An)(l:List Class)(most:Int)(s0_bad:Bool)(l1:List Token)(h0:Af)(o0:Nat)(o1:Nat)(o2:Nat)(g:Nat)(v1:AV)(g1:Nat)(g2:Nat)(vH:Az v1 o1 g1 l1.length)(hI0:Ids h0 [o0,o1,o2] 3):F9 text l most s0_bad l1≠.bad→Bg Tryz.prog 36 [(.ptr o0 g 0 0),(.str text),(.sl 4 (List.map Bn l)),(.int .i64 most),(.func (.func 37) [] [(.ptr o2 g2 0 0)])] (hp h0 [o0,o1,o2] [some (.rows g 2 [[v1,(.bool s0_bad)]]),Ai v1 g1 4 (List.map Ad l1),some (.rows g2 1 [[(.ptr o0 g 0 0)]])]) (Cq (fun a_ v h' => ∃ (v7:AV),∃ (g9:Nat),Az v7 o1 g9 a_.2.length∧v=(.tup [])∧h'=hp h0 [o0,o1,o2] [some (.rows g 2 [[v7,(.bool a_.1)]]),Ai v7 g9 4 (List.map Ad a_.2),some (.rows g2 1 [[(.ptr o0 g 0 0)]])]) h0 (F9 text l most s0_bad l1)):=by
 refine Bb (n:=44) 1 Tryz.func36 J (by decide) J J hI0 J fun ids he hI=>?_
 clear hI0
 obtain rfl:ix ids 0=o0:=he 0 rfl
 obtain rfl:ix ids 1=o1:=he 1 rfl
 obtain rfl:ix ids 2=o2:=he 2 rfl
 clear he
 refine Bk (Al (F9.eq_1 _ _ _ _ _) ?_)
 refine Ak ?_
 refine Y<|O<|Ac 6 [0] [(17,(.bool s0_bad)),(12,(.q ids 0 g))] ?_
 refine B9 5 [(0,(.q ids 0 g)),(1,(.str text)),(2,(.sl 4 (List.map Bn l))),(4,(.func (.func 37) [] [(.q ids 2 g2)])),(12,(.q ids 0 g)),(22,(.bool (s0_bad||(decide ((l.length:Int) > most)))))] ?_ fun hJ=>Bz s0_bad (fun hb1=>?_) (fun hb1=>?_)
 ·refine Ac 2 [] [(24,(.ptr (ix ids 0) g 0 1))] ?_
  refine Au (A4 (v:=(.bool (s0_bad||(decide ((l.length:Int) > most))))) hI J J J J R9 J J J J J)<|Z<|Ak ?_
  refine Y<|O<|Aa (.sl 4 (List.map Bn l)) J Ae<|Aa (.I (l.length:Int)) J (Ay (A8 Mn))<|Aa (.I 0) J Ae<|Z<|A3 ?_
  refine Db [(0,(.q ids 0 g)),(1,(.str text)),(4,(.func (.func 37) [] [(.q ids 2 g2)])),(25,(.sl 4 (List.map Bn l))),(26,(.I (l.length:Int))),(27,(.I 0))] (FI J)<|Di (P:=Tryz.prog) l (fun _ a=>C2 fun fBad l2=>H9 text a fBad l2) (((C2 fun fBad l2=>.ok (fBad,l2))):(Bool×(List Token))→R (Bool×(List Token))) (fun j=>C2 fun fBad l2=>fun(fr:Nat→AV) (h:Af) => ∃ (v2:AV),∃ (g3:Nat),Az v2 (ix ids 1) g3 l2.length∧fr=A2 [(0,(.q ids 0 g)),(1,(.str text)),(4,(.func (.func 37) [] [(.q ids 2 g2)])),(25,(.sl 4 (List.map Bn l))),(26,(.I (l.length:Int))),(27,(.I (j:Int)))]∧h=hp h0 ids [(some (.rows g 2 [[v2,(.bool fBad)]])),(Ai v2 g3 4 (List.map Ad l2)),(some (.rows g2 1 [[(.q ids 0 g)]])),none]) ((s0_bad||(decide ((l.length:Int) > most))),l1) ?_ ?_ ?_
  ·exact⟨v1,g1,vH,J,J⟩
  ·rintro j a ha W hW ⟨fBad,l2⟩ fr h ⟨v2,g3,vH1,rfl,rfl⟩
   refine Al (m':=H9 text a fBad l2) J (Al (H9.eq_1 _ _ _ _) ?_)
   refine Y<|O<|Aa (.bool (decide ((j:Int)<(l.length:Int)))) J (Ba J J J)<|Z<|Y<|Dn (t:=25) (L:=l) J fun hlim=>Ch J (Int.ofNat_lt.2 (Av ha)) ?_
   refine A0<|Y<|A3<|Y<|O<|Aa (.cp (Bn a) 0) J (Bt (Ct Mn Lc J ha))<|Aa (.agg (Bn a)) J (As (Dh Lc J)) ?_
   refine Bl (j:=3) hI J J J J Lc J fun g4=>Au (A4 (v:=(.agg (Bn a))) hI J J J J Lc J J J J J)<|Z<|Ak ?_
   refine Y<|Y<|O<|Ac 2 [] [(32,(.bool (!(text==[]))))] ?_
   refine Z<|D3 (C2 fun fBad1 l3=>Ia a fBad1 l3) (C2 fun fBad1 l3=>fun(fr:Nat→AV) (h:Af) => ∃ (v4:AV),∃ (g6:Nat),Az v4 (ix ids 1) g6 l3.length∧fr=A2 [(0,(.q ids 0 g)),(1,(.str text)),(4,(.func (.func 37) [] [(.q ids 2 g2)])),(11,(.q ids 3 g4)),(25,(.sl 4 (List.map Bn l))),(26,(.I (l.length:Int))),(27,(.I (j:Int)))]∧h=hp h0 ids [(some (.rows g 2 [[v4,(.bool fBad1)]])),(Ai v4 g6 4 (List.map Ad l3)),(some (.rows g2 1 [[(.q ids 0 g)]])),(some (.rows g4 4 [(Bn a)]))]) ?_ fun hJ1=>?_
   ·rintro⟨fBad1,l3⟩ fr h ⟨v4,g6,vH3,rfl,rfl⟩
    refine Al (Ia.eq_1 _ _ _)<|Y<|O<|Ac 2 [3] [(38,(.agg (Bn a))),(37,(.func (.func 37) [] [(.q ids 2 g2)]))] ?_
    refine Ao [2,0,1] hI J J (Ad3 a fBad1 l3 _ (ix ids 2) (ix ids 0) (ix ids 1) g2 g v4 g6 vH3 (by exact hI.sub' J J)) J J J J J J (fun v _=>Ap (K:=3) (N:=1) Tryz.func36 hI) ?_
    rintro r1 _ _ _ ⟨v5,g7,vH4,rfl,rfl⟩
    refine Aw [2,0,1] hI J J J ?_
    refine Aq<|Z<|Ak ?_
    refine O<|Aa (.q ids 0 g) J Ae<|Dp (e:=rS) (L:=[[59]]) (st:=1) (rows:=[[(.str [59])]]) J Dg Cf J J J J J (.cons (RowSim.refl _) .nil) (fun x=>Hg x) J J<|Ao [0,1] hI J J (Dc [[59]] r1.1 r1.2 _ (ix ids 0) (ix ids 1) g v5 g7 vH4 (by exact hI.sub' J J)) J J J J J J (fun v _=>Ap (K:=3) (N:=1) Tryz.func36 hI) ?_
    rintro r2 _ _ _ ⟨v6,g8,vH5,rfl,rfl⟩
    refine Aw [0,1] hI J J J ?_
    refine Aq<|Z<|Ak ?_
    refine Bf<|O<|Ac 2 [] [(27,(.I (IntKind.wrap .i64 ((j:Int)+1))))] ?_
    refine Z<|Dr [(some (.rows g 2 [[v6,(.bool r2.1)]])),(Ai v6 g8 4 (List.map Ad r2.2)),(some (.rows g2 1 [[(.q ids 0 g)]])),none] hI J (.keep (.keep (.keep (.drop .nil))))<|Bp (I7 (hW (r2.1,r2.2) _ _ ⟨v6,g8,vH5,J,J⟩)) (.cons J (.cons J (.cons J (.cons J (.cons J (.cons (C3 (Av ha) hlim) .nil))))))
   refine Fj J (fun hc=>?_) (fun hc=>?_)
   ·refine A0<|Bp (hJ1 (fBad,l2) _ _ ⟨v2,g3,vH1,J,J⟩)
   refine O<|Ac 2 [] [(34,(.str text)),(33,(.q ids 0 g))] ?_
   refine Dp (e:=rS) (L:=[text]) (st:=1) (rows:=[[(.str text)]]) J Dg Cf J J J J J (.cons (RowSim.refl _) .nil) (fun x=>Hg x) J J<|Ao [0,1] hI J J (By [text] fBad l2 _ (ix ids 0) (ix ids 1) g v2 g3 vH1 (by exact hI.sub' J J)) J J J J J J (fun v _=>Ap (K:=3) (N:=1) Tryz.func36 hI) ?_
   rintro r _ _ _ ⟨v3,g5,vH2,rfl,rfl⟩
   refine Aw [0,1] hI J J J ?_
   refine Aq<|Z<|Ak ?_
   exact Bp (hJ1 (r.1,r.2) _ _ ⟨v3,g5,vH2,J,J⟩)
  rintro⟨fBad,l2⟩ fr h ⟨v2,g3,vH1,rfl,rfl⟩
  refine Al (Q7 _ _ _)<|Y<|O<|Aa (.bool (decide ((l.length:Int)<(l.length:Int)))) J (Ba J J J)<|Z<|Y<|Cg J (Int.lt_irrefl _) ?_
  refine Cl J<|Cc (K:=3) (N:=1) (a:=(fBad,l2)) (vs:=[]) [some (.rows g 2 [[v2,(.bool fBad)]]),Ai v2 g3 4 (List.map Ad l2),some (.rows g2 1 [[(.q ids 0 g)]])] Tryz.func36 hI J J J (.keep (.keep (.keep (.keep .nil)))) (.same _) ⟨v2,g3,vH1,J,J⟩
 ·refine Bj (t:=17) hb1 J<|Ac 5 [] [(22,(.bool true))] ?_
  exact Br hJ (.cons J (.cons J (.cons J (.cons J (.cons J (.cons (Fe hb1) .nil))))))
 refine Bj (t:=17) hb1 J<|Bx (tj:=17) (.sl 4 (List.map Bn l)) J J J Ae<|Bx (tj:=17) (.I (l.length:Int)) J J J (Ay (A8 Mn))<|Ac 3 [] [(22,(.bool (decide ((l.length:Int) > most))))] ?_
 exact Br hJ (.cons J (.cons J (.cons J (.cons J (.cons J (.cons (Fg hb1) .nil))))))
theorem K1 (text:An)(s1_bad:Bool)(l:List Token)(s3:Rule)(h0:Af)(o0:Nat)(o1:Nat)(o2:Nat)(o3:Nat)(g:Nat)(g1:Nat)(v1:AV)(g2:Nat)(g3:Nat)(vH:Az v1 o2 g2 l.length)(hI0:Ids h0 [o0,o1,o2,o3] 4):Fd text s1_bad l s3≠.bad→Bg Tryz.prog 77 [(.str text),(.ptr o0 g 0 0),(.ptr o3 g3 0 0)] (hp h0 [o0,o1,o2,o3] [some (.rows g 1 [[(.ptr o1 g1 0 0)]]),some (.rows g1 2 [[v1,(.bool s1_bad)]]),Ai v1 g2 4 (List.map Ad l),some (.rows g3 8 [(Bd s3)])]) (Cq (fun a_ v h' => ∃ (v4:AV),∃ (g6:Nat),Az v4 o2 g6 a_.2.length∧v=(.tup [])∧h'=hp h0 [o0,o1,o2,o3] [some (.rows g 1 [[(.ptr o1 g1 0 0)]]),some (.rows g1 2 [[v4,(.bool a_.1)]]),Ai v4 g6 4 (List.map Ad a_.2),some (.rows g3 8 [(Bd s3)])]) h0 (Fd text s1_bad l s3)):=by
 refine Bb (n:=12) 0 Tryz.func77 J (by decide) J J hI0 J fun ids he hI=>?_
 clear hI0
 obtain rfl:ix ids 0=o0:=he 0 rfl
 obtain rfl:ix ids 1=o1:=he 1 rfl
 obtain rfl:ix ids 2=o2:=he 2 rfl
 obtain rfl:ix ids 3=o3:=he 3 rfl
 clear he
 refine Bk (Al (Fd.eq_1 _ _ _ _) ?_)
 refine Y<|O<|Ac 2 [0] [(5,(.str text)),(4,(.q ids 1 g1))] ?_
 refine Dp (e:=rS) (L:=[text]) (st:=1) (rows:=[[(.str text)]]) J Dg Cf J J J J J (.cons (RowSim.refl _) .nil) (fun x=>Hg x) J J<|Ao [1,2] hI J J (By [text] s1_bad l _ (ix ids 1) (ix ids 2) g1 v1 g2 vH (by exact hI.sub' J J)) J J J J J J (fun v _=>Ap (K:=4) (N:=0) Tryz.func77 hI) ?_
 rintro r _ _ _ ⟨v2,g4,vH1,rfl,rfl⟩
 refine Aw [1,2] hI J J J ?_
 refine Aq<|Z<|Ak ?_
 refine O<|Ac 3 [0,3] [(10,(.str s3.C)),(8,(.q ids 1 g1))] ?_
 refine Ao [1,2] hI J J (C7 s3.C r.1 r.2 _ (ix ids 1) (ix ids 2) g1 v2 g4 vH1 (by exact hI.sub' J J)) J J J J J J (fun v _=>Ap (K:=4) (N:=0) Tryz.func77 hI) ?_
 rintro r1 _ _ _ ⟨v3,g5,vH2,rfl,rfl⟩
 refine Aw [1,2] hI J J J ?_
 refine Aq<|Z<|Ak ?_
 exact Cc (K:=4) (N:=0) (a:=(r1.1,r1.2)) (vs:=[]) [some (.rows g 1 [[(.q ids 1 g1)]]),some (.rows g1 2 [[v3,(.bool r1.1)]]),Ai v3 g5 4 (List.map Ad r1.2),some (.rows g3 8 [(Bd s3)])] Tryz.func77 hI J J J (.keep (.keep (.keep (.keep .nil)))) (.same _) ⟨v3,g5,vH2,J,J⟩
theorem Abh (b:Rule)(s0_bad:Bool)(l:List Token)(h0:Af)(o0:Nat)(o1:Nat)(g:Nat)(v1:AV)(g1:Nat)(vH:Az v1 o1 g1 l.length)(hI0:Ids h0 [o0,o1] 2):J0 b s0_bad l≠.bad→Bg Tryz.prog 39 [(.ptr o0 g 0 0),(.agg (Bd b))] (hp h0 [o0,o1] [some (.rows g 2 [[v1,(.bool s0_bad)]]),Ai v1 g1 4 (List.map Ad l)]) (Cq (fun a_ v h' => ∃ (v12:AV),∃ (g16:Nat),Az v12 o1 g16 a_.2.length∧v=(.tup [])∧h'=hp h0 [o0,o1] [some (.rows g 2 [[v12,(.bool a_.1)]]),Ai v12 g16 4 (List.map Ad a_.2)]) h0 (J0 b s0_bad l)):=by
 refine Bb (n:=93) 4 Tryz.func39 J (by decide) J J hI0 J fun ids he hI=>?_
 clear hI0
 obtain rfl:ix ids 0=o0:=he 0 rfl
 obtain rfl:ix ids 1=o1:=he 1 rfl
 clear he
 refine Bk (Al (J0.eq_1 _ _ _) ?_)
 refine Ak ?_
 refine Y<|O<|Ck (v:=(.q ids 0 g)) (j:=2) hI J J J J J J J fun g2=>Ck (v:=(.agg (Bd b))) (j:=3) hI J J J J J J J fun g3=>Z<|Ak ?_
 refine Y<|O<|Ac 1 [3] [(7,(.agg (Bd b)))] ?_
 refine Bl (j:=4) hI J J J J Dy J fun g4=>Au (A4 (v:=(.agg (Bd b))) hI J J J J Dy J J J J J)<|Z<|Ak ?_
 refine Y<|O<|Aa (.ptr (ix ids 4) g4 0 3) J (Bw (Bq (c:=0) (off:=3) (i:=3) Dy J Dl J))<|Au (A4 (v:=(.I 0)) hI J J J J Dl J J J J J)<|Aa (.ptr (ix ids 4) g4 0 4) J (Bw (Bq (c:=0) (off:=4) (i:=4) Dy J Dl J))<|Au (A4 (v:=(.I 0)) hI J J J J Dl J J J J J)<|Z ?_
 refine Ak ?_
 refine Y<|O<|Ac 5 [3,3] [(14,(.agg [(.I b.Kind),(.str b.C),(.str []),(.I 0),(.I 0),(.I 0),(.I 0),(.I 0)]))] ?_
 refine Bl (j:=5) hI J J J J Dy J fun g5=>Au (A4 (v:=(.agg [(.I b.Kind),(.str b.C),(.str []),(.I 0),(.I 0),(.I 0),(.I 0),(.I 0)])) hI J J J J Dy J J J J J)<|Z<|Ak ?_
 refine Y<|O<|Ac 2 [] [(6,(.func (.func 77) [] [(.q ids 2 g2),(.q ids 3 g3)]))] ?_
 refine Z<|Y<|Y<|O<|Ac 2 [3] [(17,(.I b.Kind))] ?_
 refine Z<|D3 (un3 fun fBad l1 o=>Dk b fBad l1 o) (un3 fun fBad l1 o=>fun(fr:Nat→AV) (h:Af) => ∃ (v11:AV),∃ (g15:Nat),Az v11 (ix ids 1) g15 l1.length∧fr=A2 [(2,(.q ids 2 g2)),(4,(.q ids 4 g4)),(5,(.q ids 5 g5))]∧h=hp h0 ids [(some (.rows g 2 [[v11,(.bool fBad)]])),(Ai v11 g15 4 (List.map Ad l1)),(some (.rows g2 1 [[(.q ids 0 g)]])),none,(some (.rows g4 8 [[(.I b.Kind),(.str b.C),(.str b.A),(.I 0),(.I 0),(.I b.N),(.I b.Hours.From),(.I b.Hours.To)]])),(some (.rows g5 8 [(Bd o)]))]) ?_ fun hJ=>?_
 ·rintro⟨fBad,l1,o⟩ fr h ⟨v11,g15,vH10,rfl,rfl⟩
  refine Al (Dk.eq_1 _ _ _ _)<|C6 Fl [[],[],[1],[1,2],[1,2,3],[1,2,3,4],[1,2,3,4,5],[1,2,3,4,5],[1,2,3,4,5,6,7],[1,2,3,4,5,6,7,8],[0,0,1,2,3,4,5,6,7,8,9],[0,1,2,3,4,5,6,7,8,9,10],[0,1,2,3,4,5,6,7,8,9,10,11]] [(false,0),(false,1),(false,2),(false,3),(false,4),(false,5),(false,6),(false,7),(false,8),(false,9),(false,10),(false,11),(true,12)] (by kernel_rfl)<|Ag (.q ids 0 g) J J (As (A7 hI J J J Ajb J))<|Ag (.q ids 0 g) J J (As (A7 hI J J J Ajb J))<|Ag (.q ids 0 g) J J (Be J)<|Ag (.ptr (ix ids 0) g 0 1) J J (Bw (Bq (c:=0) (off:=1) (i:=1) Acn J R9 J))<|Ag (.bool fBad) J J (As (A7 hI J J J R9 J)) ?_
  refine Ag (.bool fBad) J J Ae<|N8 (fun hb1=>?_) (fun hb1=>?_)
  ·refine Ln (tj:=86) (b:=true) J J (congrArg AV.bool hb1) J J<|Ln (tj:=86) (b:=true) J J (congrArg AV.bool hb1) J J<|Ln (tj:=86) (b:=true) J J (congrArg AV.bool hb1) J J<|Ag (.bool true) J J (Sl (t:=true) (congrArg AV.bool hb1) J)<|Ag (.q ids 0 g) J J (Be J)<|Ag (.ptr (ix ids 0) g 0 1) J J (Bw (Bq (c:=0) (off:=1) (i:=1) Acn J R9 J))<|D4 J (fun _ _=>J) (fun K hK=>Cs (A4 (v:=(.bool true)) hI J J J J R9 J J J J J) (hK _ _ (Ab J (Ab J (Ab J (Ab J (Ab J (Ab J (Ab J (Ab J (Ab J (Ab J (Ab J (Ab J Bm)))))))))))) ?_))
   clear hK K
   refine Cu<|Ak ?_
   exact Cc (K:=2) (N:=4) (a:=(true,l1)) (vs:=[]) [some (.rows g 2 [[v11,(.bool true)]]),Ai v11 g15 4 (List.map Ad l1)] Tryz.func39 hI J J J (.keep (.keep (.drop (.keep (.drop (.drop .nil)))))) (.same _) ⟨v11,g15,vH10,J,J⟩
  refine Je (tj:=86) (.agg [(.I b.Kind),(.str b.C),(.str b.A),(.I 0),(.I 0),(.I b.N),(.I b.Hours.From),(.I b.Hours.To)]) J J (congrArg AV.bool hb1) J (As (A7 hI J J J Dy J))<|Je (tj:=86) (.agg (Bd o)) J J (congrArg AV.bool hb1) J (As (A7 hI J J J Dy J))<|Je (tj:=86) (.bool (!((b.Kind==o.Kind)&&((b.C==o.C)&&((b.A==o.A)&&((0==o.Class)&&((0==o.Airport)&&((b.N==o.N)&&((b.Hours.From==o.Hours.From)&&(b.Hours.To==o.Hours.To)))))))))) J J (congrArg AV.bool hb1) J (Ba (Aqm J J) J Aqz)<|Ag (.bool (!((b.Kind==o.Kind)&&((b.C==o.C)&&((b.A==o.A)&&((0==o.Class)&&((0==o.Airport)&&((b.N==o.N)&&((b.Hours.From==o.Hours.From)&&(b.Hours.To==o.Hours.To)))))))))) J J (Sl (t:=false) (congrArg AV.bool hb1) J)<|Ag (.q ids 0 g) J J (Be J)<|Ag (.ptr (ix ids 0) g 0 1) J J (Bw (Bq (c:=0) (off:=1) (i:=1) Acn J R9 J))<|D4 J (fun _ _=>J) (fun K hK=>Cs (A4 (v:=(.bool (!((b.Kind==o.Kind)&&((b.C==o.C)&&((b.A==o.A)&&((0==o.Class)&&((0==o.Airport)&&((b.N==o.N)&&((b.Hours.From==o.Hours.From)&&(b.Hours.To==o.Hours.To))))))))))) hI J J J J R9 J J J J J) (hK _ _ (Ab J (Ab J (Ab J (Ab J (Ab J (Ab J (Ab J (Ab J (Ab J (Ab J (Ab J (Ab J Bm)))))))))))) ?_))
  clear hK K
  refine Cu<|Ak ?_
  exact Cc (K:=2) (N:=4) (a:=((!((b.Kind==o.Kind)&&((b.C==o.C)&&((b.A==o.A)&&((0==o.Class)&&((0==o.Airport)&&((b.N==o.N)&&((b.Hours.From==o.Hours.From)&&(b.Hours.To==o.Hours.To))))))))),l1)) (vs:=[]) [some (.rows g 2 [[v11,(.bool (!((b.Kind==o.Kind)&&((b.C==o.C)&&((b.A==o.A)&&((0==o.Class)&&((0==o.Airport)&&((b.N==o.N)&&((b.Hours.From==o.Hours.From)&&(b.Hours.To==o.Hours.To))))))))))]]),Ai v11 g15 4 (List.map Ad l1)] Tryz.func39 hI J J J (.keep (.keep (.drop (.keep (.drop (.drop .nil)))))) (.same _) ⟨v11,g15,vH10,J,J⟩
 refine A3<|Y<|O<|Ac 2 [] [(21,(.bool (b.Kind==1)))] ?_
 refine Z<|Co J (fun hc=>?_) (fun hc=>?_)
 ·refine Y<|C6 Fl [[],[0],[],[2],[0,1],[0,1,1,4],[0,1,2,3,4,5],[0,1,2,3,3,4,5,5,6]] [(false,0),(false,1),(false,2),(false,3),(false,4),(true,5),(false,6),(true,7)] (by kernel_rfl)<|Ag (.ptr (ix ids 3) g3 0 2) J J (Bw (Bq (c:=0) (off:=2) (i:=2) Dy J Cf J))<|Ag (.str b.A) J J (As (A7 hI J J J Cf J))<|Ag (.ptr (ix ids 3) g3 0 6) J J (Bw (Bq (c:=0) (off:=6) (i:=6) Dy J O1 J))<|Ag (.agg (C0 b.Hours)) J J (As (A7 hI J J J O1 J))<|Ag (.ptr (ix ids 5) g5 0 2) J J (Bw (Bq (c:=0) (off:=2) (i:=2) Dy J Cf J)) ?_
  refine D4 J (fun _ _=>J) (fun K hK=>Cs (A4 (v:=(.str b.A)) hI J J J J Cf J J J J J) (hK _ _ (Ab J (A6 J (As (A7 hI J J J O1 J)) (A6 J (Bw (Bq (c:=0) (off:=6) (i:=6) Dy J O1 J)) (Ab J (Ab J Bm))))) ?_))
  clear hK K
  refine Ag (.ptr (ix ids 5) g5 0 6) J J (Bw (Bq (c:=0) (off:=6) (i:=6) Dy J O1 J))<|D4 J (fun _ _=>J) (fun K hK=>Cs (A4 (v:=(.agg (C0 b.Hours))) hI J J J J O1 J J J J J) (hK _ _ (Ab J (Ab J (Ab J (Ab J (Ab J (Ab J Bm)))))) ?_))
  clear hK K
  refine Cu<|Ak ?_
  refine Y<|O<|Aa (.func (.func 77) [] [(.q ids 2 g2),(.q ids 3 g3)]) J Ae<|Ao [2,0,1,3] hI J J (K1 [99,117,114,102,101,119] s0_bad l b _ (ix ids 2) (ix ids 0) (ix ids 1) (ix ids 3) g2 g v1 g1 g3 vH (by exact hI.sub' J J)) J J J J J J (fun v _=>Ap (K:=2) (N:=4) Tryz.func39 hI) ?_
  rintro r _ _ _ ⟨v2,g6,vH1,rfl,rfl⟩
  refine Aw [2,0,1,3] hI J J J ?_
  refine Aq<|Z<|Ak ?_
  refine Y<|O<|Ac 1 [2] [(31,(.q ids 0 g))] ?_
  refine Dp (e:=rS) (L:=[[97,116]]) (st:=1) (rows:=[[(.str [97,116])]]) J Dg Cf J J J J J (.cons (RowSim.refl _) .nil) (fun x=>Hg x) J J<|Ao [0,1] hI J J (By [[97,116]] r.1 r.2 _ (ix ids 0) (ix ids 1) g v2 g6 vH1 (by exact hI.sub' J J)) J J J J J J (fun v _=>Ap (K:=2) (N:=4) Tryz.func39 hI) ?_
  rintro r1 _ _ _ ⟨v3,g7,vH2,rfl,rfl⟩
  refine Aw [0,1] hI J J J ?_
  refine Aq<|Z<|Ak ?_
  refine Y<|O<|Ac 3 [2,3] [(36,(.str b.A)),(34,(.q ids 0 g))] ?_
  refine Ao [0,1] hI J J (C7 b.A r1.1 r1.2 _ (ix ids 0) (ix ids 1) g v3 g7 vH2 (by exact hI.sub' J J)) J J J J J J (fun v _=>Ap (K:=2) (N:=4) Tryz.func39 hI) ?_
  rintro r2 _ _ _ ⟨v4,g8,vH3,rfl,rfl⟩
  refine Aw [0,1] hI J J J ?_
  refine Aq<|Z<|Ak ?_
  refine O<|Ac 3 [2,3] [(40,(.agg (C0 b.Hours))),(38,(.q ids 0 g))] ?_
  refine Ao [0,1] hI J J (Tb b.Hours r2.1 r2.2 _ (ix ids 0) (ix ids 1) g v4 g8 vH3 (by exact hI.sub' J J)) J J J J J J (fun v _=>Ap (K:=2) (N:=4) Tryz.func39 hI) ?_
  rintro r3 _ _ _ ⟨v5,g9,vH4,rfl,rfl⟩
  refine Aw [0,1] hI J J J ?_
  refine Aq<|Z<|Ak ?_
  refine Bf<|Dr [(some (.rows g 2 [[v5,(.bool r3.1)]])),(Ai v5 g9 4 (List.map Ad r3.2)),(some (.rows g2 1 [[(.q ids 0 g)]])),none,(some (.rows g4 8 [[(.I b.Kind),(.str b.C),(.str b.A),(.I 0),(.I 0),(.I b.N),(.I b.Hours.From),(.I b.Hours.To)]])),(some (.rows g5 8 [[(.I b.Kind),(.str b.C),(.str b.A),(.I 0),(.I 0),(.I 0),(.I b.Hours.From),(.I b.Hours.To)]]))] hI J (.keep (.keep (.keep (.drop (.keep (.keep .nil))))))<|Bp (hJ (r3.1,r3.2,({ Kind:=b.Kind,C:=b.C,A:=b.A,Class:=0,Airport:=0,N:=0,Hours:=b.Hours }:Rule)) _ _ ⟨v5,g9,vH4,J,J⟩)
 refine Y<|O<|Ac 2 [] [(42,(.bool (b.Kind==2)))] ?_
 refine Z<|Co J (fun hc1=>?_) (fun hc1=>?_)
 ·refine O<|Aa (.func (.func 77) [] [(.q ids 2 g2),(.q ids 3 g3)]) J Ae<|Ao [2,0,1,3] hI J J (K1 [101,120,101,109,112,116] s0_bad l b _ (ix ids 2) (ix ids 0) (ix ids 1) (ix ids 3) g2 g v1 g1 g3 vH (by exact hI.sub' J J)) J J J J J J (fun v _=>Ap (K:=2) (N:=4) Tryz.func39 hI) ?_
  rintro r4 _ _ _ ⟨v6,g10,vH5,rfl,rfl⟩
  refine Aw [2,0,1,3] hI J J J ?_
  refine Aq<|Z<|Ak ?_
  refine Bf<|Dr [(some (.rows g 2 [[v6,(.bool r4.1)]])),(Ai v6 g10 4 (List.map Ad r4.2)),(some (.rows g2 1 [[(.q ids 0 g)]])),none,(some (.rows g4 8 [[(.I b.Kind),(.str b.C),(.str b.A),(.I 0),(.I 0),(.I b.N),(.I b.Hours.From),(.I b.Hours.To)]])),(some (.rows g5 8 [[(.I b.Kind),(.str b.C),(.str []),(.I 0),(.I 0),(.I 0),(.I 0),(.I 0)]]))] hI J (.keep (.keep (.keep (.drop (.keep (.keep .nil))))))<|Bp (hJ (r4.1,r4.2,({ Kind:=b.Kind,C:=b.C,A:=[],Class:=0,Airport:=0,N:=0,Hours:=({ From:=0,To:=0 }:Span) }:Rule)) _ _ ⟨v6,g10,vH5,J,J⟩)
 refine Y<|O<|Ac 2 [] [(46,(.bool (b.Kind==3)))] ?_
 refine Z<|Co J (fun hc2=>?_) (fun hc2=>?_)
 ·refine Y<|O<|Ac 3 [3] [(50,(.ptr (ix ids 5) g5 0 5)),(49,(.I b.N))] ?_
  refine Au (A4 (v:=(.I b.N)) hI J J J J Dl J J J J J)<|Z<|Ak ?_
  refine Y<|O<|Aa (.func (.func 77) [] [(.q ids 2 g2),(.q ids 3 g3)]) J Ae<|Ao [2,0,1,3] hI J J (K1 [119,101,105,103,104,116] s0_bad l b _ (ix ids 2) (ix ids 0) (ix ids 1) (ix ids 3) g2 g v1 g1 g3 vH (by exact hI.sub' J J)) J J J J J J (fun v _=>Ap (K:=2) (N:=4) Tryz.func39 hI) ?_
  rintro r5 _ _ _ ⟨v7,g11,vH6,rfl,rfl⟩
  refine Aw [2,0,1,3] hI J J J ?_
  refine Aq<|Z<|Ak ?_
  refine O<|Ac 3 [2,3] [(55,(.I b.N)),(53,(.q ids 0 g))] ?_
  refine Ao [0,1] hI J J (Ds b.N 1 8 r5.1 r5.2 _ (ix ids 0) (ix ids 1) g v7 g11 vH6 (by exact hI.sub' J J)) J J J J J J (fun v _=>Ap (K:=2) (N:=4) Tryz.func39 hI) ?_
  rintro r6 _ _ _ ⟨v8,g12,vH7,rfl,rfl⟩
  refine Aw [0,1] hI J J J ?_
  refine Aq<|Z<|Ak ?_
  refine Bf<|Dr [(some (.rows g 2 [[v8,(.bool (r5.1||(!((decide (b.N≥1))&&(decide (b.N≤8))))))]])),(Ai v8 g12 4 (List.map Ad r6)),(some (.rows g2 1 [[(.q ids 0 g)]])),none,(some (.rows g4 8 [[(.I b.Kind),(.str b.C),(.str b.A),(.I 0),(.I 0),(.I b.N),(.I b.Hours.From),(.I b.Hours.To)]])),(some (.rows g5 8 [[(.I b.Kind),(.str b.C),(.str []),(.I 0),(.I 0),(.I b.N),(.I 0),(.I 0)]]))] hI J (.keep (.keep (.keep (.drop (.keep (.keep .nil))))))<|Bp (hJ ((r5.1||(!((decide (b.N≥1))&&(decide (b.N≤8))))),r6,({ Kind:=b.Kind,C:=b.C,A:=[],Class:=0,Airport:=0,N:=b.N,Hours:=({ From:=0,To:=0 }:Span) }:Rule)) _ _ ⟨v8,g12,vH7,J,J⟩)
 refine Y<|O<|Ac 2 [] [(57,(.bool (b.Kind==4)))] ?_
 refine Z<|Co J (fun hc3=>?_) (fun hc3=>?_)
 ·refine Y<|O<|Ac 3 [3] [(61,(.ptr (ix ids 5) g5 0 5)),(60,(.I b.N))] ?_
  refine Au (A4 (v:=(.I b.N)) hI J J J J Dl J J J J J)<|Z<|Ak ?_
  refine Y<|O<|Aa (.func (.func 77) [] [(.q ids 2 g2),(.q ids 3 g3)]) J Ae<|Ao [2,0,1,3] hI J J (K1 [108,111,110,103,101,115,116] s0_bad l b _ (ix ids 2) (ix ids 0) (ix ids 1) (ix ids 3) g2 g v1 g1 g3 vH (by exact hI.sub' J J)) J J J J J J (fun v _=>Ap (K:=2) (N:=4) Tryz.func39 hI) ?_
  rintro r7 _ _ _ ⟨v9,g13,vH8,rfl,rfl⟩
  refine Aw [2,0,1,3] hI J J J ?_
  refine Aq<|Z<|Ak ?_
  refine Y<|O<|Ac 3 [2,3] [(66,(.I b.N)),(64,(.q ids 0 g))] ?_
  refine Ao [0,1] hI J J (Ds b.N 0 60 r7.1 r7.2 _ (ix ids 0) (ix ids 1) g v9 g13 vH8 (by exact hI.sub' J J)) J J J J J J (fun v _=>Ap (K:=2) (N:=4) Tryz.func39 hI) ?_
  rintro r8 _ _ _ ⟨v10,g14,vH9,rfl,rfl⟩
  refine Aw [0,1] hI J J J ?_
  refine Aq<|Z<|Ak ?_
  refine C6 Fl [[],[],[1],[1,2],[1,2,3],[1,2,3,4],[1,2,3,4,5],[1,2,3,4,5,6],[1,2,3,4,5,6,7],[1,2,3,4,5,6,7,8],[1,2,3,4,5,6,7,8,9],[0,0,1,2,3,4,5,6,7,8,9,10],[0,1,2,3,4,5,6,7,8,9,10,11],[0,1,2,3,4,5,6,7,8,9,10,11,12]] [(false,0),(false,1),(false,2),(false,3),(false,4),(false,5),(false,6),(false,7),(false,8),(false,9),(false,10),(false,11),(false,12),(true,13)] (by kernel_rfl)<|Ag (.q ids 0 g) J J (As (A7 hI J J J Ajb J))<|Ag (.q ids 0 g) J J (As (A7 hI J J J Ajb J))<|Ag (.q ids 0 g) J J (Be J)<|Ag (.ptr (ix ids 0) g 0 1) J J (Bw (Bq (c:=0) (off:=1) (i:=1) Acn J R9 J))<|Ag (.bool (r7.1||(!((decide (b.N≥0))&&(decide (b.N≤60)))))) J J (As (A7 hI J J J R9 J))<|Ag (.bool (r7.1||(!((decide (b.N≥0))&&(decide (b.N≤60)))))) J J Ae ?_
  refine N8 (fun hb=>?_) (fun hb=>?_)
  ·refine Ln (tj:=73) (b:=true) J J (congrArg AV.bool hb) J J<|Ln (tj:=73) (b:=true) J J (congrArg AV.bool hb) J J<|Ln (tj:=73) (b:=true) J J (congrArg AV.bool hb) J J<|Ln (tj:=73) (b:=true) J J (congrArg AV.bool hb) J J<|Ag (.bool true) J J (Sl (t:=true) (congrArg AV.bool hb) J)<|Ag (.q ids 0 g) J J (Be J)<|Ag (.ptr (ix ids 0) g 0 1) J J (Bw (Bq (c:=0) (off:=1) (i:=1) Acn J R9 J)) ?_
   refine D4 J (fun _ _=>J) (fun K hK=>Cs (A4 (v:=(.bool true)) hI J J J J R9 J J J J J) (hK _ _ (Ab J (Ab J (Ab J (Ab J (Ab J (Ab J (Ab J (Ab J (Ab J (Ab J (Ab J (Ab J (Ab J Bm))))))))))))) ?_))
   clear hK K
   refine Cu<|Ak ?_
   refine Bf<|Dr [(some (.rows g 2 [[v10,(.bool true)]])),(Ai v10 g14 4 (List.map Ad r8)),(some (.rows g2 1 [[(.q ids 0 g)]])),none,(some (.rows g4 8 [[(.I b.Kind),(.str b.C),(.str b.A),(.I 0),(.I 0),(.I b.N),(.I b.Hours.From),(.I b.Hours.To)]])),(some (.rows g5 8 [[(.I b.Kind),(.str b.C),(.str []),(.I 0),(.I 0),(.I b.N),(.I 0),(.I 0)]]))] hI J (.keep (.keep (.keep (.drop (.keep (.keep .nil))))))<|Bp (hJ (true,r8,({ Kind:=b.Kind,C:=b.C,A:=[],Class:=0,Airport:=0,N:=b.N,Hours:=({ From:=0,To:=0 }:Span) }:Rule)) _ _ ⟨v10,g14,vH9,J,J⟩)
  refine Je (tj:=73) (.ptr (ix ids 3) g3 0 5) J J (congrArg AV.bool hb) J (Bw (Bq (c:=0) (off:=5) (i:=5) Dy J Dl J))<|Je (tj:=73) (.I b.N) J J (congrArg AV.bool hb) J (As (A7 hI J J J Dl J))<|Je (tj:=73) (.I (Int.tmod b.N 10)) J J (congrArg AV.bool hb) J (Ba J J (Aob J (by decide)))<|Je (tj:=73) (.bool ((Int.tmod b.N 10) != 0)) J J (congrArg AV.bool hb) J (Ba J J J)<|Ag (.bool ((Int.tmod b.N 10) != 0)) J J (Sl (t:=false) (congrArg AV.bool hb) J)<|Ag (.q ids 0 g) J J (Be J)<|Ag (.ptr (ix ids 0) g 0 1) J J (Bw (Bq (c:=0) (off:=1) (i:=1) Acn J R9 J)) ?_
  refine D4 J (fun _ _=>J) (fun K hK=>Cs (A4 (v:=(.bool ((Int.tmod b.N 10) != 0))) hI J J J J R9 J J J J J) (hK _ _ (Ab J (Ab J (Ab J (Ab J (Ab J (Ab J (Ab J (Ab J (Ab J (Ab J (Ab J (Ab J (Ab J Bm))))))))))))) ?_))
  clear hK K
  refine Cu<|Ak ?_
  refine Bf<|Dr [(some (.rows g 2 [[v10,(.bool ((Int.tmod b.N 10) != 0))]])),(Ai v10 g14 4 (List.map Ad r8)),(some (.rows g2 1 [[(.q ids 0 g)]])),none,(some (.rows g4 8 [[(.I b.Kind),(.str b.C),(.str b.A),(.I 0),(.I 0),(.I b.N),(.I b.Hours.From),(.I b.Hours.To)]])),(some (.rows g5 8 [[(.I b.Kind),(.str b.C),(.str []),(.I 0),(.I 0),(.I b.N),(.I 0),(.I 0)]]))] hI J (.keep (.keep (.keep (.drop (.keep (.keep .nil))))))<|Bp (hJ (((Int.tmod b.N 10) != 0),r8,({ Kind:=b.Kind,C:=b.C,A:=[],Class:=0,Airport:=0,N:=b.N,Hours:=({ From:=0,To:=0 }:Span) }:Rule)) _ _ ⟨v10,g14,vH9,J,J⟩)
 refine O<|Ac 3 [2] [(20,(.ptr (ix ids 0) g 0 1))] ?_
 refine Au (A4 (v:=(.bool true)) hI J J J J R9 J J J J J)<|Z<|Ak ?_
 refine Bf<|Dr [(some (.rows g 2 [[v1,(.bool true)]])),(Ai v1 g1 4 (List.map Ad l)),(some (.rows g2 1 [[(.q ids 0 g)]])),none,(some (.rows g4 8 [[(.I b.Kind),(.str b.C),(.str b.A),(.I 0),(.I 0),(.I b.N),(.I b.Hours.From),(.I b.Hours.To)]])),(some (.rows g5 8 [[(.I b.Kind),(.str b.C),(.str []),(.I 0),(.I 0),(.I 0),(.I 0),(.I 0)]]))] hI J (.keep (.keep (.keep (.drop (.keep (.keep .nil))))))<|Bp (hJ (true,l,({ Kind:=b.Kind,C:=b.C,A:=[],Class:=0,Airport:=0,N:=0,Hours:=({ From:=0,To:=0 }:Span) }:Rule)) _ _ ⟨v1,g1,vH,J,J⟩)
theorem Xq (text:An)(l:List Rule)(most:Int)(s0_bad:Bool)(l1:List Token)(h0:Af)(o0:Nat)(o1:Nat)(g:Nat)(v1:AV)(g1:Nat)(vH:Az v1 o1 g1 l1.length)(hI0:Ids h0 [o0,o1] 2):Fx text l most s0_bad l1≠.bad→Bg Tryz.prog 38 [(.ptr o0 g 0 0),(.str text),(.sl 8 (List.map Bd l)),(.int .i64 most),(.func (.func 39) [(.ptr o0 g 0 0)] [])] (hp h0 [o0,o1] [some (.rows g 2 [[v1,(.bool s0_bad)]]),Ai v1 g1 4 (List.map Ad l1)]) (Cq (fun a_ v h' => ∃ (v7:AV),∃ (g8:Nat),Az v7 o1 g8 a_.2.length∧v=(.tup [])∧h'=hp h0 [o0,o1] [some (.rows g 2 [[v7,(.bool a_.1)]]),Ai v7 g8 4 (List.map Ad a_.2)]) h0 (Fx text l most s0_bad l1)):=by
 refine Bb (n:=44) 1 Tryz.func38 J (by decide) J J hI0 J fun ids he hI=>?_
 clear hI0
 obtain rfl:ix ids 0=o0:=he 0 rfl
 obtain rfl:ix ids 1=o1:=he 1 rfl
 clear he
 refine Bk (Al (Fx.eq_1 _ _ _ _ _) ?_)
 refine Ak ?_
 refine Y<|O<|Ac 6 [0] [(17,(.bool s0_bad)),(12,(.q ids 0 g))] ?_
 refine B9 5 [(0,(.q ids 0 g)),(1,(.str text)),(2,(.sl 8 (List.map Bd l))),(4,(.func (.func 39) [(.q ids 0 g)] [])),(12,(.q ids 0 g)),(22,(.bool (s0_bad||(decide ((l.length:Int) > most)))))] ?_ fun hJ=>Bz s0_bad (fun hb1=>?_) (fun hb1=>?_)
 ·refine Ac 2 [] [(24,(.ptr (ix ids 0) g 0 1))] ?_
  refine Au (A4 (v:=(.bool (s0_bad||(decide ((l.length:Int) > most))))) hI J J J J R9 J J J J J)<|Z<|Ak ?_
  refine Y<|O<|Aa (.sl 8 (List.map Bd l)) J Ae<|Aa (.I (l.length:Int)) J (Ay (A8 Ec))<|Aa (.I 0) J Ae<|Z<|A3 ?_
  refine Db [(0,(.q ids 0 g)),(1,(.str text)),(4,(.func (.func 39) [(.q ids 0 g)] [])),(25,(.sl 8 (List.map Bd l))),(26,(.I (l.length:Int))),(27,(.I 0))] (FI J)<|Di (P:=Tryz.prog) l (fun _ a=>C2 fun fBad l2=>Hs text a fBad l2) (((C2 fun fBad l2=>.ok (fBad,l2))):(Bool×(List Token))→R (Bool×(List Token))) (fun j=>C2 fun fBad l2=>fun(fr:Nat→AV) (h:Af) => ∃ (v2:AV),∃ (g2:Nat),Az v2 (ix ids 1) g2 l2.length∧fr=A2 [(0,(.q ids 0 g)),(1,(.str text)),(4,(.func (.func 39) [(.q ids 0 g)] [])),(25,(.sl 8 (List.map Bd l))),(26,(.I (l.length:Int))),(27,(.I (j:Int)))]∧h=hp h0 ids [(some (.rows g 2 [[v2,(.bool fBad)]])),(Ai v2 g2 4 (List.map Ad l2)),none]) ((s0_bad||(decide ((l.length:Int) > most))),l1) ?_ ?_ ?_
  ·exact⟨v1,g1,vH,J,J⟩
  ·rintro j a ha W hW ⟨fBad,l2⟩ fr h ⟨v2,g2,vH1,rfl,rfl⟩
   refine Al (m':=Hs text a fBad l2) J (Al (Hs.eq_1 _ _ _ _) ?_)
   refine Y<|O<|Aa (.bool (decide ((j:Int)<(l.length:Int)))) J (Ba J J J)<|Z<|Y<|Dn (t:=25) (L:=l) J fun hlim=>Ch J (Int.ofNat_lt.2 (Av ha)) ?_
   refine A0<|Y<|A3<|Y<|O<|Aa (.cp (Bd a) 0) J (Bt (Ct Ec Dy J ha))<|Aa (.agg (Bd a)) J (As (Dh Dy J)) ?_
   refine Bl (j:=2) hI J J J J Dy J fun g3=>Au (A4 (v:=(.agg (Bd a))) hI J J J J Dy J J J J J)<|Z<|Ak ?_
   refine Y<|Y<|O<|Ac 2 [] [(32,(.bool (!(text==[]))))] ?_
   refine Z<|D3 (C2 fun fBad1 l3=>Km a fBad1 l3) (C2 fun fBad1 l3=>fun(fr:Nat→AV) (h:Af) => ∃ (v4:AV),∃ (g5:Nat),Az v4 (ix ids 1) g5 l3.length∧fr=A2 [(0,(.q ids 0 g)),(1,(.str text)),(4,(.func (.func 39) [(.q ids 0 g)] [])),(11,(.q ids 2 g3)),(25,(.sl 8 (List.map Bd l))),(26,(.I (l.length:Int))),(27,(.I (j:Int)))]∧h=hp h0 ids [(some (.rows g 2 [[v4,(.bool fBad1)]])),(Ai v4 g5 4 (List.map Ad l3)),(some (.rows g3 8 [(Bd a)]))]) ?_ fun hJ1=>?_
   ·rintro⟨fBad1,l3⟩ fr h ⟨v4,g5,vH3,rfl,rfl⟩
    refine Al (Km.eq_1 _ _ _)<|Y<|O<|Ac 2 [2] [(38,(.agg (Bd a))),(37,(.func (.func 39) [(.q ids 0 g)] []))] ?_
    refine Ao [0,1] hI J J (Abh a fBad1 l3 _ (ix ids 0) (ix ids 1) g v4 g5 vH3 (by exact hI.sub' J J)) J J J J J J (fun v _=>Ap (K:=2) (N:=1) Tryz.func38 hI) ?_
    rintro r1 _ _ _ ⟨v5,g6,vH4,rfl,rfl⟩
    refine Aw [0,1] hI J J J ?_
    refine Aq<|Z<|Ak ?_
    refine O<|Aa (.q ids 0 g) J Ae<|Dp (e:=rS) (L:=[[59]]) (st:=1) (rows:=[[(.str [59])]]) J Dg Cf J J J J J (.cons (RowSim.refl _) .nil) (fun x=>Hg x) J J<|Ao [0,1] hI J J (Dc [[59]] r1.1 r1.2 _ (ix ids 0) (ix ids 1) g v5 g6 vH4 (by exact hI.sub' J J)) J J J J J J (fun v _=>Ap (K:=2) (N:=1) Tryz.func38 hI) ?_
    rintro r2 _ _ _ ⟨v6,g7,vH5,rfl,rfl⟩
    refine Aw [0,1] hI J J J ?_
    refine Aq<|Z<|Ak ?_
    refine Bf<|O<|Ac 2 [] [(27,(.I (IntKind.wrap .i64 ((j:Int)+1))))] ?_
    refine Z<|Dr [(some (.rows g 2 [[v6,(.bool r2.1)]])),(Ai v6 g7 4 (List.map Ad r2.2)),none] hI J (.keep (.keep (.drop .nil)))<|Bp (I7 (hW (r2.1,r2.2) _ _ ⟨v6,g7,vH5,J,J⟩)) (.cons J (.cons J (.cons J (.cons J (.cons J (.cons (C3 (Av ha) hlim) .nil))))))
   refine Fj J (fun hc=>?_) (fun hc=>?_)
   ·refine A0<|Bp (hJ1 (fBad,l2) _ _ ⟨v2,g2,vH1,J,J⟩)
   refine O<|Ac 2 [] [(34,(.str text)),(33,(.q ids 0 g))] ?_
   refine Dp (e:=rS) (L:=[text]) (st:=1) (rows:=[[(.str text)]]) J Dg Cf J J J J J (.cons (RowSim.refl _) .nil) (fun x=>Hg x) J J<|Ao [0,1] hI J J (By [text] fBad l2 _ (ix ids 0) (ix ids 1) g v2 g2 vH1 (by exact hI.sub' J J)) J J J J J J (fun v _=>Ap (K:=2) (N:=1) Tryz.func38 hI) ?_
   rintro r _ _ _ ⟨v3,g4,vH2,rfl,rfl⟩
   refine Aw [0,1] hI J J J ?_
   refine Aq<|Z<|Ak ?_
   exact Bp (hJ1 (r.1,r.2) _ _ ⟨v3,g4,vH2,J,J⟩)
  rintro⟨fBad,l2⟩ fr h ⟨v2,g2,vH1,rfl,rfl⟩
  refine Al (Q7 _ _ _)<|Y<|O<|Aa (.bool (decide ((l.length:Int)<(l.length:Int)))) J (Ba J J J)<|Z<|Y<|Cg J (Int.lt_irrefl _) ?_
  refine Cl J<|Cc (K:=2) (N:=1) (a:=(fBad,l2)) (vs:=[]) [some (.rows g 2 [[v2,(.bool fBad)]]),Ai v2 g2 4 (List.map Ad l2)] Tryz.func38 hI J J J (.keep (.keep (.keep .nil))) (.same _) ⟨v2,g2,vH1,J,J⟩
 ·refine Bj (t:=17) hb1 J<|Ac 5 [] [(22,(.bool true))] ?_
  exact Br hJ (.cons J (.cons J (.cons J (.cons J (.cons J (.cons (Fe hb1) .nil))))))
 refine Bj (t:=17) hb1 J<|Bx (tj:=17) (.sl 8 (List.map Bd l)) J J J Ae<|Bx (tj:=17) (.I (l.length:Int)) J J J (Ay (A8 Ec))<|Ac 3 [] [(22,(.bool (decide ((l.length:Int) > most))))] ?_
 exact Br hJ (.cons J (.cons J (.cons J (.cons J (.cons J (.cons (Fg hb1) .nil))))))
theorem Ae8 (t:Token):CP Tryz.prog 78 [(.agg (Ad t))] (Uu t) (fun(x:Bool)=>(AV.bool x)):=by
 refine C8 (n:=48) 1 Tryz.func78 J (by decide) J J fun h0 ids hI=>Bk (Al (Uu.eq_1 _) ?_)
 refine Y<|O<|Ck (v:=(.agg (Ad t))) (j:=0) hI J J J J J J J fun g=>Aa (.bool false) J Aj<|Z<|Ak ?_
 refine Y<|Y<|O<|Ac 2 [0] [(4,(.I t.Kind))] ?_
 refine Z<|A3<|Y<|O<|Ac 2 [] [(5,(.bool (t.Kind==1)))] ?_
 refine Z<|Co J (fun hc=>?_) (fun hc=>?_)
 ·refine Y<|O<|Ac 2 [0] [(8,(.str t.Text))] ?_
  refine Bv [(.str t.Text)] J J J J ((Af5 t.Text) _) (fun v _=>Cy Tryz.func78 hI) fun r _=>Aa (.bool r) J Ae<|B9 4 [(14,(.bool (r&&(t.N==0))))] ?_ fun hJ=>Bz r (fun hb1=>?_) (fun hb1=>?_)
  ·refine Aa (.bool (r&&(t.N==0))) J Aj<|Z<|B8 (a:=(r&&(t.N==0))) (vs:=[(.bool (r&&(t.N==0)))]) Tryz.func78 hI J (.same _)
  ·refine Bj (t:=10) hb1 J<|Ac 4 [0] [(14,(.bool (t.N==0)))] ?_
   exact Br hJ (.cons (O5 hb1) .nil)
  refine Bj (t:=10) hb1 J<|Ac 4 [] [(14,(.bool false))] ?_
  exact Br hJ (.cons (O2 hb1) .nil)
 refine Y<|O<|Ac 2 [] [(15,(.bool (t.Kind==2)))] ?_
 refine Z<|Co J (fun hc1=>?_) (fun hc1=>?_)
 ·refine Y<|O<|Ac 4 [0] [(20,(.bool (t.Text==[])))] ?_
  refine B9 4 [(1,(.q ids 0 g)),(24,(.bool ((t.Text==[])&&(decide (t.N≥0)))))] ?_ fun hJ1=>Bz (t.Text==[]) (fun hb3=>?_) (fun hb3=>?_)
  ·refine Aa (.bool ((t.Text==[])&&(decide (t.N≥0)))) J Ae<|B9 4 [(29,(.bool (((t.Text==[])&&(decide (t.N≥0)))&&(decide (t.N≤1099511627776)))))] ?_ fun hJ2=>Bz ((t.Text==[])&&(decide (t.N≥0))) (fun hb5=>?_) (fun hb5=>?_)
   ·refine Aa (.bool (((t.Text==[])&&(decide (t.N≥0)))&&(decide (t.N≤1099511627776)))) J Aj<|Z<|B8 (a:=(((t.Text==[])&&(decide (t.N≥0)))&&(decide (t.N≤1099511627776)))) (vs:=[(.bool (((t.Text==[])&&(decide (t.N≥0)))&&(decide (t.N≤1099511627776))))]) Tryz.func78 hI J (.same _)
   ·refine Bj (t:=25) hb5 J<|Ac 4 [0] [(29,(.bool (decide (t.N≤1099511627776))))] ?_
    exact Br hJ2 (.cons (O5 hb5) .nil)
   refine Bj (t:=25) hb5 J<|Ac 4 [] [(29,(.bool false))] ?_
   exact Br hJ2 (.cons (O2 hb5) .nil)
  ·refine Bj (t:=20) hb3 J<|Ac 4 [0] [(24,(.bool (decide (t.N≥0))))] ?_
   exact Br hJ1 (.cons J (.cons (O5 hb3) .nil))
  refine Bj (t:=20) hb3 J<|Ac 4 [] [(24,(.bool false))] ?_
  exact Br hJ1 (.cons J (.cons (O2 hb3) .nil))
 refine Y<|O<|Ac 2 [] [(30,(.bool (t.Kind==3)))] ?_
 refine Z<|Co J (fun hc2=>?_) (fun hc2=>?_)
 ·refine Y<|O<|Ac 2 [0] [(33,(.str t.Text))] ?_
  refine Aa (.I (t.Text.length:Int)) J (Ay (Ni Cf))<|Ac 2 [] [(36,(.bool ((t.Text.length:Int)==1)))] ?_
  refine E0 6 ((fun(b:Bool)=>.ok (b&&(t.N==0))):Bool→R Bool) (fun(b:Bool) (fr:Nat→AV) (h:Af)=>fr=A2 [(1,(.q ids 0 g)),(42,(.bool b))]∧h=hp h0 ids [(some (.rows g 4 [(Ad t)]))]) ?_ fun hJ3=>Gi (fun hb7=>?_) (fun hb7=>?_)
  ·rintro b fr h ⟨rfl,rfl⟩
   refine Aa (.bool b) J Ae<|B9 4 [(47,(.bool (b&&(t.N==0))))] ?_ fun hJ4=>Bz b (fun hb9=>?_) (fun hb9=>?_)
   ·refine Aa (.bool (b&&(t.N==0))) J Aj<|Z<|B8 (a:=(b&&(t.N==0))) (vs:=[(.bool (b&&(t.N==0)))]) Tryz.func78 hI J (.same _)
   ·refine Bj (t:=43) hb9 J<|Ac 4 [0] [(47,(.bool (t.N==0)))] ?_
    exact Br hJ4 (.cons (O5 hb9) .nil)
   refine Bj (t:=43) hb9 J<|Ac 4 [] [(47,(.bool false))] ?_
   exact Br hJ4 (.cons (O2 hb9) .nil)
  ·refine Bj (t:=36) hb7 J<|Ac 2 [0] [(38,(.str t.Text))] ?_
   refine Ed fun a hz hx1=>Bx (tj:=36) (.int .u8 (a.toNat:Int)) J J J (Ah9 (Ae1 Cf hz hx1))<|Bv [(.int .u8 (a.toNat:Int))] J (Er (tj:=36) J J) J J ((S6 (a.toNat:Int)) _) (fun v _=>Cy Tryz.func78 hI) fun r1 _=>Ac 2 [] [(42,(.bool (r1==4)))] ?_
   refine Cd<|Dt [(1,(.q ids 0 g)),(42,(.bool (r1==4)))] (FI J)<|hJ3 (r1==4) _ _ ⟨J,J⟩
  refine Bj (t:=36) hb7 J<|Ac 6 [] [(42,(.bool false))] ?_
  refine Cd<|Dt [(1,(.q ids 0 g)),(42,(.bool false))] (FI J)<|hJ3 false _ _ ⟨J,J⟩
 refine A0<|Bf<|Y<|O<|Aa (.bool false) J Aj<|Z<|B8 (a:=false) (vs:=[(.bool false)]) Tryz.func78 hI J (.same _)
theorem Aby (n:Int):CP Tryz.prog 79 [.int .i64 n] (strconv_Itoa n) (fun x=>AV.str x):=
 Alp (.mk Tryz.func79 rfl (by decide)) (fun p h=>by unfold strconv_Itoa at h; split at h <;> cases h) fun a ha B mu h w cargs hs hl=>by
  obtain⟨c1,rfl,h1⟩:=An7 hl
  obtain rfl:=Ap7 h1
  unfold strconv_Itoa at ha
  split at ha
  ·rename_i hn
   cases ha
   refine(Go.Proofs.Tryz.strconv_Itoa n hn.1 hn.2 w (Asm hs.glob.2)).mono ?_
   rintro e w' ⟨rfl,k,os,rfl⟩
   refine⟨⟨J,J,J,?_,fun i hi=>?_⟩,_,J,.str _⟩
   ·show w.heap.size≤(w.heap++os).size
    simp
   ·show(w.heap++os)[i]? = _
    exact Array.getElem?_append_left hi
  ·cases ha
theorem Aic (l:List An)(sep:An):CP Tryz.prog 80 [.sl 1 (l.map rS),.str sep] (strings_Join l sep) (fun x=>AV.str x):=
 Alp (.mk Tryz.func80 rfl (by decide)) (fun p h=>by unfold strings_Join at h; split at h <;> cases h) fun a ha B mu h w cargs hs hl=>by
  obtain⟨c1,c2,rfl,h1,h2⟩:=An1 hl
  obtain rfl:=Ahd h2
  unfold strings_Join at ha
  split at ha
  ·rename_i hn
   cases ha
   have key:l=[] ∨ ∃ bk o cap,c1=.slice (some ⟨bk,o,none⟩) l.length cap∧bk<w.heap.size∧l.length≤D0∧l.length≤cap ∧ ∀ j x,l[j]? = some x→w.cell? ⟨bk,o+j,none⟩=some (.string ⟨x.toArray⟩):=Au2 h1
   rcases key with rfl | ⟨bk,o,cap,rfl,hb,hlim,hcap,hc⟩
   ·obtain⟨a,cap,rfl⟩:=Aw0 h1
    refine(Go.Proofs.Tryz.strings_Join_none a cap ⟨sep.toArray⟩ w).mono ?_
    rintro e w' ⟨rfl,rfl⟩
    exact⟨Go.RowKit.Below.refl _ _,_,J,.str _⟩
   ·have em:(l.map fun x=>(⟨x.toArray⟩:ByteArray)).map (·.data.toList)=l:=by simp [Function.comp_def]
    have:=Go.Proofs.Tryz.strings_Join bk o cap (l.map fun x=>⟨x.toArray⟩) ⟨sep.toArray⟩ w (fun j x hx=>by
     rw [List.getElem?_map] at hx
     cases hq:l[j]? with
     | none=>rw [hq] at hx; cases hx
     | some y=>rw [hq] at hx; cases hx; exact hc j y hq) hb (by rw [List.length_map]; exact hlim) (by simpa using hcap) (by rw [em]; exact hn)
    rw [em,List.length_map] at this
    refine this.mono ?_
    rintro e w' ⟨rfl,hbel⟩
    exact⟨hbel,_,J,.str _⟩
  ·cases ha
theorem Anu (l:List Token):CP Tryz.prog 40 [(.sl 4 (List.map Ad l))] (S8 l) (fun(p:(An×Int))=>AV.tup [(.str p.1),(.int .i64 p.2)]):=by
 refine C8 (n:=39) 2 Tryz.func40 J (by decide) J J fun h0 ids hI=>Bk (Al (S8.eq_1 _) ?_)
 refine Y<|O<|Ac 2 [] [] ?_
 refine Z<|Y<|O<|Aa (.sl 4 (List.map Ad l)) J Ae<|Aa (.I (l.length:Int)) J (Ay (A8 Cz))<|H1 fun hl=>Aun (y:=([]:An)) (e:=rS) (st:=1) (j:=0) hI J J J J Dg Cf J J hl.1 hl.2.1 hl.2.2 J J J J J fun v g vH=>?_
 refine Aa v J Aj<|Z<|Ak ?_
 refine Y<|Y<|O<|Aa (.sl 4 (List.map Ad l)) J Ae<|Aa (.I (l.length:Int)) J (Ay (A8 Cz))<|Aa (.I 0) J Ae<|Z ?_
 refine A3<|Db [(4,v),(10,(.sl 4 (List.map Ad l))),(11,(.I (l.length:Int))),(12,(.I 0))] (FI J)<|Ga (P:=Tryz.prog) l (fun j a=>fun words=>Sg j a words) ((Dv (fun words=>(strings_Join words [32]).bind fun src=>.ok (src,0)) (fun r=>.ok r)):((List An) ⊕ (An×Int))→R (An×Int)) (fun j=>fun words=>fun(fr:Nat→AV) (h:Af) => ∃ (v1:AV),∃ (g1:Nat),Az v1 (ix ids 0) g1 words.length∧fr=A2 [(4,v1),(10,(.sl 4 (List.map Ad l))),(11,(.I (l.length:Int))),(12,(.I (j:Int)))]∧h=hp h0 ids [(Ai v1 g1 1 (List.map rS words)),none]) (List.replicate (Int.toNat (l.length:Int)) []) ?_ ?_ ?_
 ·exact⟨v,g,vH,J,J⟩
 ·rintro j a ha W hW words fr h ⟨v1,g1,vH1,rfl,rfl⟩
  refine Al (m':=Sg j a words) J (Al (Sg.eq_1 _ _ _) ?_)
  refine Y<|O<|Aa (.bool (decide ((j:Int)<(l.length:Int)))) J (Ba J J J)<|Z<|Y<|Dn (t:=10) (L:=l) J fun hlim=>Ch J (Int.ofNat_lt.2 (Av ha)) ?_
  refine A0<|Y<|A3<|Y<|O<|Aa (.I (j:Int)) J Ae<|Aa (.cp (Ad a) 0) J (Bt (Ct Cz Cn J ha)) ?_
  refine Aa (.agg (Ad a)) J (As (Dh Cn J))<|Bl (j:=1) hI J J J J Cn J fun g2=>Aa (.I (j:Int)) J Aj<|Au (A4 (v:=(.agg (Ad a))) hI J J J J Cn J J J J J)<|Z<|Ak ?_
  refine A3<|Y<|O<|Ac 1 [1] [(23,(.agg (Ad a)))] ?_
  refine Bv [(.agg (Ad a))] J J J J ((Ae8 a) _) (fun v _=>Cy Tryz.func40 hI) fun r _=>Ac 2 [] [(22,(.bool (!r)))] ?_
  refine Z<|Fj J (fun hc=>?_) (fun hc=>?_)
  ·refine Y<|O<|Ac 4 [1] [(26,(.bool (a.Kind==2)))] ?_
   refine Z<|Co J (fun hc1=>?_) (fun hc1=>?_)
   ·refine O<|Ac 4 [1] [(33,(.I a.N)),(31,(.I (j:Int))),(30,v1)] ?_
    refine Bv [(.I a.N)] J J J J ((Aby a.N) _) (fun v _=>Cy Tryz.func40 hI) fun r1 _=>Ed fun a1 hz hx1=>Aa (.ptr (ix ids 0) g1 (j:Int).toNat 0) J (Bt (Sk hI J vH1 J Dg Cf J hz hx1))<|Au (S7 (y:=r1) hI J J vH1 J hx1 Cf J J J J J J) ?_
    have vH2:=Az.set (i:=(j:Int).toNat) (y:=r1) vH1
    have hx2:=List.getElem?_set_self (a:=r1) (Av hx1)
    refine Z<|Ak ?_
    refine Bf<|Bf<|O<|Ac 2 [] [(12,(.I (IntKind.wrap .i64 ((j:Int)+1))))] ?_
    refine Z<|Dr [(Ai v1 g1 1 (List.map rS (words.set (j:Int).toNat r1))),none] hI J (.keep (.drop .nil))<|Bp (G4 (hW (words.set (j:Int).toNat r1) _ _ ⟨v1,g1,vH2,J,J⟩)) (.cons J (.cons J (.cons J (.cons (C3 (Av ha) hlim) .nil))))
   refine O<|Ac 4 [1] [(20,(.str a.Text)),(18,(.I (j:Int))),(17,v1)] ?_
   refine Ed fun a2 hz1 hx3=>Aa (.ptr (ix ids 0) g1 (j:Int).toNat 0) J (Bt (Sk hI J vH1 J Dg Cf J hz1 hx3))<|Au (S7 (y:=a.Text) hI J J vH1 J hx3 Cf J J J J J J) ?_
   have vH3:=Az.set (i:=(j:Int).toNat) (y:=a.Text) vH1
   have hx4:=List.getElem?_set_self (a:=a.Text) (Av hx3)
   refine Z<|Ak ?_
   refine Bf<|Bf<|O<|Ac 2 [] [(12,(.I (IntKind.wrap .i64 ((j:Int)+1))))] ?_
   refine Z<|Dr [(Ai v1 g1 1 (List.map rS (words.set (j:Int).toNat a.Text))),none] hI J (.keep (.drop .nil))<|Bp (G4 (hW (words.set (j:Int).toNat a.Text) _ _ ⟨v1,g1,vH3,J,J⟩)) (.cons J (.cons J (.cons J (.cons (C3 (Av ha) hlim) .nil))))
  refine Y<|O<|Ac 2 [] [(3,(.I 70)),(2,(.str []))] ?_
  refine Z<|G2<|Jg<|B8 (a:=([],70)) (vs:=[(.str []),(.I 70)]) Tryz.func40 hI J (.tupL (.cons (.same _) (.cons (.same _) .nil)))
 rintro words fr h ⟨v1,g1,vH1,rfl,rfl⟩
 refine Al (Hz _ _ _)<|Y<|O<|Aa (.bool (decide ((l.length:Int)<(l.length:Int)))) J (Ba J J J)<|Z<|Y<|Cg J (Int.lt_irrefl _) ?_
 refine Cl J<|Y<|O<|Aa v1 J Ae<|Bv [v1,(.str [32])] J J J J (CP.lend (Aic words [32]) (LF.lfz (.cons (E1 vH1 (hI.at J J) J (fun x=>Hg x)) (.cons (.same _) .nil))) (fun _ _=>(.str _))) (fun v _=>Cy Tryz.func40 hI) fun src _=>Ac 2 [] [(3,(.I 0)),(2,(.str src))] ?_
 refine Z<|B8 (a:=(src,0)) (vs:=[(.str src),(.I 0)]) Tryz.func40 hI J (.tupL (.cons (.same _) (.cons (.same _) .nil)))
theorem Ahe (a:Airspace):CP Tryz.prog 7 [(.agg (Ax a))] (Nu a) (fun(p:(An×Int))=>AV.tup [(.str p.1),(.int .i64 p.2)]):=by
 refine C8 (n:=59) 4 Tryz.func7 J (by decide) J J fun h0 ids hI=>Bk (Al (Nu.eq_1 _) ?_)
 refine Y<|O<|Ck (v:=(.agg (Ax a))) (j:=0) hI J J J J J J J fun g=>Ac 2 [] [] ?_
 refine Z<|Ak ?_
 refine Y<|O<|Aa (.agg [.emp,(.bool false)]) J (Kj (Qz Acn Aze J))<|Ck (v:=(.agg [.emp,(.bool false)])) (j:=1) hI J J J J J J J fun g1=>Bl (j:=2) hI J J J J Ajb J fun g2=>Au (A4 (v:=(.q ids 1 g1)) hI J J J J Ajb J J J J J)<|Z ?_
 refine Ak ?_
 refine Y<|O<|Ac 4 [2,0] [(10,(.func (.func 17) [] [(.q ids 2 g2)])),(9,(.sl 2 (List.map Ar a.Volumes))),(7,(.q ids 1 g1))] ?_
 refine Ao [1,2,3] hI J J (Yj [118,111,108,117,109,101] a.Volumes 64 false _ (ix ids 1) (ix ids 2) (ix ids 3) g1 g2 (by exact hI.sub' J J)) J J J J J J (fun v _=>Cy Tryz.func7 hI) ?_
 rintro r _ _ _ ⟨v,g3,vH,rfl,rfl⟩
 refine Aw [1,2,3] hI J J J ?_
 refine Aq<|Z<|Ak ?_
 refine Y<|O<|Ac 4 [2,0] [(15,(.func (.func 21) [] [(.q ids 2 g2)])),(14,(.sl 5 (List.map A9 a.Sectors))),(12,(.q ids 1 g1))] ?_
 refine Ao [1,3,2] hI J J (X3 [115,101,99,116,111,114] a.Sectors 64 r.1 r.2 _ (ix ids 1) (ix ids 3) (ix ids 2) g1 v g3 g2 vH (by exact hI.sub' J J)) J J J J J J (fun v _=>Cy Tryz.func7 hI) ?_
 rintro r1 _ _ _ ⟨v1,g4,vH1,rfl,rfl⟩
 refine Aw [1,3,2] hI J J J ?_
 refine Aq<|Z<|Ak ?_
 refine Y<|O<|Ac 4 [2,0] [(20,(.func (.func 27) [] [(.q ids 2 g2)])),(19,(.sl 3 (List.map Bh a.Configs))),(17,(.q ids 1 g1))] ?_
 refine Ao [1,3,2] hI J J (Yi [99,111,110,102,105,103] a.Configs 32 r1.1 r1.2 _ (ix ids 1) (ix ids 3) (ix ids 2) g1 v1 g4 g2 vH1 (by exact hI.sub' J J)) J J J J J J (fun v _=>Cy Tryz.func7 hI) ?_
 rintro r2 _ _ _ ⟨v2,g5,vH2,rfl,rfl⟩
 refine Aw [1,3,2] hI J J J ?_
 refine Aq<|Z<|Ak ?_
 refine Y<|O<|Ac 4 [2,0] [(25,(.func (.func 29) [] [(.q ids 2 g2)])),(24,(.sl 5 (List.map Bc a.Segments))),(22,(.q ids 1 g1))] ?_
 refine Ao [1,3,2] hI J J (Wx [115,101,103,109,101,110,116] a.Segments 128 r2.1 r2.2 _ (ix ids 1) (ix ids 3) (ix ids 2) g1 v2 g5 g2 vH2 (by exact hI.sub' J J)) J J J J J J (fun v _=>Cy Tryz.func7 hI) ?_
 rintro r3 _ _ _ ⟨v3,g6,vH3,rfl,rfl⟩
 refine Aw [1,3,2] hI J J J ?_
 refine Aq<|Z<|Ak ?_
 refine Y<|O<|Ac 4 [2,0] [(30,(.func (.func 31) [] [(.q ids 2 g2)])),(29,(.sl 7 (List.map Bs a.Routes))),(27,(.q ids 1 g1))] ?_
 refine Ao [1,3,2] hI J J (Yn [114,111,117,116,101] a.Routes 64 r3.1 r3.2 _ (ix ids 1) (ix ids 3) (ix ids 2) g1 v3 g6 g2 vH3 (by exact hI.sub' J J)) J J J J J J (fun v _=>Cy Tryz.func7 hI) ?_
 rintro r4 _ _ _ ⟨v4,g7,vH4,rfl,rfl⟩
 refine Aw [1,3,2] hI J J J ?_
 refine Aq<|Z<|Ak ?_
 refine Y<|O<|Ac 4 [2,0] [(35,(.func (.func 33) [] [(.q ids 2 g2)])),(34,(.sl 2 (List.map A5 a.Airports))),(32,(.q ids 1 g1))] ?_
 refine Ao [1,3,2] hI J J (W0 [97,105,114,112,111,114,116] a.Airports 16 r4.1 r4.2 _ (ix ids 1) (ix ids 3) (ix ids 2) g1 v4 g7 g2 vH4 (by exact hI.sub' J J)) J J J J J J (fun v _=>Cy Tryz.func7 hI) ?_
 rintro r5 _ _ _ ⟨v5,g8,vH5,rfl,rfl⟩
 refine Aw [1,3,2] hI J J J ?_
 refine Aq<|Z<|Ak ?_
 refine Y<|O<|Ac 4 [2,0] [(40,(.func (.func 37) [] [(.q ids 2 g2)])),(39,(.sl 4 (List.map Bn a.Classes))),(37,(.q ids 1 g1))] ?_
 refine Ao [1,3,2] hI J J (Yt [99,108,97,115,115] a.Classes 8 r5.1 r5.2 _ (ix ids 1) (ix ids 3) (ix ids 2) g1 v5 g8 g2 vH5 (by exact hI.sub' J J)) J J J J J J (fun v _=>Cy Tryz.func7 hI) ?_
 rintro r6 _ _ _ ⟨v6,g9,vH6,rfl,rfl⟩
 refine Aw [1,3,2] hI J J J ?_
 refine Aq<|Z<|Ak ?_
 refine Y<|O<|Ac 5 [2,0,2] [(46,(.func (.func 39) [(.q ids 1 g1)] [])),(44,(.sl 8 (List.map Bd a.Rules))),(42,(.q ids 1 g1))] ?_
 refine Ao [1,3] hI J J (Xq [] a.Rules 64 r6.1 r6.2 _ (ix ids 1) (ix ids 3) g1 v6 g9 vH6 (by exact hI.sub' J J)) J J J J J J (fun v _=>Cy Tryz.func7 hI) ?_
 rintro r7 _ _ _ ⟨v7,g10,vH7,rfl,rfl⟩
 refine Aw [1,3] hI J J J ?_
 refine Aq<|Z<|Ak ?_
 refine Y<|Y<|O<|Ac 4 [2,1] [(51,(.bool r7.1))] ?_
 refine Z<|Co J (fun hc=>?_) (fun hc=>?_)
 ·refine Y<|O<|Ac 2 [] [(3,(.I 80)),(2,(.str []))] ?_
  refine Z<|B8 (a:=([],80)) (vs:=[(.str []),(.I 80)]) Tryz.func7 hI J (.tupL (.cons (.same _) (.cons (.same _) .nil)))
 refine A0<|Y<|O<|Ac 4 [2,1] [(55,v7)] ?_
 refine Bv [v7] J J J J (CP.lend (Anu r7.2) (LF.lfz (.cons (E1 vH7 (hI.at J J) J (fun x=>Rl x)) .nil)) (fun _ _=>(.tup2 (.str _) (.int _ _)))) (fun v _=>Cy Tryz.func7 hI) fun r8 _=>Ac 4 [] [(3,(.I r8.2)),(2,(.str r8.1))] ?_
 refine Z<|B8 (a:=(r8.1,r8.2)) (vs:=[(.str r8.1),(.I r8.2)]) Tryz.func7 hI J (.tupL (.cons (.same _) (.cons (.same _) .nil)))
theorem V9 (s:T153):CP Tryz.prog 82 [(.cp (Qh s) 0)] (Qx s) (fun(_:Unit)=>AV.tup []):=by
 refine C8 (n:=7) 0 Tryz.func82 J (by decide) J J fun h0 ids hI=>Bk (Al (Qx.eq_1 _) ?_)
 refine O<|Ac 5 [] [(6,(.iface 147 (.I s.fAt)))] ?_
 exact Td (v:=⟨147,.I s.fAt⟩) J J (Cy Tryz.func82 hI)
theorem Aeg (s:List Int)(v:Int):CP Tryz.prog 119 [(.sl 1 (List.map (rI .i64) s)),(.int .i64 v)] (R1 s v) (fun(x:Int)=>(AV.int .i64 x)):=by
 refine C8 (n:=19) 0 Tryz.func119 J (by decide) J J fun h0 ids hI=>Bk (Al (R1.eq_1 _ _) ?_)
 refine Y<|O<|Aa (.I 0) J Aj<|Z<|Y<|Y<|O ?_
 refine Aa (.sl 1 (List.map (rI .i64) s)) J Ae<|Aa (.I (s.length:Int)) J (Ay (A8 O4))<|Aa (.I 0) J Ae<|Z<|A3<|Db [(0,(.sl 1 (List.map (rI .i64) s))),(1,(.I v)),(7,(.I (s.length:Int))),(8,(.I 0))] (FI J)<|Ga (P:=Tryz.prog) s (fun j a=>fun _=>Gx v j a) ((Dv (fun _=>.ok (-1)) (fun r=>.ok r)):(Unit ⊕ Int)→R Int) (fun j=>fun _=>fun(fr:Nat→AV) (h:Af)=>fr=A2 [(0,(.sl 1 (List.map (rI .i64) s))),(1,(.I v)),(7,(.I (s.length:Int))),(8,(.I (j:Int)))]∧h=hp h0 ids []) () ?_ ?_ ?_
 ·exact⟨J,J⟩
 ·rintro j a ha W hW _ fr h ⟨rfl,rfl⟩
  refine Al (m':=Gx v j a) J (Al (Gx.eq_1 _ _ _) ?_)
  refine Y<|O<|Aa (.bool (decide ((j:Int)<(s.length:Int)))) J (Ba J J J)<|Z<|Y<|Dn (t:=0) (L:=s) J fun hlim=>Ch J (Int.ofNat_lt.2 (Av ha)) ?_
  refine A0<|Y<|A3<|Y<|O<|Ac 2 [] [(5,(.I (j:Int)))] ?_
  refine Z<|Y<|O<|Ac 3 [] [(13,(.I (j:Int))),(12,(.sl 1 (List.map (rI .i64) s))),(11,(.I v))] ?_
  refine Aa (.cp [(.I a)] 0) J (Bt (Ct O4 Dl J ha))<|Ac 2 [] [(16,(.bool (v==a)))] ?_
  refine Z<|Co J (fun hc=>?_) (fun hc=>?_)
  ·refine Y<|O<|Ac 2 [] [(4,(.I (j:Int)))] ?_
   refine Z<|G2<|Jg<|B8 (a:=(j:Int)) (vs:=[(.I (j:Int))]) Tryz.func119 hI J (.same _)
  refine A0<|Bf<|O<|Ac 2 [] [(8,(.I (IntKind.wrap .i64 ((j:Int)+1))))] ?_
  refine Z<|Bp (G4 (hW () _ _ ⟨J,J⟩)) (.cons J (.cons J (.cons J (.cons (C3 (Av ha) hlim) .nil))))
 rintro _ fr h ⟨rfl,rfl⟩
 refine Al (Hz _ _ _)<|Y<|O<|Aa (.bool (decide ((s.length:Int)<(s.length:Int)))) J (Ba J J J)<|Z<|Y<|Cg J (Int.lt_irrefl _) ?_
 refine Cl J<|Y<|O<|Aa (.I (-1)) J Aj<|Z<|B8 (a:=(-1)) (vs:=[(.I (-1))]) Tryz.func119 hI J (.same _)
theorem Acc (s:List Int)(v:Int):CP Tryz.prog 108 [(.sl 1 (List.map (rI .i64) s)),(.int .i64 v)] (Mx s v) (fun(x:Bool)=>(AV.bool x)):=by
 refine C8 (n:=9) 0 Tryz.func108 J (by decide) J J fun h0 ids hI=>Bk (Al (Mx.eq_1 _ _) ?_)
 refine Y<|O<|Aa (.bool false) J Aj<|Z<|Y<|O<|Ac 2 [] [(6,(.I v)),(5,(.sl 1 (List.map (rI .i64) s)))] ?_
 refine Bv [(.sl 1 (List.map (rI .i64) s)),(.I v)] J J J J ((Aeg s v) _) (fun v _=>Cy Tryz.func108 hI) fun r _=>Ac 2 [] [(4,(.bool (decide (r≥0))))] ?_
 refine Z<|B8 (a:=(decide (r≥0))) (vs:=[(.bool (decide (r≥0)))]) Tryz.func108 hI J (.same _)
theorem S5 (s:T153)(some:List Int):CP Tryz.prog 100 [(.cp (Qh s) 0),(.sl 1 (List.map (rI .i64) some))] (Ko s some) (fun(x:An)=>(AV.str x)):=by
 refine C8 (n:=40) 0 Tryz.func100 J (by decide) J J fun h0 ids hI=>Bk (Al (Ko.eq_1 _ _) ?_)
 refine Y<|O<|Aa (.str []) J Aj<|Z<|Y<|O<|Ac 5 [] [(5,(.I s.fAt))] ?_
 refine Z<|Y<|D3 (fun n1=>Nn s n1) (fun n1=>fun(fr:Nat→AV) (h:Af)=>fr=A2 [(0,(.cp (Qh s) 0)),(5,(.I n1))]∧h=hp h0 ids []) ?_ fun hJ1=>?_
 ·rintro n1 fr h ⟨rfl,rfl⟩
  refine Al (Nn.eq_1 _ _)<|Y<|C6 Fl [[],[0],[0,1],[0,1,2],[],[4],[4,5],[4,5,6],[],[0,1,2,3,4,5,6,7,8],[0,1,2,3,4,5,6,7,8,9,9]] [(false,0),(false,1),(false,2),(false,3),(false,4),(false,5),(false,6),(false,7),(false,8),(false,9),(false,10)] (by kernel_rfl)<|Ag (.cp (Qh s) 0) J J Ae<|Ag (.cp (Qh s) 0) J J (Be J)<|Ag (.cp (Qh s) 0) J J (Bw (Adj (c:=0) (off:=0) (i:=0) Qt J Cf J))<|Ag (.str s.fSrc) J J (As (Dh Cf J)) ?_
  refine Ag (.cp (Qh s) 0) J J Ae<|Ag (.cp (Qh s) 0) J J (Be J)<|Ag (.cp (Qh s) 1) J J (Bw (Adj (c:=0) (off:=1) (i:=1) Qt J Dl J))<|Ag (.I s.fAt) J J (As (Dh Dl J))<|Ag (.I n1) J J Ae<|Lr fun hs=>Ag (.str (Ub s.fSrc s.fAt n1)) J J (Gr (Ap4 Cf hs)) ?_
  refine Ag (.str (Ub s.fSrc s.fAt n1)) J J Aj<|Cu<|B8 (a:=(Ub s.fSrc s.fAt n1)) (vs:=[(.str (Ub s.fSrc s.fAt n1))]) Tryz.func100 hI J (.same _)
 refine A3<|Db [(0,(.cp (Qh s) 0)),(1,(.sl 1 (List.map (rI .i64) some))),(5,(.I s.fAt))] (FI J)<|Xa (P:=Tryz.prog) (fun n=>Nv s some n) ((fun n1=>Nn s n1):Int→R An) (fun n=>fun(fr:Nat→AV) (h:Af)=>fr=A2 [(0,(.cp (Qh s) 0)),(1,(.sl 1 (List.map (rI .i64) some))),(5,(.I n))]∧h=hp h0 ids []) s.fAt ?_ ?_
 ·exact⟨J,J⟩
 rintro vW hW n fr h ⟨rfl,rfl⟩
 refine Al (m':=Nv s some n) J (Al (Nv.eq_1 _ _ _) ?_)
 refine Y<|Y<|O<|Ac 5 [] [(14,(.str s.fSrc)),(10,(.I n))] ?_
 refine Aa (.I (s.fSrc.length:Int)) J (Ay (Ni Cf))<|Ac 2 [] [(17,(.bool (decide (n<(s.fSrc.length:Int)))))] ?_
 refine E0 10 ((fun(b:Bool)=>if b then(.ok (.inl (IntKind.wrap .i64 (n+1)))) else(.ok (.inr (n)))):Bool→R (Int ⊕ Int)) (fun(b:Bool) (fr:Nat→AV) (h:Af)=>fr=A2 [(0,(.cp (Qh s) 0)),(1,(.sl 1 (List.map (rI .i64) some))),(5,(.I n)),(27,(.bool b))]∧h=hp h0 ids []) ?_ fun hJ=>Gi (fun hb1=>?_) (fun hb1=>?_)
 ·rintro b fr h ⟨rfl,rfl⟩
  refine Z<|Co J (fun hc=>?_) (fun hc=>?_)
  ·refine A0<|A3<|O<|Ac 3 [] [(5,(.I (IntKind.wrap .i64 (n+1))))] ?_
   refine Z<|Bf<|Bp (Q8 (hW (IntKind.wrap .i64 (n+1)) _ _ ⟨J,J⟩))
  refine Cl J<|Z2<|Bp (hJ1 n _ _ ⟨J,J⟩)
 ·refine Bj (t:=17) hb1 J<|Ac 6 [] [(23,(.I n)),(22,(.str s.fSrc)),(21,(.cp (Qh s) 0)),(20,(.cp (Qh s) 0)),(19,(.cp (Qh s) 0)),(18,(.sl 1 (List.map (rI .i64) some)))] ?_
  refine Ed fun a hz hx1=>Bx (tj:=17) (.int .u8 (a.toNat:Int)) J J J (Ah9 (Ae1 Cf hz hx1))<|Bv [(.int .u8 (a.toNat:Int))] J (Er (tj:=17) J J) J J ((S6 (a.toNat:Int)) _) (fun v _=>Cy Tryz.func100 hI) fun r _=>Bv [(.sl 1 (List.map (rI .i64) some)),(.I r)] J (Er (tj:=17) J J) J J ((Acc some r) _) (fun v _=>Cy Tryz.func100 hI) fun r1 _=>Aa (.bool r1) J (Sl (t:=true) J J)<|Cd<|Dt [(0,(.cp (Qh s) 0)),(1,(.sl 1 (List.map (rI .i64) some))),(5,(.I n)),(27,(.bool r1))] (FI J) ?_
  exact hJ r1 _ _ ⟨J,J⟩
 refine Bj (t:=17) hb1 J<|Ac 10 [] [(27,(.bool false)),(26,.und),(25,.und),(24,.und),(23,.und),(22,.und),(21,.und),(20,.und),(19,.und),(18,.und)] ?_
 refine Cd<|Dt [(0,(.cp (Qh s) 0)),(1,(.sl 1 (List.map (rI .i64) some))),(5,(.I n)),(27,(.bool false))] (FI J)<|hJ false _ _ ⟨J,J⟩
theorem Aib (s:An)(h0:Af)(hI0:Ids h0 [] 0):Q2 s≠.bad→Bg Tryz.prog 102 [.str s] (hp h0 [] []) (Cq (fun a_ v h' => ∃ (v1:AV),Aps v1 a_.2∧v=(.tup [.int .i64 a_.1,v1])∧h'=hp h0 [] []) h0 (Q2 s)):=by
 refine Av9 (.mk Tryz.func102 J (by decide)) (fun p h=>by unfold Q2 at h; split at h <;> (try split at h) <;> cases h) fun a ha B mu w cargs hs hl=>?_
 obtain⟨c1,rfl,h1⟩:=An7 hl
 obtain rfl:=Ahd h1
 have rv_tup : ∀ {w:World} {n:Int} {v:AV} {c:Value},RV h0 mu w v c→RV h0 mu w (.tup [.int .i64 n,v]) (.tuple #[.int .i64 n,c]):=fun hv=>by
  refine .tup _ [_,_] J fun i hi=>?_
  match i,hi with
  | 0,_=>exact .int _ _
  | 1,_=>exact hv
 have err : ∀ {w w':World} {N:Nat} {x y z:Value} {t:TypeId},w.heap.size≤N→w'.heap[N]? = some (.cells #[x,y,z] t (0,0))→Sim B mu h0 w→RV h0 mu w' (.iface 198 (.cp [.any,.any,.any] 0)) (.iface 198 (.pointer (some ⟨N,0,none⟩))):=by
  intro w w' N x y z t hN hc hs
  refine .iface _ _ _ (.cp _ 0 N 0 (fun j=>[x,y,z].getD j undef) (fun j hj=>?_) (fun j hj=>?_) (fun hm=>?_) ?_)
  ·unfold World.cell?; rw [hc]
   match j,hj with
   | 0,_=>rfl
   | 1,_=>rfl
   | 2,_=>rfl
  ·match j,hj with
   | 0,_=>exact .any _
   | 1,_=>exact .any _
   | 2,_=>exact .any _
  ·have:=Ef.lt hs hm; omega
  ·rcases Nat.lt_or_ge N _ with hh | hh
   ·exact hh
   ·rw [Array.getElem?_eq_none hh] at hc; cases hc
 unfold Q2 at ha
 split at ha
 ·rename_i hn
  split at ha
  ·rename_i v hv
   cases ha
   refine(Go.Proofs.Tryz.strconv_Atoi_ok ⟨s.toArray⟩ (by show s.toArray.size≤_; simp; omega) v hv w).mono ?_
   rintro e w' ⟨rfl,hw⟩
   refine⟨?_,_,_,J,⟨.nili,J,J,J⟩,rv_tup .nili⟩
   rcases hw with rfl | ⟨t,rfl⟩
   ·exact Go.RowKit.Below.refl _ _
   ·exact Lib.bytesWorld_below _ _ _
  ·rename_i hv
   cases ha
   obtain⟨tp,p,hp⟩:=Amm hs.glob.2
   refine(Go.Proofs.Tryz.strconv_Atoi_syntax_var ⟨s.toArray⟩ (by show s.toArray.size≤_; simpa using hn) hv tp p w hp).mono ?_
   rintro e w' ⟨N,rfl,h1,h2,h3⟩
   exact⟨h3,_,_,J,⟨.iface 198 (.cp [.any,.any,.any] 0),⟨_,_,J⟩,J,J⟩,rv_tup (err h1 h2 hs)⟩
  ·rename_i hv
   cases ha
   obtain⟨tp,p,hp⟩:=Ans hs.glob.2
   refine(Go.Proofs.Tryz.strconv_Atoi_range_var ⟨s.toArray⟩ (by show s.toArray.size≤_; simpa using hn) hv tp p w hp).mono ?_
   rintro e w' ⟨N,rfl,h1,h2,h3⟩
   exact⟨h3,_,_,J,⟨.iface 198 (.cp [.any,.any,.any] 0),⟨_,_,J⟩,J,J⟩,rv_tup (err h1 h2 hs)⟩
 ·cases ha
theorem T5 (s:An)(vprefix:An):CP Tryz.prog 111 [(.str s),(.str vprefix)] (I3 s vprefix) (fun(x:Bool)=>(AV.bool x)):=by
 refine C8 (n:=18) 0 Tryz.func111 J (by decide) J J fun h0 ids hI=>Bk (Al (I3.eq_1 _ _) ?_)
 refine Y<|O<|Aa (.bool false) J Aj<|Z<|Y<|O<|Aa (.str s) J Ae ?_
 refine Aa (.I (s.length:Int)) J (Ay (Ni Cf))<|Aa (.str vprefix) J Ae<|Aa (.I (vprefix.length:Int)) J (Ay (Ni Cf))<|Ac 2 [] [(10,(.bool (decide ((s.length:Int)≥(vprefix.length:Int)))))] ?_
 refine E0 7 ((fun(b:Bool)=>.ok b):Bool→R Bool) (fun(b:Bool) (fr:Nat→AV) (h:Af)=>fr=A2 [(17,(.bool b))]∧h=hp h0 ids []) ?_ fun hJ=>Gi (fun hb1=>?_) (fun hb1=>?_)
 ·rintro b fr h ⟨rfl,rfl⟩
  refine Aa (.bool b) J Aj<|Z<|B8 (a:=b) (vs:=[(.bool b)]) Tryz.func111 hI J (.same _)
 ·refine Bj (t:=10) hb1 J<|Ac 2 [] [(12,(.str vprefix)),(11,(.str s))] ?_
  refine Bx (tj:=10) (.I (vprefix.length:Int)) J J J (Ay (Ni Cf))<|H1 fun hs=>Bx (tj:=10) (.str (s.take (Int.toNat (vprefix.length:Int)))) J J J (Gr (Avx Cf hs))<|Ac 3 [] [(17,(.bool ((s.take (Int.toNat (vprefix.length:Int)))==vprefix)))] ?_
  refine Cd<|Dt [(17,(.bool ((s.take (Int.toNat (vprefix.length:Int)))==vprefix)))] (FI J)<|hJ ((s.take (Int.toNat (vprefix.length:Int)))==vprefix) _ _ ⟨J,J⟩
 refine Bj (t:=10) hb1 J<|Ac 7 [] [(17,(.bool false))] ?_
 refine Cd<|Dt [(17,(.bool false))] (FI J)<|hJ false _ _ ⟨J,J⟩
theorem Adu (s:An)(vprefix:An):CP Tryz.prog 103 [(.str s),(.str vprefix)] (Ow s vprefix) (fun(x:Bool)=>(AV.bool x)):=by
 refine C8 (n:=8) 0 Tryz.func103 J (by decide) J J fun h0 ids hI=>Bk (Al (Ow.eq_1 _ _) ?_)
 refine Y<|O<|Aa (.bool false) J Aj<|Z<|Y<|O<|Ac 2 [] [(6,(.str vprefix)),(5,(.str s))] ?_
 refine Bv [(.str s),(.str vprefix)] J J J J ((T5 s vprefix) _) (fun v _=>Cy Tryz.func103 hI) fun r _=>Aa (.bool r) J Aj<|Z<|B8 (a:=r) (vs:=[(.bool r)]) Tryz.func103 hI J (.same _)
theorem Aca (s0_src:An)(s0_at:Int)(l:List Token)(h0:Af)(o0:Nat)(o1:Nat)(g:Nat)(v1:AV)(g1:Nat)(vH:Az v1 o1 g1 l.length)(hI0:Ids h0 [o0,o1] 2):Mz s0_src s0_at l≠.bad→Bg Tryz.prog 83 [(.ptr o0 g 0 0)] (hp h0 [o0,o1] [some (.rows g 3 [[(.str s0_src),(.int .i64 s0_at),v1]]),Ai v1 g1 4 (List.map Ad l)]) (Cq (fun a_ v h'=>v=(.tup [])∧h'=hp h0 [o0,o1] [some (.rows g 3 [[(.str s0_src),(.int .i64 a_),v1]]),Ai v1 g1 4 (List.map Ad l)]) h0 (Mz s0_src s0_at l)):=by
 refine Bb (n:=13) 0 Tryz.func83 J (by decide) J J hI0 J fun ids he hI=>?_
 clear hI0
 obtain rfl:ix ids 0=o0:=he 0 rfl
 obtain rfl:ix ids 1=o1:=he 1 rfl
 clear he
 refine Bk (Al (Mz.eq_1 _ _ _) ?_)
 refine C6 Fl [[],[0],[0,1],[0,1,2],[],[],[4,5],[4,5,6],[0,1,2,3,4,5,6,7],[0,0,1,2,3,4,5,6,7,8],[0,1,2,3,4,5,6,7,8,9],[0,1,2,3,4,5,6,7,8,9,10]] [(false,0),(false,1),(false,2),(false,3),(false,4),(true,5),(true,6),(false,7),(false,8),(false,9),(false,10),(true,11)] (by kernel_rfl)<|Ag (.q ids 0 g) J J Ae<|Ag (.q ids 0 g) J J (Be J)<|Ag (.ptr (ix ids 0) g 0 1) J J (Bw (Bq (c:=0) (off:=1) (i:=1) Qt J Dl J))<|Ag (.I s0_at) J J (As (A7 hI J J J Dl J))<|Ag (.q ids 0 g) J J Ae<|Jw J J (fun _ _=>J) (fun K hK=>Nd (e:=(rI .i64)) (L:=[1]) (st:=1) (rows:=[[(.I 1)]]) O4 Dl J J J J J (.cons (RowSim.refl _) .nil) (fun x=>Agn x) J J (hK _ _ (A6 J Ae (A6 J (As (A7 hI J J J Dl J)) (A6 J (Bw (Bq (c:=0) (off:=1) (i:=1) Qt J Dl J)) (A6 J (Be J) (A6 J Ae Bm))))) ?_))
 clear hK K
 refine Pc [(.q ids 0 g),(.sl 1 (List.map (rI .i64) [1]))] J J J J J (CP.lend (S5 ({ fSrc:=s0_src,fAt:=s0_at,fL:=l }:T153) [1]) (LF.lfz (.cons (.ptrL (hI.at J J) J J (.cons (.same _) (.cons (.same _) (.cons (E1 vH (hI.at J J) J (fun x=>Rl x)) .nil)))) (.cons (.same _) .nil))) (fun _ _=>(.str _))) (fun v _ _ _=>Ap (K:=2) (N:=0) Tryz.func83 hI) (Ab J (A6 J (As (A7 hI J J J Dl J)) (A6 J (Bw (Bq (c:=0) (off:=1) (i:=1) Qt J Dl J)) (A6 J (Be J) (A6 J Ae Bm))))) fun r _=>Ag (.I (r.length:Int)) J J (Ay (Ni Cf))<|Ag (.I (IntKind.wrap .i64 (s0_at+(r.length:Int)))) J J (Ba J J J)<|Ag (.q ids 0 g) J J (Be J)<|Ag (.ptr (ix ids 0) g 0 1) J J (Bw (Bq (c:=0) (off:=1) (i:=1) Qt J Dl J))<|D4 J (fun _ _=>J) (fun K hK=>Cs (A4 (v:=(.I (IntKind.wrap .i64 (s0_at+(r.length:Int))))) hI J J J J Dl J J J J J) (hK _ _ (Ab J (Ab J (Ab J (Ab J (Ab J (Ab J (Ab J (Ab J (Ab J Bm))))))))) ?_))
 clear hK K
 refine Cu<|Ak ?_
 exact Cc (K:=2) (N:=0) (a:=(IntKind.wrap .i64 (s0_at+(r.length:Int)))) (vs:=[]) [some (.rows g 3 [[(.str s0_src),(.I (IntKind.wrap .i64 (s0_at+(r.length:Int)))),v1]]),Ai v1 g1 4 (List.map Ad l)] Tryz.func83 hI J J J (.keep (.keep .nil)) (.same _) ⟨J,J⟩
theorem Ro (text:An)(t:Token)(s0_src:An)(s0_at:Int)(l:List Token)(h0:Af)(o0:Nat)(o1:Nat)(g:Nat)(v1:AV)(g1:Nat)(vH:Az v1 o1 g1 l.length)(hI0:Ids h0 [o0,o1] 2):Gy text t s0_src s0_at l≠.bad→Bg Tryz.prog 101 [(.ptr o0 g 0 0),(.str text),(.agg (Ad t))] (hp h0 [o0,o1] [some (.rows g 3 [[(.str s0_src),(.int .i64 s0_at),v1]]),Ai v1 g1 4 (List.map Ad l)]) (Cq (fun a_ v h' => ∃ (v3:AV),∃ (g4:Nat),Az v3 o1 g4 a_.length∧v=(.tup [])∧h'=hp h0 [o0,o1] [some (.rows g 3 [[(.str s0_src),(.int .i64 (IntKind.wrap .i64 (s0_at+(text.length:Int)))),v3]]),Ai v3 g4 4 (List.map Ad a_)]) h0 (Gy text t s0_src s0_at l)):=by
 refine Bb (n:=38) 1 Tryz.func101 J (by decide) J J hI0 J fun ids he hI=>?_
 clear hI0
 obtain rfl:ix ids 0=o0:=he 0 rfl
 obtain rfl:ix ids 1=o1:=he 1 rfl
 clear he
 refine Bk (Al (Gy.eq_1 _ _ _ _ _) ?_)
 refine Ak ?_
 refine Y<|O<|Ck (v:=(.agg (Ad t))) (j:=2) hI J J J J J J J fun g2=>Z<|Ak ?_
 refine Y<|Y<|O<|Ac 1 [2] [(6,(.agg (Ad t)))] ?_
 refine Bv [(.agg (Ad t))] J J J J ((Ae8 t) _) (fun v _=>Ap (K:=2) (N:=1) Tryz.func101 hI) fun r _=>Aa (.bool (!r)) J (Xk J)<|Z<|Fj J (fun hc=>?_) (fun hc=>?_)
 ·refine A0<|Y<|O<|Ac 5 [0] [(18,(.ptr (ix ids 2) g2 0 3)),(17,(.I s0_at))] ?_
  refine Au (A4 (v:=(.I s0_at)) hI J J J J Dl J J J J J)<|Z<|Ak ?_
  refine Y<|C6 Fl [[],[],[1],[1,2],[1,2,3],[],[5],[1,2,3,4,5,6],[0,0,1,2,3,4,5,6,7],[0,1,2,3,4,5,6,7,8],[0,1,2,3,4,5,6,7,8,9]] [(false,0),(false,1),(false,2),(false,3),(false,4),(false,5),(true,6),(true,7),(false,8),(false,9),(true,10)] (by kernel_rfl)<|Ag (.q ids 0 g) J J Ae<|Ag (.q ids 0 g) J J Ae<|Ag (.q ids 0 g) J J (Be J)<|Ag (.ptr (ix ids 0) g 0 2) J J (Bw (Bq (c:=0) (off:=2) (i:=2) Qt J Cz J))<|Ag v1 J J (As (A7 hI J J J Cz J)) ?_
  refine Ag (.agg [(.I t.Kind),(.str t.Text),(.I t.N),(.I s0_at)]) J J (As (A7 hI J J J Cn J))<|Jw J J (fun _ _=>J) (fun K hK=>Nd (e:=Ad) (L:=[({ Kind:=t.Kind,Text:=t.Text,N:=t.N,At:=s0_at }:Token)]) (st:=4) (rows:=[[(.I t.Kind),(.str t.Text),(.I t.N),(.I s0_at)]]) Cz Cn J J J J J (.cons (.cons (.same _) (.cons (.same _) (.cons (.same _) (.cons (.same _) .nil)))) .nil) (fun x=>Rl x) J J (hK _ _ (Ab J (A6 J (As (A7 hI J J J Cz J)) (A6 J (Bw (Bq (c:=0) (off:=2) (i:=2) Qt J Cz J)) (A6 J (Be J) (A6 J Ae (A6 J Ae Bm)))))) ?_))
  clear hK K
  refine Lr fun hl=>Jw J J (fun _ _=>J) (fun K hK=>Iw (e:=Ad) (L:=l) (L2:=[({ Kind:=t.Kind,Text:=t.Text,N:=t.N,At:=s0_at }:Token)]) (v:=v1) (g:=g1) (st:=4) (j:=1) hI J J J vH J (J3 J) Cz Cz J Cn J J J hl fun v2 g3 vH1=>hK _ _ (Ab J (Ab J (Ab J (Ab J (Ab J (A6 J Ae Bm)))))) ?_)
  clear hK K
  refine Ag (.q ids 0 g) J J (Be J)<|Ag (.ptr (ix ids 0) g 0 2) J J (Bw (Bq (c:=0) (off:=2) (i:=2) Qt J Cz J))<|D4 J (fun _ _=>J) (fun K hK=>Cs (Jr vH1 hI J J J J Cz J J J) (hK _ _ (Ab J (Ab J (Ab J (Ab J (Ab J (Ab J (Ab J (Ab J Bm)))))))) ?_))
  clear hK K
  refine Cu<|Ak ?_
  refine O<|Ac 5 [0] [(33,(.str text)),(32,(.I s0_at)),(29,(.q ids 0 g))] ?_
  refine Aa (.I (text.length:Int)) J (Ay (Ni Cf))<|Ac 3 [] [(37,(.ptr (ix ids 0) g 0 1)),(35,(.I (IntKind.wrap .i64 (s0_at+(text.length:Int)))))] ?_
  refine Au (A4 (v:=(.I (IntKind.wrap .i64 (s0_at+(text.length:Int))))) hI J J J J Dl J J J J J)<|Z<|Ak ?_
  exact Cc (K:=2) (N:=1) (a:=(l++[({ Kind:=t.Kind,Text:=t.Text,N:=t.N,At:=s0_at }:Token)])) (vs:=[]) [some (.rows g 3 [[(.str s0_src),(.I (IntKind.wrap .i64 (s0_at+(text.length:Int)))),v2]]),Ai v2 g3 4 (List.map Ad (l++[({ Kind:=t.Kind,Text:=t.Text,N:=t.N,At:=s0_at }:Token)]))] Tryz.func101 hI J J J (.keep (.keep (.drop .nil))) (.same _) ⟨v2,g3,vH1,J,J⟩
 refine O<|Ac 5 [0] [(13,(.iface 147 (.I s0_at)))] ?_
 exact Td (v:=⟨147,.I s0_at⟩) J J (Ap (K:=2) (N:=1) Tryz.func101 hI)
theorem Ac0 (s0_src:An)(s0_at:Int)(l:List Token)(h0:Af)(o0:Nat)(o1:Nat)(g:Nat)(v1:AV)(g1:Nat)(vH:Az v1 o1 g1 l.length)(hI0:Ids h0 [o0,o1] 2):Nw s0_src s0_at l≠.bad→Bg Tryz.prog 84 [(.ptr o0 g 0 0)] (hp h0 [o0,o1] [some (.rows g 3 [[(.str s0_src),(.int .i64 s0_at),v1]]),Ai v1 g1 4 (List.map Ad l)]) (Cq (fun a_ v h' => ∃ (v3:AV),∃ (g3:Nat),Az v3 o1 g3 a_.2.length∧v=(.tup [])∧h'=hp h0 [o0,o1] [some (.rows g 3 [[(.str s0_src),(.int .i64 a_.1),v3]]),Ai v3 g3 4 (List.map Ad a_.2)]) h0 (Nw s0_src s0_at l)):=by
 refine Bb (n:=11) 0 Tryz.func84 J (by decide) J J hI0 J fun ids he hI=>?_
 clear hI0
 obtain rfl:ix ids 0=o0:=he 0 rfl
 obtain rfl:ix ids 1=o1:=he 1 rfl
 clear he
 refine Bk (Al (Nw.eq_1 _ _ _) ?_)
 refine Y<|O<|Aa (.q ids 0 g) J Ae<|Dp (e:=(rI .i64)) (L:=[2,3,5]) (st:=1) (rows:=[[(.I 2)],[(.I 3)],[(.I 5)]]) J O4 Dl J J J J J (.cons (RowSim.refl _) (.cons (RowSim.refl _) (.cons (RowSim.refl _) .nil))) (fun x=>Agn x) J J<|Bv [(.q ids 0 g),(.sl 1 (List.map (rI .i64) [2,3,5]))] J J J J (CP.lend (S5 ({ fSrc:=s0_src,fAt:=s0_at,fL:=l }:T153) [2,3,5]) (LF.lfz (.cons (.ptrL (hI.at J J) J J (.cons (.same _) (.cons (.same _) (.cons (E1 vH (hI.at J J) J (fun x=>Rl x)) .nil)))) (.cons (.same _) .nil))) (fun _ _=>(.str _))) (fun v _=>Ap (K:=2) (N:=0) Tryz.func84 hI) fun t _=>Aa (.str t) J Aj<|Z ?_
 refine O<|Ac 4 [] [(9,(.agg [(.I 1),(.str t),(.I 0),(.I 0)])),(7,(.str t)),(6,(.q ids 0 g))] ?_
 refine Ao [0,1] hI J J (Ro t ({ Kind:=1,Text:=t,N:=0,At:=0 }:Token) s0_src s0_at l _ (ix ids 0) (ix ids 1) g v1 g1 vH (by exact hI.sub' J J)) J J J J J J (fun v _=>Ap (K:=2) (N:=0) Tryz.func84 hI) ?_
 rintro r _ _ _ ⟨v2,g2,vH1,rfl,rfl⟩
 refine Aw [0,1] hI J J J ?_
 refine Aq<|Z<|Ak ?_
 exact Cc (K:=2) (N:=0) (a:=((IntKind.wrap .i64 (s0_at+(t.length:Int))),r)) (vs:=[]) [some (.rows g 3 [[(.str s0_src),(.I (IntKind.wrap .i64 (s0_at+(t.length:Int)))),v2]]),Ai v2 g2 4 (List.map Ad r)] Tryz.func84 hI J J J (.keep (.keep .nil)) (.same _) ⟨v2,g2,vH1,J,J⟩
theorem Abc (s0_src:An)(s0_at:Int)(l:List Token)(h0:Af)(o0:Nat)(o1:Nat)(g:Nat)(v1:AV)(g1:Nat)(vH:Az v1 o1 g1 l.length)(hI0:Ids h0 [o0,o1] 2):L3 s0_src s0_at l≠.bad→Bg Tryz.prog 85 [(.ptr o0 g 0 0)] (hp h0 [o0,o1] [some (.rows g 3 [[(.str s0_src),(.int .i64 s0_at),v1]]),Ai v1 g1 4 (List.map Ad l)]) (Cq (fun a_ v h' => ∃ (v4:AV),∃ (g3:Nat),Az v4 o1 g3 a_.2.length∧v=(.tup [])∧h'=hp h0 [o0,o1] [some (.rows g 3 [[(.str s0_src),(.int .i64 a_.1),v4]]),Ai v4 g3 4 (List.map Ad a_.2)]) h0 (L3 s0_src s0_at l)):=by
 refine Bb (n:=31) 0 Tryz.func85 J (by decide) J J hI0 J fun ids he hI=>?_
 clear hI0
 obtain rfl:ix ids 0=o0:=he 0 rfl
 obtain rfl:ix ids 1=o1:=he 1 rfl
 clear he
 refine Bk (Al (L3.eq_1 _ _ _) ?_)
 refine Y<|O<|Aa (.q ids 0 g) J Ae<|Dp (e:=(rI .i64)) (L:=[3]) (st:=1) (rows:=[[(.I 3)]]) J O4 Dl J J J J J (.cons (RowSim.refl _) .nil) (fun x=>Agn x) J J<|Bv [(.q ids 0 g),(.sl 1 (List.map (rI .i64) [3]))] J J J J (CP.lend (S5 ({ fSrc:=s0_src,fAt:=s0_at,fL:=l }:T153) [3]) (LF.lfz (.cons (.ptrL (hI.at J J) J J (.cons (.same _) (.cons (.same _) (.cons (E1 vH (hI.at J J) J (fun x=>Rl x)) .nil)))) (.cons (.same _) .nil))) (fun _ _=>(.str _))) (fun v _=>Ap (K:=2) (N:=0) Tryz.func85 hI) fun t _=>Aa (.str t) J Aj<|Z ?_
 refine Y<|O<|Aa (.str t) J Ae<|Ao [] hI J J (Aib t _ (by exact hI.sub' J J)) J J J J J J (fun v _=>Ap (K:=2) (N:=0) Tryz.func85 hI) ?_
 rintro r _ _ _ ⟨v2,vH1,rfl,rfl⟩
 refine Aw [] hI J J J ?_
 refine Aq<|Ac 5 [] [(4,v2),(3,(.I r.1))] ?_
 refine Z<|Y<|Y<|O<|Aa v2 J Ae<|Aa (.bool r.2) J (Ba (Aqv (.inr J) vH1) J (Arq Ayz vH1))<|Aa (.bool r.2) J Ae ?_
 refine E0 5 ((fun(b:Bool)=>if b then(.pan ⟨147,.I s0_at⟩) else((Gy t ({ Kind:=2,Text:=[],N:=r.1,At:=0 }:Token) s0_src s0_at l).bind fun r2=>.ok ((IntKind.wrap .i64 (s0_at+(t.length:Int))),r2))):Bool→R (Int×(List Token))) (fun(b:Bool) (fr:Nat→AV) (h:Af)=>fr=A2 [(0,(.q ids 0 g)),(2,(.str t)),(3,(.I r.1)),(20,(.bool b))]∧h=hp h0 ids [(some (.rows g 3 [[(.str s0_src),(.I s0_at),v1]])),(Ai v1 g1 4 (List.map Ad l))]) ?_ fun hJ=>Gi (fun hb1=>?_) (fun hb1=>?_)
 ·rintro b fr h ⟨rfl,rfl⟩
  refine Z<|Co J (fun hc=>?_) (fun hc=>?_)
  ·refine O<|Ac 5 [0] [(25,(.iface 147 (.I s0_at)))] ?_
   exact Td (v:=⟨147,.I s0_at⟩) J J (Ap (K:=2) (N:=0) Tryz.func85 hI)
  refine A0<|O<|Ac 4 [] [(29,(.agg [(.I 2),(.str []),(.I r.1),(.I 0)])),(27,(.str t)),(26,(.q ids 0 g))] ?_
  refine Ao [0,1] hI J J (Ro t ({ Kind:=2,Text:=[],N:=r.1,At:=0 }:Token) s0_src s0_at l _ (ix ids 0) (ix ids 1) g v1 g1 vH (by exact hI.sub' J J)) J J J J J J (fun v _=>Ap (K:=2) (N:=0) Tryz.func85 hI) ?_
  rintro r2 _ _ _ ⟨v3,g2,vH2,rfl,rfl⟩
  refine Aw [0,1] hI J J J ?_
  refine Aq<|Z<|Ak ?_
  exact Cc (K:=2) (N:=0) (a:=((IntKind.wrap .i64 (s0_at+(t.length:Int))),r2)) (vs:=[]) [some (.rows g 3 [[(.str s0_src),(.I (IntKind.wrap .i64 (s0_at+(t.length:Int)))),v3]]),Ai v3 g2 4 (List.map Ad r2)] Tryz.func85 hI J J J (.keep (.keep .nil)) (.same _) ⟨v3,g2,vH2,J,J⟩
 ·refine Bj (t:=15) hb1 J<|Ac 5 [] [(20,(.bool true))] ?_
  refine Cd<|Dt [(0,(.q ids 0 g)),(2,(.str t)),(3,(.I r.1)),(20,(.bool true))] (FI J)<|hJ true _ _ ⟨J,J⟩
 refine Bj (t:=15) hb1 J<|Bx (tj:=15) (.I r.1) J J J Ae<|Bv [(.I r.1)] J (Er (tj:=15) J J) J J ((Aby r.1) _) (fun v _=>Ap (K:=2) (N:=0) Tryz.func85 hI) fun r1 _=>Ac 3 [] [(20,(.bool (!(r1==t))))] ?_
 refine Cd<|Dt [(0,(.q ids 0 g)),(2,(.str t)),(3,(.I r.1)),(20,(.bool (!(r1==t))))] (FI J)<|hJ (!(r1==t)) _ _ ⟨J,J⟩
theorem Ac1 (s0_src:An)(s0_at:Int)(l:List Token)(h0:Af)(o0:Nat)(o1:Nat)(g:Nat)(v1:AV)(g1:Nat)(vH:Az v1 o1 g1 l.length)(hI0:Ids h0 [o0,o1] 2):Nq s0_src s0_at l≠.bad→Bg Tryz.prog 86 [(.ptr o0 g 0 0)] (hp h0 [o0,o1] [some (.rows g 3 [[(.str s0_src),(.int .i64 s0_at),v1]]),Ai v1 g1 4 (List.map Ad l)]) (Cq (fun a_ v h' => ∃ (v3:AV),∃ (g3:Nat),Az v3 o1 g3 a_.2.length∧v=(.tup [])∧h'=hp h0 [o0,o1] [some (.rows g 3 [[(.str s0_src),(.int .i64 a_.1),v3]]),Ai v3 g3 4 (List.map Ad a_.2)]) h0 (Nq s0_src s0_at l)):=by
 refine Bb (n:=61) 0 Tryz.func86 J (by decide) J J hI0 J fun ids he hI=>?_
 clear hI0
 obtain rfl:ix ids 0=o0:=he 0 rfl
 obtain rfl:ix ids 1=o1:=he 1 rfl
 clear he
 refine Bk (Al (Nq.eq_1 _ _ _) ?_)
 refine Y<|Y<|C6 Fl [[],[0],[0,1],[0,1,2],[],[4],[4,5],[4,5,6],[0,1,2,3,4,5,6,7],[0,1,2,3,4,5,6,7,8]] [(false,0),(false,1),(false,2),(false,3),(false,4),(false,5),(false,6),(false,7),(false,8),(true,9)] (by kernel_rfl)<|Ag (.q ids 0 g) J J Ae<|Ag (.q ids 0 g) J J (Be J)<|Ag (.q ids 0 g) J J (Bw (Bq (c:=0) (off:=0) (i:=0) Qt J Cf J))<|Ag (.str s0_src) J J (As (A7 hI J J J Cf J)) ?_
 refine Ag (.q ids 0 g) J J Ae<|Ag (.q ids 0 g) J J (Be J)<|Ag (.ptr (ix ids 0) g 0 1) J J (Bw (Bq (c:=0) (off:=1) (i:=1) Qt J Dl J))<|Ag (.I s0_at) J J (As (A7 hI J J J Dl J))<|Lr fun hs=>Ag (.str (s0_src.drop (Int.toNat s0_at))) J J (Gr (Aom Cf hs))<|Pc [(.str (s0_src.drop (Int.toNat s0_at))),(.str [47,47])] J J J J J ((Adu (s0_src.drop (Int.toNat s0_at)) [47,47]) _) (fun v _ _ _=>Ap (K:=2) (N:=0) Tryz.func86 hI) (Ab J (Ab J (Ab J (Ab J (Ab J (Ab J (Ab J (Ab J (Ab J Bm))))))))) fun r _=>?_
 refine Cu<|Co J (fun hc=>?_) (fun hc=>?_)
 ·refine Y<|Y<|C6 Fl [[],[0],[0,1],[0,1,2],[],[4],[4,5],[4,5,6],[0,1,2,3,4,5,6,7],[0,1,2,3,4,5,6,7,8],[0,1,2,3,4,5,6,7,8,9,9,9]] [(false,0),(false,1),(false,2),(false,3),(false,4),(false,5),(false,6),(false,7),(false,8),(true,9),(false,10)] (by kernel_rfl)<|Ag (.q ids 0 g) J J Ae<|Ag (.q ids 0 g) J J (Be J)<|Ag (.q ids 0 g) J J (Bw (Bq (c:=0) (off:=0) (i:=0) Qt J Cf J))<|Ag (.str s0_src) J J (As (A7 hI J J J Cf J)) ?_
  refine Ag (.q ids 0 g) J J Ae<|Ag (.q ids 0 g) J J (Be J)<|Ag (.ptr (ix ids 0) g 0 1) J J (Bw (Bq (c:=0) (off:=1) (i:=1) Qt J Dl J))<|Ag (.I s0_at) J J (As (A7 hI J J J Dl J))<|Lr fun hs1=>Ag (.str (s0_src.drop (Int.toNat s0_at))) J J (Gr (Aom Cf hs1))<|Pc [(.str (s0_src.drop (Int.toNat s0_at))),(.int .u8 10)] J J J J J ((Vp (s0_src.drop (Int.toNat s0_at)) 10) _) (fun v _ _ _=>Ap (K:=2) (N:=0) Tryz.func86 hI) (Ab J (Ab J (Ab J (Ab J (Ab J (Ab J (Ab J (Ab J (Ab J Bm))))))))) fun n _=>?_
  refine Ag (.I n) J J Aj<|Cu<|Y<|O<|Ac 2 [] [(25,(.bool (decide (n≥0))))] ?_
  refine Z<|On J (fun hc1=>?_) (fun hc1=>?_)
  ·refine O<|Ac 8 [0] [(33,(.ptr (ix ids 0) g 0 1)),(31,(.I (IntKind.wrap .i64 (s0_at+n))))] ?_
   refine Au (A4 (v:=(.I (IntKind.wrap .i64 (s0_at+n)))) hI J J J J Dl J J J J J)<|Z<|Ak ?_
   exact C9 (K:=2) (N:=0) (a:=((IntKind.wrap .i64 (s0_at+n)),l)) (vs:=[]) [some (.rows g 3 [[(.str s0_src),(.I (IntKind.wrap .i64 (s0_at+n))),v1]]),Ai v1 g1 4 (List.map Ad l)] Tryz.func86 hI J J J (.keep (.keep .nil)) (.same _) ⟨v1,g1,vH,J,J⟩
  refine O<|Ac 5 [0] [(38,(.str s0_src)),(34,(.q ids 0 g))] ?_
  refine Aa (.I (s0_src.length:Int)) J (Ay (Ni Cf))<|Ac 2 [] [(41,(.ptr (ix ids 0) g 0 1))] ?_
  refine Au (A4 (v:=(.I (s0_src.length:Int))) hI J J J J Dl J J J J J)<|Z<|Ak ?_
  exact C9 (K:=2) (N:=0) (a:=((s0_src.length:Int),l)) (vs:=[]) [some (.rows g 3 [[(.str s0_src),(.I (s0_src.length:Int)),v1]]),Ai v1 g1 4 (List.map Ad l)] Tryz.func86 hI J J J (.keep (.keep .nil)) (.same _) ⟨v1,g1,vH,J,J⟩
 refine A0<|Y<|C6 Fl [[],[0],[0,1],[0,1,2],[],[4],[4,5],[4,5,6],[],[8],[8,9],[8,9,10],[8,9,10,11],[0,1,2,3,4,5,6,7,8,9,10,11,12],[0,1,2,3,4,5,6,7,8,9,10,11,12,13,13]] [(false,0),(false,1),(false,2),(false,3),(false,4),(false,5),(false,6),(false,7),(false,8),(false,9),(false,10),(false,11),(false,12),(false,13),(false,14)] (by kernel_rfl)<|Ag (.q ids 0 g) J J Ae<|Ag (.q ids 0 g) J J (Be J)<|Ag (.q ids 0 g) J J (Bw (Bq (c:=0) (off:=0) (i:=0) Qt J Cf J))<|Ag (.str s0_src) J J (As (A7 hI J J J Cf J)) ?_
 refine Ag (.q ids 0 g) J J Ae<|Ag (.q ids 0 g) J J (Be J)<|Ag (.ptr (ix ids 0) g 0 1) J J (Bw (Bq (c:=0) (off:=1) (i:=1) Qt J Dl J))<|Ag (.I s0_at) J J (As (A7 hI J J J Dl J))<|Ag (.q ids 0 g) J J Ae<|Ag (.q ids 0 g) J J (Be J)<|Ag (.ptr (ix ids 0) g 0 1) J J (Bw (Bq (c:=0) (off:=1) (i:=1) Qt J Dl J)) ?_
 refine Ag (.I s0_at) J J (As (A7 hI J J J Dl J))<|Ag (.I (IntKind.wrap .i64 (s0_at+1))) J J (Ba J J J)<|Lr fun hs2=>Ag (.str (Ub s0_src s0_at (IntKind.wrap .i64 (s0_at+1)))) J J (Gr (Ap4 Cf hs2))<|Ag (.str (Ub s0_src s0_at (IntKind.wrap .i64 (s0_at+1)))) J J Aj<|Cu<|O ?_
 refine Ac 4 [] [(59,(.agg [(.I 3),(.str (Ub s0_src s0_at (IntKind.wrap .i64 (s0_at+1)))),(.I 0),(.I 0)])),(57,(.str (Ub s0_src s0_at (IntKind.wrap .i64 (s0_at+1))))),(56,(.q ids 0 g))] ?_
 refine Ao [0,1] hI J J (Ro (Ub s0_src s0_at (IntKind.wrap .i64 (s0_at+1))) ({ Kind:=3,Text:=(Ub s0_src s0_at (IntKind.wrap .i64 (s0_at+1))),N:=0,At:=0 }:Token) s0_src s0_at l _ (ix ids 0) (ix ids 1) g v1 g1 vH (by exact hI.sub' J J)) J J J J J J (fun v _=>Ap (K:=2) (N:=0) Tryz.func86 hI) ?_
 rintro r1 _ _ _ ⟨v2,g2,vH1,rfl,rfl⟩
 refine Aw [0,1] hI J J J ?_
 refine Aq<|Z<|Ak ?_
 exact Cc (K:=2) (N:=0) (a:=((IntKind.wrap .i64 (s0_at+((Ub s0_src s0_at (IntKind.wrap .i64 (s0_at+1))).length:Int))),r1)) (vs:=[]) [some (.rows g 3 [[(.str s0_src),(.I (IntKind.wrap .i64 (s0_at+((Ub s0_src s0_at (IntKind.wrap .i64 (s0_at+1))).length:Int)))),v2]]),Ai v2 g2 4 (List.map Ad r1)] Tryz.func86 hI J J J (.keep (.keep .nil)) (.same _) ⟨v2,g2,vH1,J,J⟩
theorem Aiu (a0:AV)(a1:AV)(a2:AV)(h:Af):Pr Tryz.prog 81 [a0,a1,a2] .ret h (Ab9 (fun _:Unit=>h) .ret (.ok ())):=by
 refine Aa1 (n:=9) Tryz.func81 J (by decide) J J ?_ ⟨(),J⟩
 refine Y<|O<|Aih J<|Aa .nili J Aj<|Z<|Y<|O ?_
 refine Aa .nili J Ae<|Aa (.bool false) J (Ba J J (Aft Ail))<|Z<|Gu false J<|A0<|Z5 Tryz.func81 J J J
theorem Aej (n:Int)(h0:Af)(ids:List Nat)(hI:Ids h0 ids 3)(g0_:Nat)(g1_:Nat)(g2_:Nat)(r0_:List AV)(r1_:List AV)(r2_:List AV)(hr0_:r0_.length=1)(hr1_:r1_.length=1)(hr2_:r2_.length=1):(∃ a,Kl n=.ok a)→Pr Tryz.prog 81 [(.ptr (ix ids 0) g0_ 0 0),(.ptr (ix ids 1) g1_ 0 0),(.ptr (ix ids 2) g2_ 0 0)] (.pan (.iface 147 (.int .i64 n)) false) (hp h0 ids [some (.rows g0_ 1 [r0_]),some (.rows g1_ 1 [r1_]),some (.rows g2_ 1 [r2_])]) (Ab9 (fun p=>hp h0 ids [some (.rows g0_ 1 [[.emp]]),some (.rows g1_ 1 [[(.int .i64 p)]]),some (.rows g2_ 1 [[(.int .i64 70)]])]) (.pan (.iface 147 (.int .i64 n)) true) (Kl n)):=by
 refine Aa1 (n:=9) Tryz.func81 J (by decide) J J<|Bk (Al (Kl.eq_1 _) ?_)
 refine Y<|O<|Aiz J<|Aa (.iface 147 (.I n)) J Aj<|Z<|Y<|O ?_
 refine Aa (.iface 147 (.I n)) J Ae<|Aa (.bool true) J (Ba J J (Ad7 Ail))<|Z<|Gu true J<|C6 Fl [[],[0],[],[0,1,1,2,2],[0,1,2,3,3]] [(false,0),(false,1),(true,2),(true,3),(true,4)] (by kernel_rfl)<|Ag (.iface 147 (.I n)) J J Ae<|Ag (.I n) J J (Ahp (Akq Atv (by decide))) ?_
 refine D4 J (fun _ _=>J) (fun K hK=>Cs (Uz (v:=.emp) hI J J J Cz J J J hr0_ J) (hK _ _ (A6 J (Ahp (Akq Atv (by decide))) (A6 J Ae Bm)) ?_))
 clear hK K
 refine D4 J (fun _ _=>J) (fun K hK=>Cs (Uz (v:=(.I n)) hI J J J Dl J J J hr1_ J) (hK _ _ (Ab J (Ab J Bm)) ?_))
 clear hK K
 refine D4 J (fun _ _=>J) (fun K hK=>Cs (Uz (v:=(.I 70)) hI J J J Ld J J J hr2_ J) (hK _ _ (Ab J (Ab J Bm)) ?_))
 clear hK K
 refine Cu<|Ak ?_
 exact Z5 (a:=n) Tryz.func81 J J J
theorem Apg (src:An):CP Tryz.prog 41 [(.str src)] (Af2 src) (fun(p:((List Token)×Int×Int))=>AV.tup [(.sl 4 (List.map Ad p.1)),(.int .i64 p.2.1),(.int .i64 p.2.2)]):=by
 show CP _ _ _ ((Abr src).catch' (Nt 147 .i64 (fun n=>(Kl n).bind fun p=>.ok ([],p,70)) (fun _=>.bad))) _
 refine Afh (n:=39) 6 Tryz.func41 J (by decide) J J fun h0 ids hI=>?_
 have hU : ∀ (v:PV) (fr:Nat→AV) (xs:List (Option AO)) (g0_:Nat) (r0_:List AV) (g1_:Nat) (r1_:List AV) (g2_:Nat) (r2_:List AV) (hl_:xs.length=6) (hr0_:r0_.length=1) (hr1_:r1_.length=1) (hr2_:r2_.length=1) (hy_:xs.take 3=[some (.rows g0_ 1 [r0_]),some (.rows g1_ 1 [r1_]),some (.rows g2_ 1 [r2_])]) (hq2_:fr 2=.q ids 0 g0_) (hq3_:fr 3=.q ids 1 g1_) (hq4_:fr 4=.q ids 2 g2_),WU Tryz.prog 41 39 false (Rt (fun(p:((List Token)×Int×Int))=>AV.tup [(.sl 4 (List.map Ad p.1)),(.I p.2.1),(.I p.2.2)]) h0 (Nt 147 .i64 (fun n=>(Kl n).bind fun p=>.ok ([],p,70)) (fun _=>.bad))) (.pan v) (.pan v.av false) fr [⟨81,[.q ids 0 g0_,.q ids 1 g1_,.q ids 2 g2_]⟩] (hp h0 ids xs) .ret:=by
  intro v fr xs g0_ r0_ g1_ r1_ g2_ r2_ hl_ hr0_ hr1_ hr2_ hy_ hq2_ hq3_ hq4_
  refine Atu (t:=147) (k:=.i64) J (fun n hv=>?_) (fun hne147=>?_)
  ·subst hv
   exact Agw (Hc:=Kl n) (fin:=fun p=>([],p,70)) (c:=3) (cells:=fun p=>[some (.rows g0_ 1 [[.emp]]),some (.rows g1_ 1 [[(.I p)]]),some (.rows g2_ 1 [[(.I 70)]])]) (vs:=fun p=>[.emp,(.I p),(.I 70)]) Tryz.func41 hI hl_ J hy_ (by first | (rw [Abs]; done) | (rw [Abs]; rfl)) (fun hx=>by have:=Aej n h0 (ids.take 3) (hI.take J) g0_ g1_ g2_ r0_ r1_ r2_ hr0_ hr1_ hr2_ hx; simp only [Mi (c:=3) (j:=0) J,Mi (c:=3) (j:=1) J,Mi (c:=3) (j:=2) J] at this; exact this) (by intro w; simp [Kl]) (fun p=>(Qb hq2_ (U1 (hI.take J) (Mi J) J J J Cz J) (Qb hq3_ (U1 (hI.take J) (Mi J) J J J Dl J) (Qb hq4_ (U1 (hI.take J) (Mi J) J J J Ld J) Ew)))) (fun p=>(.tupL (.cons (.emp _) (.cons (.same _) (.cons (.same _) .nil)))))
  exact Ao4 (by rw [Akc hne147])
 refine Bk (Al (Abr.eq_1 _) ?_)
 refine Y<|O<|Bl (j:=0) hI J J J J Cz J fun g=>Bl (j:=1) hI J J J J Dl J fun g1=>Bl (j:=2) hI J J J J Ld J fun g2=>Z<|Ak ?_
 refine Y<|Y<|O<|Aa (.str src) J Ae<|Aa (.I (src.length:Int)) J (Ay (Ni Cf))<|Aa (.bool (decide ((src.length:Int) > 65536))) J (Ba J J J)<|Z ?_
 refine On J (fun hc=>?_) (fun hc=>?_)
 ·refine Y<|O<|Au (A4 (v:=.emp) hI J J J J Cz J J J J J)<|Au (A4 (v:=(.I 0)) hI J J J J Dl J J J J J)<|Au (A4 (v:=(.I 2)) hI J J J J Ld J J J J J)<|Z<|Ak ?_
  exact Amy (a:=([],0,2)) (vs:=[.emp,(.I 0),(.I 2)]) Tryz.func41 hI (Dq (A7 hI J J J Cz J) (Dq (A7 hI J J J Dl J) (Dq (A7 hI J J J Ld J) Ew))) (.tupL (.cons (.emp _) (.cons (.same _) (.cons (.same _) .nil))))
 refine A0<|Y<|O<|Aa (.func (.func 81) [] [(.q ids 0 g),(.q ids 1 g1),(.q ids 2 g2)]) J Sn<|Ag4 J J J ?_
 refine Z<|Y<|O<|Bl (j:=3) hI J J J J Ats J fun g3=>Z<|Ak ?_
 refine Y<|O<|Ac 2 [] [(12,(.q ids 3 g3)),(11,(.agg [(.func (.func 82) [] []),(.func (.func 83) [] []),(.func (.func 84) [] []),(.func (.func 85) [] []),(.func (.func 86) [] []),(.func (.func 82) [] [])]))] ?_
 refine Au (A4 (v:=(.agg [(.func (.func 82) [] []),(.func (.func 83) [] []),(.func (.func 84) [] []),(.func (.func 85) [] []),(.func (.func 86) [] []),(.func (.func 82) [] [])])) hI J J J J Abq J J J J J)<|Z<|Ak ?_
 refine Y<|O<|Ac 2 [] [(14,(.agg [(.str src),(.I 0),.emp]))] ?_
 refine Ck (v:=(.agg [(.str src),(.I 0),.emp])) (j:=4) hI J J J J J J J fun g4=>Aa (.q ids 4 g4) J Aj<|Z<|Ak ?_
 refine Y<|D3 (C2 fun fAt3 l1=>Zp fAt3 l1) (C2 fun fAt3 l1=>fun(fr:Nat→AV) (h:Af) => ∃ (v4:AV),∃ (g9:Nat),Az v4 (ix ids 5) g9 l1.length∧fr=A2 [(2,(.q ids 0 g)),(3,(.q ids 1 g1)),(4,(.q ids 2 g2)),(6,(.q ids 4 g4))]∧h=hp h0 ids [(some (.rows g 1 [[.emp]])),(some (.rows g1 1 [[(.I 0)]])),(some (.rows g2 1 [[(.I 0)]])),none,(some (.rows g4 3 [[(.str src),(.I fAt3),v4]])),(Ai v4 g9 4 (List.map Ad l1))]) ?_ fun hJ=>?_
 ·rintro⟨fAt3,l1⟩ fr h ⟨v4,g9,vH4,rfl,rfl⟩
  refine Al (Zp.eq_1 _ _)<|Y<|O<|Ac 4 [4] [(38,v4)] ?_
  refine Au (Jr vH4 hI J J J J Cz J J J)<|Au (A4 (v:=(.I 0)) hI J J J J Dl J J J J J)<|Au (A4 (v:=(.I 0)) hI J J J J Ld J J J J J)<|Z<|Ak ?_
  exact Aij (a:=(l1,0,0)) (vs:=[v4,(.I 0),(.I 0)]) Tryz.func41 hI (Aiu _ _ _ _) (Dq (A7 hI J J J Cz J) (Dq (A7 hI J J J Dl J) (Dq (A7 hI J J J Ld J) Ew))) (.tupL (.cons (E1 vH4 (hI.at J J) (hI.out J) (fun x=>Rl x)) (.cons (.same _) (.cons (.same _) .nil))))
 refine A3<|Db [(0,(.str src)),(2,(.q ids 0 g)),(3,(.q ids 1 g1)),(4,(.q ids 2 g2)),(5,(.q ids 3 g3)),(6,(.q ids 4 g4))] (FI J)<|Xa (P:=Tryz.prog) (C2 fun fAt l=>O6 src fAt l) ((C2 fun fAt3 l1=>Zp fAt3 l1):(Int×(List Token))→R ((List Token)×Int×Int)) (C2 fun fAt l=>fun(fr:Nat→AV) (h:Af) => ∃ (v:AV),∃ (g5:Nat),Az v (ix ids 5) g5 l.length∧fr=A2 [(0,(.str src)),(2,(.q ids 0 g)),(3,(.q ids 1 g1)),(4,(.q ids 2 g2)),(5,(.q ids 3 g3)),(6,(.q ids 4 g4))]∧h=hp h0 ids [(some (.rows g 1 [[.emp]])),(some (.rows g1 1 [[(.I 0)]])),(some (.rows g2 1 [[(.I 0)]])),(some (.rows g3 6 [[(.func (.func 82) [] []),(.func (.func 83) [] []),(.func (.func 84) [] []),(.func (.func 85) [] []),(.func (.func 86) [] []),(.func (.func 82) [] [])]])),(some (.rows g4 3 [[(.str src),(.I fAt),v]])),(Ai v g5 4 (List.map Ad l))]) (0,[]) ?_ ?_
 ·exact⟨.emp,0,.nil,J,J⟩
 rintro vW hW ⟨fAt,l⟩ fr h ⟨v,g5,vH,rfl,rfl⟩
 refine Al (m':=O6 src fAt l) J (Al (O6.eq_1 _ _ _) ?_)
 refine Y<|Y<|O<|Ac 5 [4] [(20,(.str src)),(19,(.I fAt))] ?_
 refine Aa (.I (src.length:Int)) J (Ay (Ni Cf))<|Aa (.bool (decide (fAt<(src.length:Int)))) J (Ba J J J)<|Z<|On J (fun hc1=>?_) (fun hc1=>?_)
 ·refine A0<|A3<|O<|Ac 5 [4] [(27,(.I fAt)),(23,(.str src))] ?_
  refine Ed fun a hz hx1=>Aa (.int .u8 (a.toNat:Int)) J (Ah9 (Ae1 Cf hz hx1))<|Bv [(.int .u8 (a.toNat:Int))] J J J J ((S6 (a.toNat:Int)) _) (fun v _=>hU v _ _ _ _ _ _ _ _ J J J J J J J J) fun r _=>Aa (.q ids 3 g3) J (Bw (Bq (c:=0) (off:=0) (i:=0) Ats J Abq J))<|Z7 (fun hi=>?_) (fun _=>?_)
  ·refine Aa (.q ids 3 g3) J (Bt (W9 0 Abq Afy hi J))<|Ac 2 [3] [(33,(.q ids 4 g4)),(32,(.func (.func 82) [] []))] ?_
   refine Bv [(.q ids 4 g4)] J J J J (CP.lend (V9 ({ fSrc:=src,fAt:=fAt,fL:=l }:T153)) (LF.lfz (.cons (.ptrL (hI.at J J) J J (.cons (.same _) (.cons (.same _) (.cons (E1 vH (hI.at J J) J (fun x=>Rl x)) .nil)))) .nil)) (fun _ _=>.tup0)) (fun v _=>hU v _ _ _ _ _ _ _ _ J J J J J J J J) fun _ _=>Z<|Bf<|Bp (Q8 (hW (fAt,l) _ _ ⟨v,g5,vH,J,J⟩))
  refine Z7 (fun hi=>?_) (fun _=>?_)
  ·refine Aa (.ptr (ix ids 3) g3 0 1) J (Bt (W9 1 Abq Afy hi J))<|Ac 2 [3] [(33,(.q ids 4 g4)),(32,(.func (.func 83) [] []))] ?_
   refine Ao [4,5] hI J J (Aca src fAt l _ (ix ids 4) (ix ids 5) g4 v g5 vH (by exact hI.sub' J J)) J J J J J J (fun v _=>hU v _ _ _ _ _ _ _ _ J J J J J J J J) ?_
   rintro r2 _ _ _ ⟨rfl,rfl⟩
   refine Aw [4,5] hI J J J ?_
   refine Aq<|Z<|Ak ?_
   refine Bf<|Bp (Q8 (hW (r2,l) _ _ ⟨v,g5,vH,J,J⟩))
  refine Z7 (fun hi=>?_) (fun _=>?_)
  ·refine Aa (.ptr (ix ids 3) g3 0 2) J (Bt (W9 2 Abq Afy hi J))<|Ac 2 [3] [(33,(.q ids 4 g4)),(32,(.func (.func 84) [] []))] ?_
   refine Ao [4,5] hI J J (Ac0 src fAt l _ (ix ids 4) (ix ids 5) g4 v g5 vH (by exact hI.sub' J J)) J J J J J J (fun v _=>hU v _ _ _ _ _ _ _ _ J J J J J J J J) ?_
   rintro r3 _ _ _ ⟨v1,g6,vH1,rfl,rfl⟩
   refine Aw [4,5] hI J J J ?_
   refine Aq<|Z<|Ak ?_
   refine Bf<|Bp (Q8 (hW (r3.1,r3.2) _ _ ⟨v1,g6,vH1,J,J⟩))
  refine Z7 (fun hi=>?_) (fun _=>?_)
  ·refine Aa (.ptr (ix ids 3) g3 0 3) J (Bt (W9 3 Abq Afy hi J))<|Ac 2 [3] [(33,(.q ids 4 g4)),(32,(.func (.func 85) [] []))] ?_
   refine Ao [4,5] hI J J (Abc src fAt l _ (ix ids 4) (ix ids 5) g4 v g5 vH (by exact hI.sub' J J)) J J J J J J (fun v _=>hU v _ _ _ _ _ _ _ _ J J J J J J J J) ?_
   rintro r4 _ _ _ ⟨v2,g7,vH2,rfl,rfl⟩
   refine Aw [4,5] hI J J J ?_
   refine Aq<|Z<|Ak ?_
   refine Bf<|Bp (Q8 (hW (r4.1,r4.2) _ _ ⟨v2,g7,vH2,J,J⟩))
  refine Z7 (fun hi=>?_) (fun _=>?_)
  ·refine Aa (.ptr (ix ids 3) g3 0 4) J (Bt (W9 4 Abq Afy hi J))<|Ac 2 [3] [(33,(.q ids 4 g4)),(32,(.func (.func 86) [] []))] ?_
   refine Ao [4,5] hI J J (Ac1 src fAt l _ (ix ids 4) (ix ids 5) g4 v g5 vH (by exact hI.sub' J J)) J J J J J J (fun v _=>hU v _ _ _ _ _ _ _ _ J J J J J J J J) ?_
   rintro r5 _ _ _ ⟨v3,g8,vH3,rfl,rfl⟩
   refine Aw [4,5] hI J J J ?_
   refine Aq<|Z<|Ak ?_
   refine Bf<|Bp (Q8 (hW (r5.1,r5.2) _ _ ⟨v3,g8,vH3,J,J⟩))
  refine Z7 (fun hi=>?_) (fun _=>?_)
  ·refine Aa (.ptr (ix ids 3) g3 0 5) J (Bt (W9 5 Abq Afy hi J))<|Ac 2 [3] [(33,(.q ids 4 g4)),(32,(.func (.func 82) [] []))] ?_
   refine Bv [(.q ids 4 g4)] J J J J (CP.lend (V9 ({ fSrc:=src,fAt:=fAt,fL:=l }:T153)) (LF.lfz (.cons (.ptrL (hI.at J J) J J (.cons (.same _) (.cons (.same _) (.cons (E1 vH (hI.at J J) J (fun x=>Rl x)) .nil)))) .nil)) (fun _ _=>.tup0)) (fun v _=>hU v _ _ _ _ _ _ _ _ J J J J J J J J) fun _ _=>Z<|Bf<|Bp (Q8 (hW (fAt,l) _ _ ⟨v,g5,vH,J,J⟩))
  exact Axy
 refine Cl J<|Z2<|Dr [(some (.rows g 1 [[.emp]])),(some (.rows g1 1 [[(.I 0)]])),(some (.rows g2 1 [[(.I 0)]])),none,(some (.rows g4 3 [[(.str src),(.I fAt),v]])),(Ai v g5 4 (List.map Ad l))] hI J (.keep (.keep (.keep (.drop (.keep (.keep .nil))))))<|Bp (hJ (fAt,l) _ _ ⟨v,g5,vH,J,J⟩)
theorem Ac7 (r:T104)(e:Int):CP Tryz.prog 88 [(.cp (Ayw r) 0),(.int .i64 e)] (Nz r e) (fun(_:Unit)=>AV.tup []):=by
 refine C8 (n:=26) 0 Tryz.func88 J (by decide) J J fun h0 ids hI=>Bk (Al (Nz.eq_1 _ _) ?_)
 refine Y<|O<|Ac 5 [] [(4,(.I r.fEnd))] ?_
 refine Z<|Y<|Y<|O<|Ac 4 [] [(12,(.sl 4 (List.map Ad r.fL)))] ?_
 refine Aa (.I (r.fL.length:Int)) J (Ay (A8 Cz))<|Aa (.bool (decide ((r.fL.length:Int) > 0))) J (Ba J J J)<|Z<|On J (fun hc=>?_) (fun hc=>?_)
 ·refine O<|Ac 4 [] [(18,(.sl 4 (List.map Ad r.fL)))] ?_
  refine Ed fun a hz hx1=>Aa (.cp (Ad a) 0) J (Bt (Eg Cz Cn J hz hx1))<|Ac 3 [] [(4,(.I a.At))] ?_
  refine Z<|O<|Ac 4 [] [(25,(.iface 101 (.agg [(.I a.At),(.I e)])))] ?_
  exact Td (v:=⟨101,.two .i64 .i64 a.At e⟩) J J (Cy Tryz.func88 hI)
 refine A0<|O<|Ac 4 [] [(25,(.iface 101 (.agg [(.I r.fEnd),(.I e)])))] ?_
 exact Td (v:=⟨101,.two .i64 .i64 r.fEnd e⟩) J J (Cy Tryz.func88 hI)
theorem Cj (e:Int)(s_l:List Token)(s_end:Int)(h0:Af)(o0:Nat)(w:AV)(w1:AV)(w2:AV)(w3:AV)(w4:AV)(w5:AV)(w6:AV)(w7:AV)(g:Nat)(hI0:Ids h0 [o0] 1):Bo e s_l s_end≠.bad→Bg Tryz.prog 88 [(.ptr o0 g 0 0),(.int .i64 e)] (hp h0 [o0] [some (.rows g 10 [[(.sl 4 (List.map Ad s_l)),(.int .i64 s_end),w,w1,w2,w3,w4,w5,w6,w7]])]) (Cq (fun a_ v h'=>v=(.tup [])∧h'=hp h0 [o0] [some (.rows g 10 [[(.sl 4 (List.map Ad s_l)),(.int .i64 s_end),w,w1,w2,w3,w4,w5,w6,w7]])]) h0 (Bo e s_l s_end)):=by
 refine Bb (n:=26) 0 Tryz.func88 J (by decide) J J hI0 J fun ids he hI=>?_
 clear hI0
 obtain rfl:ix ids 0=o0:=he 0 rfl
 clear he
 refine Bk (Al (Bo.eq_1 _ _ _) ?_)
 refine Y<|O<|Ac 5 [0] [(4,(.I s_end))] ?_
 refine Z<|Y<|Y<|O<|Ac 4 [0] [(12,(.sl 4 (List.map Ad s_l)))] ?_
 refine Aa (.I (s_l.length:Int)) J (Ay (A8 Cz))<|Aa (.bool (decide ((s_l.length:Int) > 0))) J (Ba J J J)<|Z<|On J (fun hc=>?_) (fun hc=>?_)
 ·refine O<|Ac 4 [0] [(18,(.sl 4 (List.map Ad s_l)))] ?_
  refine Ed fun a hz hx1=>Aa (.cp (Ad a) 0) J (Bt (Eg Cz Cn J hz hx1))<|Ac 3 [] [(4,(.I a.At))] ?_
  refine Z<|O<|Ac 4 [] [(25,(.iface 101 (.agg [(.I a.At),(.I e)])))] ?_
  exact Td (v:=⟨101,.two .i64 .i64 a.At e⟩) J J (Ap (K:=1) (N:=0) Tryz.func88 hI)
 refine A0<|O<|Ac 4 [] [(25,(.iface 101 (.agg [(.I s_end),(.I e)])))] ?_
 exact Td (v:=⟨101,.two .i64 .i64 s_end e⟩) J J (Ap (K:=1) (N:=0) Tryz.func88 hI)
theorem Aaw (a:Token):CP Tryz.prog 202 [(.agg (Ad a))] (Lm a) (fun(x:Bool)=>(AV.bool x)):=by
 refine C8 (n:=3) 1 Tryz.func202 J (by decide) J J fun h0 ids hI=>Bk (Al (Lm.eq_1 _) ?_)
 refine Y<|O<|Ck (v:=(.agg (Ad a))) (j:=0) hI J J J J J J J fun g=>Aa (.bool false) J Aj<|Z<|Ak ?_
 refine Y<|O<|Aa (.bool true) J Aj<|Z<|B8 (a:=true) (vs:=[(.bool true)]) Tryz.func202 hI J (.same _)
theorem Aau (kind:Int)(s_l:List Token)(s_end:Int)(h0:Af)(o0:Nat)(w:AV)(w1:AV)(w2:AV)(w3:AV)(w4:AV)(w5:AV)(w6:AV)(w7:AV)(g:Nat)(hI0:Ids h0 [o0] 1):N9 kind s_l s_end≠.bad→Bg Tryz.prog 197 [(.ptr o0 g 0 0),(.int .i64 kind),(.func (.func 202) [] [])] (hp h0 [o0] [some (.rows g 10 [[(.sl 4 (List.map Ad s_l)),(.int .i64 s_end),w,w1,w2,w3,w4,w5,w6,w7]])]) (Cq (fun a_ v h'=>v=(.agg (Ad a_))∧h'=hp h0 [o0] [some (.rows g 10 [[(.sl 4 (List.map Ad (s_l.drop 1))),(.int .i64 s_end),w,w1,w2,w3,w4,w5,w6,w7]])]) h0 (N9 kind s_l s_end)):=by
 refine Bb (n:=53) 2 Tryz.func197 J (by decide) J J hI0 J fun ids he hI=>?_
 clear hI0
 obtain rfl:ix ids 0=o0:=he 0 rfl
 clear he
 refine Bk (Al (N9.eq_1 _ _ _) ?_)
 refine Ak ?_
 refine Y<|O<|Bl (j:=1) hI J J J J Cn J fun g1=>Z<|Ak ?_
 refine Y<|Y<|O<|Ac 4 [0] [(11,(.sl 4 (List.map Ad s_l)))] ?_
 refine Aa (.I (s_l.length:Int)) J (Ay (A8 Cz))<|Ac 2 [] [(14,(.bool ((s_l.length:Int)==0)))] ?_
 refine E0 10 ((fun(b:Bool)=>(if b then R.ok true else(Es s_l 0).bind fun a1=>(Lm a1).bind fun r=>R.ok (!r)).bind (fun(b1:Bool)=>if b1 then((Bo 80 s_l s_end).bind fun _=>Ev s_l) else(Ev s_l))):Bool→R Token) (fun(b:Bool) (fr:Nat→AV) (h:Af)=>fr=A2 [(0,(.q ids 0 g)),(2,(.func (.func 202) [] [])),(6,(.q ids 1 g1)),(24,(.bool b))]∧h=hp h0 ids [(some (.rows g 10 [[(.sl 4 (List.map Ad s_l)),(.I s_end),w,w1,w2,w3,w4,w5,w6,w7]])),(some (.rows g1 4 [[(.I 0),(.str []),(.I 0),(.I 0)]])),none]) ?_ fun hJ=>Gi (fun hb1=>?_) (fun hb1=>?_)
 ·rintro b fr h ⟨rfl,rfl⟩
  refine Aa (.bool b) J Ae<|E0 10 ((fun(b1:Bool)=>if b1 then((Bo 80 s_l s_end).bind fun _=>Ev s_l) else(Ev s_l)):Bool→R Token) (fun(b1:Bool) (fr:Nat→AV) (h:Af)=>fr=A2 [(0,(.q ids 0 g)),(6,(.q ids 1 g1)),(35,(.bool b1))]∧h=hp h0 ids [(some (.rows g 10 [[(.sl 4 (List.map Ad s_l)),(.I s_end),w,w1,w2,w3,w4,w5,w6,w7]])),(some (.rows g1 4 [[(.I 0),(.str []),(.I 0),(.I 0)]])),none]) ?_ fun hJ1=>Gi (fun hb3=>?_) (fun hb3=>?_)
  ·rintro b1 fr h ⟨rfl,rfl⟩
   refine Z<|D3 (π:=Unit) (fun _=>Ev s_l) (fun _=>fun(fr:Nat→AV) (h:Af)=>fr=A2 [(0,(.q ids 0 g)),(6,(.q ids 1 g1))]∧h=hp h0 ids [(some (.rows g 10 [[(.sl 4 (List.map Ad s_l)),(.I s_end),w,w1,w2,w3,w4,w5,w6,w7]])),(some (.rows g1 4 [[(.I 0),(.str []),(.I 0),(.I 0)]])),none]) ?_ fun hJ2=>?_
   ·rintro _ fr h ⟨rfl,rfl⟩
    refine Al (Ev.eq_1 _)<|Y<|O<|Ac 4 [0] [(41,(.sl 4 (List.map Ad s_l)))] ?_
    refine Ed fun a2 hz2 hx3=>Aa (.cp (Ad a2) 0) J (Bt (Eg Cz Cn J hz2 hx3))<|Aa (.agg (Ad a2)) J (As (Dh Cn J))<|Bl (j:=2) hI J J J J Cn J fun g2=>Au (A4 (v:=(.agg (Ad a2))) hI J J J J Cn J J J J J)<|Z<|Ak ?_
    refine Y<|O<|Ac 5 [0] [(48,(.sl 4 (List.map Ad s_l))),(44,(.q ids 0 g))] ?_
    refine H1 fun hs=>Aa (.sl 4 (List.map Ad (s_l.drop 1))) J (Gr (Ol Cz Cn J hs))<|Ac 2 [] [(51,(.q ids 0 g))] ?_
    refine Au (A4 (v:=(.sl 4 (List.map Ad (s_l.drop 1)))) hI J J J J Cz J J J J J)<|Z<|Ak ?_
    refine Y<|O<|Ac 1 [2] [(52,(.agg (Ad a2)))] ?_
    refine Au (A4 (v:=(.agg (Ad a2))) hI J J J J Cn J J J J J)<|Z<|Ak ?_
    exact C9 (K:=1) (N:=2) (a:=a2) (vs:=[(.agg (Ad a2))]) [some (.rows g 10 [[(.sl 4 (List.map Ad (s_l.drop 1))),(.I s_end),w,w1,w2,w3,w4,w5,w6,w7]])] Tryz.func197 hI J (Dq (A7 hI J J J Cn J) Ew) J (.keep (.drop (.drop .nil))) (.same _) ⟨J,J⟩
   refine Co J (fun hc=>?_) (fun hc=>?_)
   ·refine O<|Aa (.q ids 0 g) J Ae<|Ao [0] hI J J (Cj 80 s_l s_end _ (ix ids 0) w w1 w2 w3 w4 w5 w6 w7 g (by exact hI.sub' J J)) J J J J J J (fun v _=>Ap (K:=1) (N:=2) Tryz.func197 hI) ?_
    rintro _ _ _ _ ⟨rfl,rfl⟩
    refine Aw [0] hI J J J ?_
    refine Aq<|Z<|Bp (hJ2 () _ _ ⟨J,J⟩)
   refine A0<|Bp (hJ2 () _ _ ⟨J,J⟩)
  ·refine Bj (t:=25) hb3 J<|Ac 10 [] [(35,(.bool true))] ?_
   refine Cd<|Dt [(0,(.q ids 0 g)),(6,(.q ids 1 g1)),(35,(.bool true))] (FI J)<|hJ1 true _ _ ⟨J,J⟩
  refine Bj (t:=25) hb3 J<|Ac 5 [0] [(30,(.sl 4 (List.map Ad s_l))),(26,(.func (.func 202) [] []))] ?_
  refine Ed fun a1 hz1 hx2=>Bx (tj:=25) (.cp (Ad a1) 0) J J J (Bt (Eg Cz Cn J hz1 hx2))<|Bx (tj:=25) (.agg (Ad a1)) J J J (As (Dh Cn J))<|Bv [(.agg (Ad a1))] J (Er (tj:=25) J J) J J ((Aaw a1) _) (fun v _=>Ap (K:=1) (N:=2) Tryz.func197 hI) fun r _=>Ac 2 [] [(35,(.bool (!r)))] ?_
  refine Cd<|Dt [(0,(.q ids 0 g)),(6,(.q ids 1 g1)),(35,(.bool (!r)))] (FI J)<|hJ1 (!r) _ _ ⟨J,J⟩
 ·refine Bj (t:=14) hb1 J<|Ac 10 [] [(24,(.bool true))] ?_
  refine Cd<|Dt [(0,(.q ids 0 g)),(2,(.func (.func 202) [] [])),(6,(.q ids 1 g1)),(24,(.bool true))] (FI J)<|hJ true _ _ ⟨J,J⟩
 refine Bj (t:=14) hb1 J<|Ac 4 [0] [(18,(.sl 4 (List.map Ad s_l)))] ?_
 refine Ed fun a hz hx1=>Bx (tj:=14) (.cp (Ad a) 0) J J J (Bt (Eg Cz Cn J hz hx1))<|Ac 5 [] [(24,(.bool (a.Kind != kind)))] ?_
 refine Cd<|Dt [(0,(.q ids 0 g)),(2,(.func (.func 202) [] [])),(6,(.q ids 1 g1)),(24,(.bool (a.Kind != kind)))] (FI J)<|hJ (a.Kind != kind) _ _ ⟨J,J⟩
theorem Cx (s_l:List Token)(s_end:Int)(h0:Af)(o0:Nat)(w:AV)(w1:AV)(w2:AV)(w3:AV)(w4:AV)(w5:AV)(w6:AV)(w7:AV)(g:Nat)(hI0:Ids h0 [o0] 1):Ca s_l s_end≠.bad→Bg Tryz.prog 167 [(.ptr o0 g 0 0)] (hp h0 [o0] [some (.rows g 10 [[(.sl 4 (List.map Ad s_l)),(.int .i64 s_end),w,w1,w2,w3,w4,w5,w6,w7]])]) (Cq (fun a_ v h'=>v=(.str a_)∧h'=hp h0 [o0] [some (.rows g 10 [[(.sl 4 (List.map Ad (s_l.drop 1))),(.int .i64 s_end),w,w1,w2,w3,w4,w5,w6,w7]])]) h0 (Ca s_l s_end)):=by
 refine Bb (n:=6) 0 Tryz.func167 J (by decide) J J hI0 J fun ids he hI=>?_
 clear hI0
 obtain rfl:ix ids 0=o0:=he 0 rfl
 clear he
 refine Bk (Al (Ca.eq_1 _ _) ?_)
 refine Y<|O<|Aa (.str []) J Aj<|Z<|Y<|O<|Aa (.q ids 0 g) J Ae ?_
 refine Ao [0] hI J J (Aau 1 s_l s_end _ (ix ids 0) w w1 w2 w3 w4 w5 w6 w7 g (by exact hI.sub' J J)) J J J J J J (fun v _=>Ap (K:=1) (N:=0) Tryz.func167 hI) ?_
 rintro r _ _ _ ⟨rfl,rfl⟩
 refine Aw [0] hI J J J ?_
 refine Aq<|Ac 2 [] [(2,(.str r.Text))] ?_
 refine Z<|Ak ?_
 exact C9 (K:=1) (N:=0) (a:=r.Text) (vs:=[(.str r.Text)]) [some (.rows g 10 [[(.sl 4 (List.map Ad (s_l.drop 1))),(.I s_end),w,w1,w2,w3,w4,w5,w6,w7]])] Tryz.func167 hI J J J (.keep .nil) (.same _) ⟨J,J⟩
theorem Aac (t:Token)(b:An):CP Tryz.prog 203 [(.agg (Ad t)),(.cp [(.str b)] 0)] (Lj t b) (fun(x:Bool)=>(AV.bool x)):=by
 refine C8 (n:=8) 1 Tryz.func203 J (by decide) J J fun h0 ids hI=>Bk (Al (Lj.eq_1 _ _) ?_)
 refine Y<|O<|Ck (v:=(.agg (Ad t))) (j:=0) hI J J J J J J J fun g=>Aa (.bool false) J Aj<|Z<|Ak ?_
 refine Y<|O<|Ac 5 [0] [(3,(.bool (t.Text==b)))] ?_
 refine Z<|B8 (a:=(t.Text==b)) (vs:=[(.bool (t.Text==b))]) Tryz.func203 hI J (.same _)
end Go.Am
