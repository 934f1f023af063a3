/- Written by shrink.py from texts of ours: comments struck, what is not reached left out, names short. -/
import Derived.Test.YtjidhdlbojmlfaaGreatDoorU6
import Derived.Test.YtjidhdlbojmlfaaGreatDoorU4
import Derived.Test.YtjidhdlbojmlfaaGreatDoorRows
import Derived.KernelRfl
import Derived.Test.YtjidhdlbojmlfaaGreatDoorCards
import Derived.Test.YtjidhdlbojmlfaaGreatDoorTie
import Derived.SevenTiedAt
import Derived.LaidMore
import Derived.LaidSub
namespace Go.Am
open Go Go.Proofs
set_option maxRecDepth 100000
set_option maxHeartbeats 4000000
set_option linter.unusedSimpArgs false
set_option linter.unusedVariables false
theorem Ve (text:Ar)(l:List Config)(most:Int)(s0_bad:Bool)(l1:List Token)(h0:Ae)(o0:Nat)(o1:Nat)(o2:Nat)(g:Nat)(v1:AV)(g1:Nat)(g2:Nat)(vH:Ay v1 o1 g1 l1.length)(hI0:Ids h0 [o0,o1,o2] 3):F5 text l most s0_bad l1≠.bad→Bh Tryz.prog 38 [(.ptr o0 g 0 0),(.str text),(.sl 3 (List.map Bf l)),(.int .i64 most),(.func (.func 39) [] [(.ptr o2 g2 0 0)])] (hp h0 [o0,o1,o2] [some (.rows g 2 [[v1,(.bool s0_bad)]]),Ah v1 g1 4 (List.map Ac l1),some (.rows g2 1 [[(.ptr o0 g 0 0)]])]) (Cs (fun a_ v h' => ∃ (v7:AV),∃ (g9:Nat),Ay v7 o1 g9 a_.2.length∧v=(.tup [])∧h'=hp h0 [o0,o1,o2] [some (.rows g 2 [[v7,(.bool a_.1)]]),Ah v7 g9 4 (List.map Ac a_.2),some (.rows g2 1 [[(.ptr o0 g 0 0)]])]) h0 (F5 text l most s0_bad l1)):=by
 refine Bb (n:=44) 1 Tryz.func38 J (by decide) J J hI0 J fun ids he hI=>?_
 clear hI0
 obtain rfl:ix ids 0=o0:=he 0 rfl
 obtain rfl:ix ids 1=o1:=he 1 rfl
 obtain rfl:ix ids 2=o2:=he 2 rfl
 clear he
 refine Bm (Ak (F5.eq_1 _ _ _ _ _) ?_)
 refine Aj ?_
 refine Y<|O<|Ab 6 [0] [(17,(.bool s0_bad)),(12,(.q ids 0 g))] ?_
 refine B8 5 [(0,(.q ids 0 g)),(1,(.str text)),(2,(.sl 3 (List.map Bf l))),(4,(.func (.func 39) [] [(.q ids 2 g2)])),(12,(.q ids 0 g)),(22,(.bool (s0_bad||(decide ((l.length:Int) > most)))))] ?_ fun hJ=>Bu s0_bad (fun hb1=>?_) (fun hb1=>?_)
 ·refine Ab 2 [] [(24,(.ptr (ix ids 0) g 0 1))] ?_
  refine Aq (Ax (v:=(.bool (s0_bad||(decide ((l.length:Int) > most))))) hI J J J J Qw J J J J J)<|Aa<|Aj ?_
  refine Y<|O<|Z (.sl 3 (List.map Bf l)) J Ad<|Z (.I (l.length:Int)) J (A0 (Bd K1))<|Z (.I 0) J Ad<|Aa<|A8 ?_
  refine Ee [(0,(.q ids 0 g)),(1,(.str text)),(4,(.func (.func 39) [] [(.q ids 2 g2)])),(25,(.sl 3 (List.map Bf l))),(26,(.I (l.length:Int))),(27,(.I 0))] (FI J)<|G0 (P:=Tryz.prog) l (fun _ a=>C2 fun fBad l2=>Hu text a fBad l2) (((C2 fun fBad l2=>.ok (fBad,l2))):(Bool×(List Token))→R (Bool×(List Token))) (fun j=>C2 fun fBad l2=>fun(fr:Nat→AV) (h:Ae) => ∃ (v2:AV),∃ (g3:Nat),Ay v2 (ix ids 1) g3 l2.length∧fr=A2 [(0,(.q ids 0 g)),(1,(.str text)),(4,(.func (.func 39) [] [(.q ids 2 g2)])),(25,(.sl 3 (List.map Bf l))),(26,(.I (l.length:Int))),(27,(.I (j:Int)))]∧h=hp h0 ids [(some (.rows g 2 [[v2,(.bool fBad)]])),(Ah v2 g3 4 (List.map Ac l2)),(some (.rows g2 1 [[(.q ids 0 g)]])),none]) ((s0_bad||(decide ((l.length:Int) > most))),l1) ?_ ?_ ?_
  ·exact⟨v1,g1,vH,J,J⟩
  ·rintro j a ha W hW ⟨fBad,l2⟩ fr h ⟨v2,g3,vH1,rfl,rfl⟩
   refine Ak (m':=Hu text a fBad l2) J (Ak (Hu.eq_1 _ _ _ _) ?_)
   refine Y<|O<|Z (.bool (decide ((j:Int)<(l.length:Int)))) J (Ba J J J)<|Aa<|Y<|Eb (t:=25) (L:=l) J fun hlim=>C0 J (Int.ofNat_lt.2 (A5 ha)) ?_
   refine Az<|Y<|A8<|Y<|O<|Z (.cp (Bf a) 0) J (Bt (Dm K1 Iu J ha))<|Z (.agg (Bf a)) J (Au (Cp Iu J)) ?_
   refine Bc (j:=3) hI J J J J Iu J fun g4=>Aq (Ax (v:=(.agg (Bf a))) hI J J J J Iu J J J J J)<|Aa<|Aj ?_
   refine Y<|Y<|O<|Ab 2 [] [(32,(.bool (!(text==[]))))] ?_
   refine Aa<|Ed (C2 fun fBad1 l3=>Hr a fBad1 l3) (C2 fun fBad1 l3=>fun(fr:Nat→AV) (h:Ae) => ∃ (v4:AV),∃ (g6:Nat),Ay v4 (ix ids 1) g6 l3.length∧fr=A2 [(0,(.q ids 0 g)),(1,(.str text)),(4,(.func (.func 39) [] [(.q ids 2 g2)])),(11,(.q ids 3 g4)),(25,(.sl 3 (List.map Bf l))),(26,(.I (l.length:Int))),(27,(.I (j:Int)))]∧h=hp h0 ids [(some (.rows g 2 [[v4,(.bool fBad1)]])),(Ah v4 g6 4 (List.map Ac l3)),(some (.rows g2 1 [[(.q ids 0 g)]])),(some (.rows g4 3 [(Bf a)]))]) ?_ fun hJ1=>?_
   ·rintro⟨fBad1,l3⟩ fr h ⟨v4,g6,vH3,rfl,rfl⟩
    refine Ak (Hr.eq_1 _ _ _)<|Y<|O<|Ab 2 [3] [(38,(.agg (Bf a))),(37,(.func (.func 39) [] [(.q ids 2 g2)]))] ?_
    refine An [2,0,1] hI J J (Z5 a fBad1 l3 _ (ix ids 2) (ix ids 0) (ix ids 1) g2 g v4 g6 vH3 (by exact hI.sub' J J)) J J J J J J (fun v _=>Ao (K:=3) (N:=1) Tryz.func38 hI) ?_
    rintro r1 _ _ _ ⟨v5,g7,vH4,rfl,rfl⟩
    refine Aw [2,0,1] hI J J J ?_
    refine Ap<|Aa<|Aj ?_
    refine O<|Z (.q ids 0 g) J Ad<|Dh (e:=rS) (L:=[[59]]) (st:=1) (rows:=[[(.str [59])]]) J D5 Cy J J J J J (.cons (RowSim.refl _) .nil) (fun x=>Hd x) J J<|An [0,1] hI J J (Df [[59]] r1.1 r1.2 _ (ix ids 0) (ix ids 1) g v5 g7 vH4 (by exact hI.sub' J J)) J J J J J J (fun v _=>Ao (K:=3) (N:=1) Tryz.func38 hI) ?_
    rintro r2 _ _ _ ⟨v6,g8,vH5,rfl,rfl⟩
    refine Aw [0,1] hI J J J ?_
    refine Ap<|Aa<|Aj ?_
    refine Bn<|O<|Ab 2 [] [(27,(.I (IntKind.wrap .i64 ((j:Int)+1))))] ?_
    refine Aa<|Eh [(some (.rows g 2 [[v6,(.bool r2.1)]])),(Ah v6 g8 4 (List.map Ac r2.2)),(some (.rows g2 1 [[(.q ids 0 g)]])),none] hI J (.keep (.keep (.keep (.drop .nil))))<|Bo (Q2 (hW (r2.1,r2.2) _ _ ⟨v6,g8,vH5,J,J⟩)) (.cons J (.cons J (.cons J (.cons J (.cons J (.cons (D1 (A5 ha) hlim) .nil))))))
   refine Ei J (fun hc=>?_) (fun hc=>?_)
   ·refine Az<|Bo (hJ1 (fBad,l2) _ _ ⟨v2,g3,vH1,J,J⟩)
   refine O<|Ab 2 [] [(34,(.str text)),(33,(.q ids 0 g))] ?_
   refine Dh (e:=rS) (L:=[text]) (st:=1) (rows:=[[(.str text)]]) J D5 Cy J J J J J (.cons (RowSim.refl _) .nil) (fun x=>Hd x) J J<|An [0,1] hI J J (Bv [text] fBad l2 _ (ix ids 0) (ix ids 1) g v2 g3 vH1 (by exact hI.sub' J J)) J J J J J J (fun v _=>Ao (K:=3) (N:=1) Tryz.func38 hI) ?_
   rintro r _ _ _ ⟨v3,g5,vH2,rfl,rfl⟩
   refine Aw [0,1] hI J J J ?_
   refine Ap<|Aa<|Aj ?_
   exact Bo (hJ1 (r.1,r.2) _ _ ⟨v3,g5,vH2,J,J⟩)
  rintro⟨fBad,l2⟩ fr h ⟨v2,g3,vH1,rfl,rfl⟩
  refine Ak (Py _ _ _)<|Y<|O<|Z (.bool (decide ((l.length:Int)<(l.length:Int)))) J (Ba J J J)<|Aa<|Y<|C1 J (Int.lt_irrefl _) ?_
  refine C7 J<|Ce (K:=3) (N:=1) (a:=(fBad,l2)) (vs:=[]) [some (.rows g 2 [[v2,(.bool fBad)]]),Ah v2 g3 4 (List.map Ac l2),some (.rows g2 1 [[(.q ids 0 g)]])] Tryz.func38 hI J J J (.keep (.keep (.keep (.keep .nil)))) (.same _) ⟨v2,g3,vH1,J,J⟩
 ·refine A4 (t:=17) hb1 J<|Ab 5 [] [(22,(.bool true))] ?_
  exact Bk hJ (.cons J (.cons J (.cons J (.cons J (.cons J (.cons (Fu hb1) .nil))))))
 refine A4 (t:=17) hb1 J<|B0 (tj:=17) (.sl 3 (List.map Bf l)) J J J Ad<|B0 (tj:=17) (.I (l.length:Int)) J J J (A0 (Bd K1))<|Ab 3 [] [(22,(.bool (decide ((l.length:Int) > most))))] ?_
 exact Bk hJ (.cons J (.cons J (.cons J (.cons J (.cons J (.cons (Fw hb1) .nil))))))
theorem Aaz (a:Segment)(s1_bad:Bool)(l:List Token)(h0:Ae)(o0:Nat)(o1:Nat)(o2:Nat)(g:Nat)(g1:Nat)(v1:AV)(g2:Nat)(vH:Ay v1 o2 g2 l.length)(hI0:Ids h0 [o0,o1,o2] 3):Nr a s1_bad l≠.bad→Bh Tryz.prog 41 [(.agg (A9 a)),(.ptr o0 g 0 0)] (hp h0 [o0,o1,o2] [some (.rows g 1 [[(.ptr o1 g1 0 0)]]),some (.rows g1 2 [[v1,(.bool s1_bad)]]),Ah v1 g2 4 (List.map Ac l)]) (Cs (fun a_ v h' => ∃ (v8:AV),∃ (g10:Nat),Ay v8 o2 g10 a_.2.length∧v=(.tup [])∧h'=hp h0 [o0,o1,o2] [some (.rows g 1 [[(.ptr o1 g1 0 0)]]),some (.rows g1 2 [[v8,(.bool a_.1)]]),Ah v8 g10 4 (List.map Ac a_.2)]) h0 (Nr a s1_bad l)):=by
 refine Bb (n:=25) 1 Tryz.func41 J (by decide) J J hI0 J fun ids he hI=>?_
 clear hI0
 obtain rfl:ix ids 0=o0:=he 0 rfl
 obtain rfl:ix ids 1=o1:=he 1 rfl
 obtain rfl:ix ids 2=o2:=he 2 rfl
 clear he
 refine Bm (Ak (Nr.eq_1 _ _ _) ?_)
 refine Aj ?_
 refine Y<|O<|Cv (v:=(.agg (A9 a))) (j:=3) hI J J J J J J J fun g3=>Aa<|Aj ?_
 refine Y<|O<|Ab 3 [0,3] [(5,(.str a.Name)),(3,(.q ids 1 g1))] ?_
 refine An [1,2] hI J J (C6 a.Name s1_bad l _ (ix ids 1) (ix ids 2) g1 v1 g2 vH (by exact hI.sub' J J)) J J J J J J (fun v _=>Ao (K:=3) (N:=1) Tryz.func41 hI) ?_
 rintro r _ _ _ ⟨v2,g4,vH1,rfl,rfl⟩
 refine Aw [1,2] hI J J J ?_
 refine Ap<|Aa<|Aj ?_
 refine Y<|O<|Ab 1 [0] [(7,(.q ids 1 g1))] ?_
 refine Dh (e:=rS) (L:=[[105,110]]) (st:=1) (rows:=[[(.str [105,110])]]) J D5 Cy J J J J J (.cons (RowSim.refl _) .nil) (fun x=>Hd x) J J<|An [1,2] hI J J (Bv [[105,110]] r.1 r.2 _ (ix ids 1) (ix ids 2) g1 v2 g4 vH1 (by exact hI.sub' J J)) J J J J J J (fun v _=>Ao (K:=3) (N:=1) Tryz.func41 hI) ?_
 rintro r1 _ _ _ ⟨v3,g5,vH2,rfl,rfl⟩
 refine Aw [1,2] hI J J J ?_
 refine Ap<|Aa<|Aj ?_
 refine Y<|O<|Ab 3 [0,3] [(12,(.str a.In)),(10,(.q ids 1 g1))] ?_
 refine An [1,2] hI J J (C6 a.In r1.1 r1.2 _ (ix ids 1) (ix ids 2) g1 v3 g5 vH2 (by exact hI.sub' J J)) J J J J J J (fun v _=>Ao (K:=3) (N:=1) Tryz.func41 hI) ?_
 rintro r2 _ _ _ ⟨v4,g6,vH3,rfl,rfl⟩
 refine Aw [1,2] hI J J J ?_
 refine Ap<|Aa<|Aj ?_
 refine Y<|O<|Ab 1 [0] [(14,(.q ids 1 g1))] ?_
 refine Dh (e:=rS) (L:=[[108,101,110,103,116,104]]) (st:=1) (rows:=[[(.str [108,101,110,103,116,104])]]) J D5 Cy J J J J J (.cons (RowSim.refl _) .nil) (fun x=>Hd x) J J<|An [1,2] hI J J (Bv [[108,101,110,103,116,104]] r2.1 r2.2 _ (ix ids 1) (ix ids 2) g1 v4 g6 vH3 (by exact hI.sub' J J)) J J J J J J (fun v _=>Ao (K:=3) (N:=1) Tryz.func41 hI) ?_
 rintro r3 _ _ _ ⟨v5,g7,vH4,rfl,rfl⟩
 refine Aw [1,2] hI J J J ?_
 refine Ap<|Aa<|Aj ?_
 refine Y<|O<|Ab 3 [0,3] [(19,(.I a.Length)),(17,(.q ids 1 g1))] ?_
 refine An [1,2] hI J J (Dr a.Length 1 4096 r3.1 r3.2 _ (ix ids 1) (ix ids 2) g1 v5 g7 vH4 (by exact hI.sub' J J)) J J J J J J (fun v _=>Ao (K:=3) (N:=1) Tryz.func41 hI) ?_
 rintro r4 _ _ _ ⟨v6,g8,vH5,rfl,rfl⟩
 refine Aw [1,2] hI J J J ?_
 refine Ap<|Aa<|Aj ?_
 refine O<|Ab 3 [0,3] [(23,(.sl 2 (List.map Cc a.Open))),(21,(.q ids 1 g1))] ?_
 refine An [1,2] hI J J (Rs [111,112,101,110] a.Open (r3.1||(!((decide (a.Length≥1))&&(decide (a.Length≤4096))))) r4 _ (ix ids 1) (ix ids 2) g1 v6 g8 vH5 (by exact hI.sub' J J)) J J J J J J (fun v _=>Ao (K:=3) (N:=1) Tryz.func41 hI) ?_
 rintro r5 _ _ _ ⟨v7,g9,vH6,rfl,rfl⟩
 refine Aw [1,2] hI J J J ?_
 refine Ap<|Aa<|Aj ?_
 exact Ce (K:=3) (N:=1) (a:=(r5.1,r5.2)) (vs:=[]) [some (.rows g 1 [[(.q ids 1 g1)]]),some (.rows g1 2 [[v7,(.bool r5.1)]]),Ah v7 g9 4 (List.map Ac r5.2)] Tryz.func41 hI J J J (.keep (.keep (.keep (.drop .nil)))) (.same _) ⟨v7,g9,vH6,J,J⟩
theorem Ul (text:Ar)(l:List Segment)(most:Int)(s0_bad:Bool)(l1:List Token)(h0:Ae)(o0:Nat)(o1:Nat)(o2:Nat)(g:Nat)(v1:AV)(g1:Nat)(g2:Nat)(vH:Ay v1 o1 g1 l1.length)(hI0:Ids h0 [o0,o1,o2] 3):Fx text l most s0_bad l1≠.bad→Bh Tryz.prog 40 [(.ptr o0 g 0 0),(.str text),(.sl 5 (List.map A9 l)),(.int .i64 most),(.func (.func 41) [] [(.ptr o2 g2 0 0)])] (hp h0 [o0,o1,o2] [some (.rows g 2 [[v1,(.bool s0_bad)]]),Ah v1 g1 4 (List.map Ac l1),some (.rows g2 1 [[(.ptr o0 g 0 0)]])]) (Cs (fun a_ v h' => ∃ (v7:AV),∃ (g9:Nat),Ay v7 o1 g9 a_.2.length∧v=(.tup [])∧h'=hp h0 [o0,o1,o2] [some (.rows g 2 [[v7,(.bool a_.1)]]),Ah v7 g9 4 (List.map Ac a_.2),some (.rows g2 1 [[(.ptr o0 g 0 0)]])]) h0 (Fx text l most s0_bad l1)):=by
 refine Bb (n:=44) 1 Tryz.func40 J (by decide) J J hI0 J fun ids he hI=>?_
 clear hI0
 obtain rfl:ix ids 0=o0:=he 0 rfl
 obtain rfl:ix ids 1=o1:=he 1 rfl
 obtain rfl:ix ids 2=o2:=he 2 rfl
 clear he
 refine Bm (Ak (Fx.eq_1 _ _ _ _ _) ?_)
 refine Aj ?_
 refine Y<|O<|Ab 6 [0] [(17,(.bool s0_bad)),(12,(.q ids 0 g))] ?_
 refine B8 5 [(0,(.q ids 0 g)),(1,(.str text)),(2,(.sl 5 (List.map A9 l))),(4,(.func (.func 41) [] [(.q ids 2 g2)])),(12,(.q ids 0 g)),(22,(.bool (s0_bad||(decide ((l.length:Int) > most)))))] ?_ fun hJ=>Bu s0_bad (fun hb1=>?_) (fun hb1=>?_)
 ·refine Ab 2 [] [(24,(.ptr (ix ids 0) g 0 1))] ?_
  refine Aq (Ax (v:=(.bool (s0_bad||(decide ((l.length:Int) > most))))) hI J J J J Qw J J J J J)<|Aa<|Aj ?_
  refine Y<|O<|Z (.sl 5 (List.map A9 l)) J Ad<|Z (.I (l.length:Int)) J (A0 (Bd K3))<|Z (.I 0) J Ad<|Aa<|A8 ?_
  refine Ee [(0,(.q ids 0 g)),(1,(.str text)),(4,(.func (.func 41) [] [(.q ids 2 g2)])),(25,(.sl 5 (List.map A9 l))),(26,(.I (l.length:Int))),(27,(.I 0))] (FI J)<|G0 (P:=Tryz.prog) l (fun _ a=>C2 fun fBad l2=>Hk text a fBad l2) (((C2 fun fBad l2=>.ok (fBad,l2))):(Bool×(List Token))→R (Bool×(List Token))) (fun j=>C2 fun fBad l2=>fun(fr:Nat→AV) (h:Ae) => ∃ (v2:AV),∃ (g3:Nat),Ay v2 (ix ids 1) g3 l2.length∧fr=A2 [(0,(.q ids 0 g)),(1,(.str text)),(4,(.func (.func 41) [] [(.q ids 2 g2)])),(25,(.sl 5 (List.map A9 l))),(26,(.I (l.length:Int))),(27,(.I (j:Int)))]∧h=hp h0 ids [(some (.rows g 2 [[v2,(.bool fBad)]])),(Ah v2 g3 4 (List.map Ac l2)),(some (.rows g2 1 [[(.q ids 0 g)]])),none]) ((s0_bad||(decide ((l.length:Int) > most))),l1) ?_ ?_ ?_
  ·exact⟨v1,g1,vH,J,J⟩
  ·rintro j a ha W hW ⟨fBad,l2⟩ fr h ⟨v2,g3,vH1,rfl,rfl⟩
   refine Ak (m':=Hk text a fBad l2) J (Ak (Hk.eq_1 _ _ _ _) ?_)
   refine Y<|O<|Z (.bool (decide ((j:Int)<(l.length:Int)))) J (Ba J J J)<|Aa<|Y<|Eb (t:=25) (L:=l) J fun hlim=>C0 J (Int.ofNat_lt.2 (A5 ha)) ?_
   refine Az<|Y<|A8<|Y<|O<|Z (.cp (A9 a) 0) J (Bt (Dm K3 Hn J ha))<|Z (.agg (A9 a)) J (Au (Cp Hn J)) ?_
   refine Bc (j:=3) hI J J J J Hn J fun g4=>Aq (Ax (v:=(.agg (A9 a))) hI J J J J Hn J J J J J)<|Aa<|Aj ?_
   refine Y<|Y<|O<|Ab 2 [] [(32,(.bool (!(text==[]))))] ?_
   refine Aa<|Ed (C2 fun fBad1 l3=>Ha a fBad1 l3) (C2 fun fBad1 l3=>fun(fr:Nat→AV) (h:Ae) => ∃ (v4:AV),∃ (g6:Nat),Ay v4 (ix ids 1) g6 l3.length∧fr=A2 [(0,(.q ids 0 g)),(1,(.str text)),(4,(.func (.func 41) [] [(.q ids 2 g2)])),(11,(.q ids 3 g4)),(25,(.sl 5 (List.map A9 l))),(26,(.I (l.length:Int))),(27,(.I (j:Int)))]∧h=hp h0 ids [(some (.rows g 2 [[v4,(.bool fBad1)]])),(Ah v4 g6 4 (List.map Ac l3)),(some (.rows g2 1 [[(.q ids 0 g)]])),(some (.rows g4 5 [(A9 a)]))]) ?_ fun hJ1=>?_
   ·rintro⟨fBad1,l3⟩ fr h ⟨v4,g6,vH3,rfl,rfl⟩
    refine Ak (Ha.eq_1 _ _ _)<|Y<|O<|Ab 2 [3] [(38,(.agg (A9 a))),(37,(.func (.func 41) [] [(.q ids 2 g2)]))] ?_
    refine An [2,0,1] hI J J (Aaz a fBad1 l3 _ (ix ids 2) (ix ids 0) (ix ids 1) g2 g v4 g6 vH3 (by exact hI.sub' J J)) J J J J J J (fun v _=>Ao (K:=3) (N:=1) Tryz.func40 hI) ?_
    rintro r1 _ _ _ ⟨v5,g7,vH4,rfl,rfl⟩
    refine Aw [2,0,1] hI J J J ?_
    refine Ap<|Aa<|Aj ?_
    refine O<|Z (.q ids 0 g) J Ad<|Dh (e:=rS) (L:=[[59]]) (st:=1) (rows:=[[(.str [59])]]) J D5 Cy J J J J J (.cons (RowSim.refl _) .nil) (fun x=>Hd x) J J<|An [0,1] hI J J (Df [[59]] r1.1 r1.2 _ (ix ids 0) (ix ids 1) g v5 g7 vH4 (by exact hI.sub' J J)) J J J J J J (fun v _=>Ao (K:=3) (N:=1) Tryz.func40 hI) ?_
    rintro r2 _ _ _ ⟨v6,g8,vH5,rfl,rfl⟩
    refine Aw [0,1] hI J J J ?_
    refine Ap<|Aa<|Aj ?_
    refine Bn<|O<|Ab 2 [] [(27,(.I (IntKind.wrap .i64 ((j:Int)+1))))] ?_
    refine Aa<|Eh [(some (.rows g 2 [[v6,(.bool r2.1)]])),(Ah v6 g8 4 (List.map Ac r2.2)),(some (.rows g2 1 [[(.q ids 0 g)]])),none] hI J (.keep (.keep (.keep (.drop .nil))))<|Bo (Q2 (hW (r2.1,r2.2) _ _ ⟨v6,g8,vH5,J,J⟩)) (.cons J (.cons J (.cons J (.cons J (.cons J (.cons (D1 (A5 ha) hlim) .nil))))))
   refine Ei J (fun hc=>?_) (fun hc=>?_)
   ·refine Az<|Bo (hJ1 (fBad,l2) _ _ ⟨v2,g3,vH1,J,J⟩)
   refine O<|Ab 2 [] [(34,(.str text)),(33,(.q ids 0 g))] ?_
   refine Dh (e:=rS) (L:=[text]) (st:=1) (rows:=[[(.str text)]]) J D5 Cy J J J J J (.cons (RowSim.refl _) .nil) (fun x=>Hd x) J J<|An [0,1] hI J J (Bv [text] fBad l2 _ (ix ids 0) (ix ids 1) g v2 g3 vH1 (by exact hI.sub' J J)) J J J J J J (fun v _=>Ao (K:=3) (N:=1) Tryz.func40 hI) ?_
   rintro r _ _ _ ⟨v3,g5,vH2,rfl,rfl⟩
   refine Aw [0,1] hI J J J ?_
   refine Ap<|Aa<|Aj ?_
   exact Bo (hJ1 (r.1,r.2) _ _ ⟨v3,g5,vH2,J,J⟩)
  rintro⟨fBad,l2⟩ fr h ⟨v2,g3,vH1,rfl,rfl⟩
  refine Ak (Py _ _ _)<|Y<|O<|Z (.bool (decide ((l.length:Int)<(l.length:Int)))) J (Ba J J J)<|Aa<|Y<|C1 J (Int.lt_irrefl _) ?_
  refine C7 J<|Ce (K:=3) (N:=1) (a:=(fBad,l2)) (vs:=[]) [some (.rows g 2 [[v2,(.bool fBad)]]),Ah v2 g3 4 (List.map Ac l2),some (.rows g2 1 [[(.q ids 0 g)]])] Tryz.func40 hI J J J (.keep (.keep (.keep (.keep .nil)))) (.same _) ⟨v2,g3,vH1,J,J⟩
 ·refine A4 (t:=17) hb1 J<|Ab 5 [] [(22,(.bool true))] ?_
  exact Bk hJ (.cons J (.cons J (.cons J (.cons J (.cons J (.cons (Fu hb1) .nil))))))
 refine A4 (t:=17) hb1 J<|B0 (tj:=17) (.sl 5 (List.map A9 l)) J J J Ad<|B0 (tj:=17) (.I (l.length:Int)) J J J (A0 (Bd K3))<|Ab 3 [] [(22,(.bool (decide ((l.length:Int) > most))))] ?_
 exact Bk hJ (.cons J (.cons J (.cons J (.cons J (.cons J (.cons (Fw hb1) .nil))))))
theorem Aal (a:Route)(s1_bad:Bool)(l:List Token)(h0:Ae)(o0:Nat)(o1:Nat)(o2:Nat)(g:Nat)(g1:Nat)(v1:AV)(g2:Nat)(vH:Ay v1 o2 g2 l.length)(hI0:Ids h0 [o0,o1,o2] 3):Nz a s1_bad l≠.bad→Bh Tryz.prog 43 [(.agg (Bp a)),(.ptr o0 g 0 0)] (hp h0 [o0,o1,o2] [some (.rows g 1 [[(.ptr o1 g1 0 0)]]),some (.rows g1 2 [[v1,(.bool s1_bad)]]),Ah v1 g2 4 (List.map Ac l)]) (Cs (fun a_ v h' => ∃ (v9:AV),∃ (g11:Nat),Ay v9 o2 g11 a_.2.length∧v=(.tup [])∧h'=hp h0 [o0,o1,o2] [some (.rows g 1 [[(.ptr o1 g1 0 0)]]),some (.rows g1 2 [[v9,(.bool a_.1)]]),Ah v9 g11 4 (List.map Ac a_.2)]) h0 (Nz a s1_bad l)):=by
 refine Bb (n:=30) 1 Tryz.func43 J (by decide) J J hI0 J fun ids he hI=>?_
 clear hI0
 obtain rfl:ix ids 0=o0:=he 0 rfl
 obtain rfl:ix ids 1=o1:=he 1 rfl
 obtain rfl:ix ids 2=o2:=he 2 rfl
 clear he
 refine Bm (Ak (Nz.eq_1 _ _ _) ?_)
 refine Aj ?_
 refine Y<|O<|Cv (v:=(.agg (Bp a))) (j:=3) hI J J J J J J J fun g3=>Aa<|Aj ?_
 refine Y<|O<|Ab 3 [0,3] [(5,(.str a.Name)),(3,(.q ids 1 g1))] ?_
 refine An [1,2] hI J J (C6 a.Name s1_bad l _ (ix ids 1) (ix ids 2) g1 v1 g2 vH (by exact hI.sub' J J)) J J J J J J (fun v _=>Ao (K:=3) (N:=1) Tryz.func43 hI) ?_
 rintro r _ _ _ ⟨v2,g4,vH1,rfl,rfl⟩
 refine Aw [1,2] hI J J J ?_
 refine Ap<|Aa<|Aj ?_
 refine Y<|O<|Ab 1 [0] [(7,(.q ids 1 g1))] ?_
 refine Dh (e:=rS) (L:=[[102,114,111,109]]) (st:=1) (rows:=[[(.str [102,114,111,109])]]) J D5 Cy J J J J J (.cons (RowSim.refl _) .nil) (fun x=>Hd x) J J<|An [1,2] hI J J (Bv [[102,114,111,109]] r.1 r.2 _ (ix ids 1) (ix ids 2) g1 v2 g4 vH1 (by exact hI.sub' J J)) J J J J J J (fun v _=>Ao (K:=3) (N:=1) Tryz.func43 hI) ?_
 rintro r1 _ _ _ ⟨v3,g5,vH2,rfl,rfl⟩
 refine Aw [1,2] hI J J J ?_
 refine Ap<|Aa<|Aj ?_
 refine Y<|O<|Ab 3 [0,3] [(12,(.str a.A)),(10,(.q ids 1 g1))] ?_
 refine An [1,2] hI J J (C6 a.A r1.1 r1.2 _ (ix ids 1) (ix ids 2) g1 v3 g5 vH2 (by exact hI.sub' J J)) J J J J J J (fun v _=>Ao (K:=3) (N:=1) Tryz.func43 hI) ?_
 rintro r2 _ _ _ ⟨v4,g6,vH3,rfl,rfl⟩
 refine Aw [1,2] hI J J J ?_
 refine Ap<|Aa<|Aj ?_
 refine Y<|O<|Ab 1 [0] [(14,(.q ids 1 g1))] ?_
 refine Dh (e:=rS) (L:=[[116,111]]) (st:=1) (rows:=[[(.str [116,111])]]) J D5 Cy J J J J J (.cons (RowSim.refl _) .nil) (fun x=>Hd x) J J<|An [1,2] hI J J (Bv [[116,111]] r2.1 r2.2 _ (ix ids 1) (ix ids 2) g1 v4 g6 vH3 (by exact hI.sub' J J)) J J J J J J (fun v _=>Ao (K:=3) (N:=1) Tryz.func43 hI) ?_
 rintro r3 _ _ _ ⟨v5,g7,vH4,rfl,rfl⟩
 refine Aw [1,2] hI J J J ?_
 refine Ap<|Aa<|Aj ?_
 refine Y<|O<|Ab 3 [0,3] [(19,(.str a.B)),(17,(.q ids 1 g1))] ?_
 refine An [1,2] hI J J (C6 a.B r3.1 r3.2 _ (ix ids 1) (ix ids 2) g1 v5 g7 vH4 (by exact hI.sub' J J)) J J J J J J (fun v _=>Ao (K:=3) (N:=1) Tryz.func43 hI) ?_
 rintro r4 _ _ _ ⟨v6,g8,vH5,rfl,rfl⟩
 refine Aw [1,2] hI J J J ?_
 refine Ap<|Aa<|Aj ?_
 refine Y<|O<|Ab 1 [0] [(21,(.q ids 1 g1))] ?_
 refine Dh (e:=rS) (L:=[[118,105,97]]) (st:=1) (rows:=[[(.str [118,105,97])]]) J D5 Cy J J J J J (.cons (RowSim.refl _) .nil) (fun x=>Hd x) J J<|An [1,2] hI J J (Bv [[118,105,97]] r4.1 r4.2 _ (ix ids 1) (ix ids 2) g1 v6 g8 vH5 (by exact hI.sub' J J)) J J J J J J (fun v _=>Ao (K:=3) (N:=1) Tryz.func43 hI) ?_
 rintro r5 _ _ _ ⟨v7,g9,vH6,rfl,rfl⟩
 refine Aw [1,2] hI J J J ?_
 refine Ap<|Aa<|Aj ?_
 refine O<|Ab 5 [0,3,0] [(28,(.func (.func 30) [(.q ids 1 g1)] [])),(26,(.sl 1 (List.map rS a.Names))),(24,(.q ids 1 g1))] ?_
 refine An [1,2] hI J J (Mx a.Names 8 r5.1 r5.2 _ (ix ids 1) (ix ids 2) g1 v7 g9 vH6 (by exact hI.sub' J J)) J J J J J J (fun v _=>Ao (K:=3) (N:=1) Tryz.func43 hI) ?_
 rintro r6 _ _ _ ⟨v8,g10,vH7,rfl,rfl⟩
 refine Aw [1,2] hI J J J ?_
 refine Ap<|Aa<|Aj ?_
 exact Ce (K:=3) (N:=1) (a:=(r6.1,r6.2)) (vs:=[]) [some (.rows g 1 [[(.q ids 1 g1)]]),some (.rows g1 2 [[v8,(.bool r6.1)]]),Ah v8 g10 4 (List.map Ac r6.2)] Tryz.func43 hI J J J (.keep (.keep (.keep (.drop .nil)))) (.same _) ⟨v8,g10,vH7,J,J⟩
theorem We (text:Ar)(l:List Route)(most:Int)(s0_bad:Bool)(l1:List Token)(h0:Ae)(o0:Nat)(o1:Nat)(o2:Nat)(g:Nat)(v1:AV)(g1:Nat)(g2:Nat)(vH:Ay v1 o1 g1 l1.length)(hI0:Ids h0 [o0,o1,o2] 3):Gj text l most s0_bad l1≠.bad→Bh Tryz.prog 42 [(.ptr o0 g 0 0),(.str text),(.sl 7 (List.map Bp l)),(.int .i64 most),(.func (.func 43) [] [(.ptr o2 g2 0 0)])] (hp h0 [o0,o1,o2] [some (.rows g 2 [[v1,(.bool s0_bad)]]),Ah v1 g1 4 (List.map Ac l1),some (.rows g2 1 [[(.ptr o0 g 0 0)]])]) (Cs (fun a_ v h' => ∃ (v7:AV),∃ (g9:Nat),Ay v7 o1 g9 a_.2.length∧v=(.tup [])∧h'=hp h0 [o0,o1,o2] [some (.rows g 2 [[v7,(.bool a_.1)]]),Ah v7 g9 4 (List.map Ac a_.2),some (.rows g2 1 [[(.ptr o0 g 0 0)]])]) h0 (Gj text l most s0_bad l1)):=by
 refine Bb (n:=44) 1 Tryz.func42 J (by decide) J J hI0 J fun ids he hI=>?_
 clear hI0
 obtain rfl:ix ids 0=o0:=he 0 rfl
 obtain rfl:ix ids 1=o1:=he 1 rfl
 obtain rfl:ix ids 2=o2:=he 2 rfl
 clear he
 refine Bm (Ak (Gj.eq_1 _ _ _ _ _) ?_)
 refine Aj ?_
 refine Y<|O<|Ab 6 [0] [(17,(.bool s0_bad)),(12,(.q ids 0 g))] ?_
 refine B8 5 [(0,(.q ids 0 g)),(1,(.str text)),(2,(.sl 7 (List.map Bp l))),(4,(.func (.func 43) [] [(.q ids 2 g2)])),(12,(.q ids 0 g)),(22,(.bool (s0_bad||(decide ((l.length:Int) > most)))))] ?_ fun hJ=>Bu s0_bad (fun hb1=>?_) (fun hb1=>?_)
 ·refine Ab 2 [] [(24,(.ptr (ix ids 0) g 0 1))] ?_
  refine Aq (Ax (v:=(.bool (s0_bad||(decide ((l.length:Int) > most))))) hI J J J J Qw J J J J J)<|Aa<|Aj ?_
  refine Y<|O<|Z (.sl 7 (List.map Bp l)) J Ad<|Z (.I (l.length:Int)) J (A0 (Bd K4))<|Z (.I 0) J Ad<|Aa<|A8 ?_
  refine Ee [(0,(.q ids 0 g)),(1,(.str text)),(4,(.func (.func 43) [] [(.q ids 2 g2)])),(25,(.sl 7 (List.map Bp l))),(26,(.I (l.length:Int))),(27,(.I 0))] (FI J)<|G0 (P:=Tryz.prog) l (fun _ a=>C2 fun fBad l2=>H2 text a fBad l2) (((C2 fun fBad l2=>.ok (fBad,l2))):(Bool×(List Token))→R (Bool×(List Token))) (fun j=>C2 fun fBad l2=>fun(fr:Nat→AV) (h:Ae) => ∃ (v2:AV),∃ (g3:Nat),Ay v2 (ix ids 1) g3 l2.length∧fr=A2 [(0,(.q ids 0 g)),(1,(.str text)),(4,(.func (.func 43) [] [(.q ids 2 g2)])),(25,(.sl 7 (List.map Bp l))),(26,(.I (l.length:Int))),(27,(.I (j:Int)))]∧h=hp h0 ids [(some (.rows g 2 [[v2,(.bool fBad)]])),(Ah v2 g3 4 (List.map Ac l2)),(some (.rows g2 1 [[(.q ids 0 g)]])),none]) ((s0_bad||(decide ((l.length:Int) > most))),l1) ?_ ?_ ?_
  ·exact⟨v1,g1,vH,J,J⟩
  ·rintro j a ha W hW ⟨fBad,l2⟩ fr h ⟨v2,g3,vH1,rfl,rfl⟩
   refine Ak (m':=H2 text a fBad l2) J (Ak (H2.eq_1 _ _ _ _) ?_)
   refine Y<|O<|Z (.bool (decide ((j:Int)<(l.length:Int)))) J (Ba J J J)<|Aa<|Y<|Eb (t:=25) (L:=l) J fun hlim=>C0 J (Int.ofNat_lt.2 (A5 ha)) ?_
   refine Az<|Y<|A8<|Y<|O<|Z (.cp (Bp a) 0) J (Bt (Dm K4 Gz J ha))<|Z (.agg (Bp a)) J (Au (Cp Gz J)) ?_
   refine Bc (j:=3) hI J J J J Gz J fun g4=>Aq (Ax (v:=(.agg (Bp a))) hI J J J J Gz J J J J J)<|Aa<|Aj ?_
   refine Y<|Y<|O<|Ab 2 [] [(32,(.bool (!(text==[]))))] ?_
   refine Aa<|Ed (C2 fun fBad1 l3=>H7 a fBad1 l3) (C2 fun fBad1 l3=>fun(fr:Nat→AV) (h:Ae) => ∃ (v4:AV),∃ (g6:Nat),Ay v4 (ix ids 1) g6 l3.length∧fr=A2 [(0,(.q ids 0 g)),(1,(.str text)),(4,(.func (.func 43) [] [(.q ids 2 g2)])),(11,(.q ids 3 g4)),(25,(.sl 7 (List.map Bp l))),(26,(.I (l.length:Int))),(27,(.I (j:Int)))]∧h=hp h0 ids [(some (.rows g 2 [[v4,(.bool fBad1)]])),(Ah v4 g6 4 (List.map Ac l3)),(some (.rows g2 1 [[(.q ids 0 g)]])),(some (.rows g4 7 [(Bp a)]))]) ?_ fun hJ1=>?_
   ·rintro⟨fBad1,l3⟩ fr h ⟨v4,g6,vH3,rfl,rfl⟩
    refine Ak (H7.eq_1 _ _ _)<|Y<|O<|Ab 2 [3] [(38,(.agg (Bp a))),(37,(.func (.func 43) [] [(.q ids 2 g2)]))] ?_
    refine An [2,0,1] hI J J (Aal a fBad1 l3 _ (ix ids 2) (ix ids 0) (ix ids 1) g2 g v4 g6 vH3 (by exact hI.sub' J J)) J J J J J J (fun v _=>Ao (K:=3) (N:=1) Tryz.func42 hI) ?_
    rintro r1 _ _ _ ⟨v5,g7,vH4,rfl,rfl⟩
    refine Aw [2,0,1] hI J J J ?_
    refine Ap<|Aa<|Aj ?_
    refine O<|Z (.q ids 0 g) J Ad<|Dh (e:=rS) (L:=[[59]]) (st:=1) (rows:=[[(.str [59])]]) J D5 Cy J J J J J (.cons (RowSim.refl _) .nil) (fun x=>Hd x) J J<|An [0,1] hI J J (Df [[59]] r1.1 r1.2 _ (ix ids 0) (ix ids 1) g v5 g7 vH4 (by exact hI.sub' J J)) J J J J J J (fun v _=>Ao (K:=3) (N:=1) Tryz.func42 hI) ?_
    rintro r2 _ _ _ ⟨v6,g8,vH5,rfl,rfl⟩
    refine Aw [0,1] hI J J J ?_
    refine Ap<|Aa<|Aj ?_
    refine Bn<|O<|Ab 2 [] [(27,(.I (IntKind.wrap .i64 ((j:Int)+1))))] ?_
    refine Aa<|Eh [(some (.rows g 2 [[v6,(.bool r2.1)]])),(Ah v6 g8 4 (List.map Ac r2.2)),(some (.rows g2 1 [[(.q ids 0 g)]])),none] hI J (.keep (.keep (.keep (.drop .nil))))<|Bo (Q2 (hW (r2.1,r2.2) _ _ ⟨v6,g8,vH5,J,J⟩)) (.cons J (.cons J (.cons J (.cons J (.cons J (.cons (D1 (A5 ha) hlim) .nil))))))
   refine Ei J (fun hc=>?_) (fun hc=>?_)
   ·refine Az<|Bo (hJ1 (fBad,l2) _ _ ⟨v2,g3,vH1,J,J⟩)
   refine O<|Ab 2 [] [(34,(.str text)),(33,(.q ids 0 g))] ?_
   refine Dh (e:=rS) (L:=[text]) (st:=1) (rows:=[[(.str text)]]) J D5 Cy J J J J J (.cons (RowSim.refl _) .nil) (fun x=>Hd x) J J<|An [0,1] hI J J (Bv [text] fBad l2 _ (ix ids 0) (ix ids 1) g v2 g3 vH1 (by exact hI.sub' J J)) J J J J J J (fun v _=>Ao (K:=3) (N:=1) Tryz.func42 hI) ?_
   rintro r _ _ _ ⟨v3,g5,vH2,rfl,rfl⟩
   refine Aw [0,1] hI J J J ?_
   refine Ap<|Aa<|Aj ?_
   exact Bo (hJ1 (r.1,r.2) _ _ ⟨v3,g5,vH2,J,J⟩)
  rintro⟨fBad,l2⟩ fr h ⟨v2,g3,vH1,rfl,rfl⟩
  refine Ak (Py _ _ _)<|Y<|O<|Z (.bool (decide ((l.length:Int)<(l.length:Int)))) J (Ba J J J)<|Aa<|Y<|C1 J (Int.lt_irrefl _) ?_
  refine C7 J<|Ce (K:=3) (N:=1) (a:=(fBad,l2)) (vs:=[]) [some (.rows g 2 [[v2,(.bool fBad)]]),Ah v2 g3 4 (List.map Ac l2),some (.rows g2 1 [[(.q ids 0 g)]])] Tryz.func42 hI J J J (.keep (.keep (.keep (.keep .nil)))) (.same _) ⟨v2,g3,vH1,J,J⟩
 ·refine A4 (t:=17) hb1 J<|Ab 5 [] [(22,(.bool true))] ?_
  exact Bk hJ (.cons J (.cons J (.cons J (.cons J (.cons J (.cons (Fu hb1) .nil))))))
 refine A4 (t:=17) hb1 J<|B0 (tj:=17) (.sl 7 (List.map Bp l)) J J J Ad<|B0 (tj:=17) (.I (l.length:Int)) J J J (A0 (Bd K4))<|Ab 3 [] [(22,(.bool (decide ((l.length:Int) > most))))] ?_
 exact Bk hJ (.cons J (.cons J (.cons J (.cons J (.cons J (.cons (Fw hb1) .nil))))))
theorem X6 (m:Mode)(s1_bad:Bool)(l:List Token)(h0:Ae)(o0:Nat)(o1:Nat)(o2:Nat)(g:Nat)(g1:Nat)(v1:AV)(g2:Nat)(vH:Ay v1 o2 g2 l.length)(hI0:Ids h0 [o0,o1,o2] 3):Jc m s1_bad l≠.bad→Bh Tryz.prog 47 [(.agg (Dv m)),(.ptr o0 g 0 0)] (hp h0 [o0,o1,o2] [some (.rows g 1 [[(.ptr o1 g1 0 0)]]),some (.rows g1 2 [[v1,(.bool s1_bad)]]),Ah v1 g2 4 (List.map Ac l)]) (Cs (fun a_ v h' => ∃ (v5:AV),∃ (g7:Nat),Ay v5 o2 g7 a_.2.length∧v=(.tup [])∧h'=hp h0 [o0,o1,o2] [some (.rows g 1 [[(.ptr o1 g1 0 0)]]),some (.rows g1 2 [[v5,(.bool a_.1)]]),Ah v5 g7 4 (List.map Ac a_.2)]) h0 (Jc m s1_bad l)):=by
 refine Bb (n:=14) 1 Tryz.func47 J (by decide) J J hI0 J fun ids he hI=>?_
 clear hI0
 obtain rfl:ix ids 0=o0:=he 0 rfl
 obtain rfl:ix ids 1=o1:=he 1 rfl
 obtain rfl:ix ids 2=o2:=he 2 rfl
 clear he
 refine Bm (Ak (Jc.eq_1 _ _ _) ?_)
 refine Aj ?_
 refine Y<|O<|Cv (v:=(.agg (Dv m))) (j:=3) hI J J J J J J J fun g3=>Aa<|Aj ?_
 refine Y<|O<|Ab 1 [0] [(3,(.q ids 1 g1))] ?_
 refine Dh (e:=rS) (L:=[[109,111,100,101]]) (st:=1) (rows:=[[(.str [109,111,100,101])]]) J D5 Cy J J J J J (.cons (RowSim.refl _) .nil) (fun x=>Hd x) J J<|An [1,2] hI J J (Bv [[109,111,100,101]] s1_bad l _ (ix ids 1) (ix ids 2) g1 v1 g2 vH (by exact hI.sub' J J)) J J J J J J (fun v _=>Ao (K:=3) (N:=1) Tryz.func47 hI) ?_
 rintro r _ _ _ ⟨v2,g4,vH1,rfl,rfl⟩
 refine Aw [1,2] hI J J J ?_
 refine Ap<|Aa<|Aj ?_
 refine Y<|O<|Ab 3 [0,3] [(8,(.str m.Name)),(6,(.q ids 1 g1))] ?_
 refine An [1,2] hI J J (C6 m.Name r.1 r.2 _ (ix ids 1) (ix ids 2) g1 v2 g4 vH1 (by exact hI.sub' J J)) J J J J J J (fun v _=>Ao (K:=3) (N:=1) Tryz.func47 hI) ?_
 rintro r1 _ _ _ ⟨v3,g5,vH2,rfl,rfl⟩
 refine Aw [1,2] hI J J J ?_
 refine Ap<|Aa<|Aj ?_
 refine O<|Ab 3 [0,3] [(12,(.I m.Places)),(10,(.q ids 1 g1))] ?_
 refine An [1,2] hI J J (Dr m.Places 0 64 r1.1 r1.2 _ (ix ids 1) (ix ids 2) g1 v3 g5 vH2 (by exact hI.sub' J J)) J J J J J J (fun v _=>Ao (K:=3) (N:=1) Tryz.func47 hI) ?_
 rintro r2 _ _ _ ⟨v4,g6,vH3,rfl,rfl⟩
 refine Aw [1,2] hI J J J ?_
 refine Ap<|Aa<|Aj ?_
 exact Ce (K:=3) (N:=1) (a:=((r1.1||(!((decide (m.Places≥0))&&(decide (m.Places≤64))))),r2)) (vs:=[]) [some (.rows g 1 [[(.q ids 1 g1)]]),some (.rows g1 2 [[v4,(.bool (r1.1||(!((decide (m.Places≥0))&&(decide (m.Places≤64))))))]]),Ah v4 g6 4 (List.map Ac r2)] Tryz.func47 hI J J J (.keep (.keep (.keep (.drop .nil)))) (.same _) ⟨v4,g6,vH3,J,J⟩
theorem X9 (l:List Mode)(most:Int)(s0_bad:Bool)(l1:List Token)(h0:Ae)(o0:Nat)(o1:Nat)(o2:Nat)(g:Nat)(v1:AV)(g1:Nat)(g2:Nat)(vH:Ay v1 o1 g1 l1.length)(hI0:Ids h0 [o0,o1,o2] 3):Lo l most s0_bad l1≠.bad→Bh Tryz.prog 46 [(.ptr o0 g 0 0),(.sl 2 (List.map Dv l)),(.int .i64 most),(.func (.func 47) [] [(.ptr o2 g2 0 0)])] (hp h0 [o0,o1,o2] [some (.rows g 2 [[v1,(.bool s0_bad)]]),Ah v1 g1 4 (List.map Ac l1),some (.rows g2 1 [[(.ptr o0 g 0 0)]])]) (Cs (fun a_ v h' => ∃ (v6:AV),∃ (g8:Nat),Ay v6 o1 g8 a_.2.length∧v=(.tup [])∧h'=hp h0 [o0,o1,o2] [some (.rows g 2 [[v6,(.bool a_.1)]]),Ah v6 g8 4 (List.map Ac a_.2),some (.rows g2 1 [[(.ptr o0 g 0 0)]])]) h0 (Lo l most s0_bad l1)):=by
 refine Bb (n:=44) 1 Tryz.func46 J (by decide) J J hI0 J fun ids he hI=>?_
 clear hI0
 obtain rfl:ix ids 0=o0:=he 0 rfl
 obtain rfl:ix ids 1=o1:=he 1 rfl
 obtain rfl:ix ids 2=o2:=he 2 rfl
 clear he
 refine Bm (Ak (Lo.eq_1 _ _ _ _) ?_)
 refine Aj ?_
 refine Y<|O<|Ab 6 [0] [(15,(.bool s0_bad)),(10,(.q ids 0 g))] ?_
 refine B8 4 [(0,(.q ids 0 g)),(1,(.sl 2 (List.map Dv l))),(2,(.I most)),(3,(.func (.func 47) [] [(.q ids 2 g2)])),(10,(.q ids 0 g)),(19,(.bool (s0_bad||((l.length:Int)==0))))] ?_ fun hJ=>Bu s0_bad (fun hb1=>?_) (fun hb1=>?_)
 ·refine Z (.bool (s0_bad||((l.length:Int)==0))) J Ad<|B8 5 [(0,(.q ids 0 g)),(1,(.sl 2 (List.map Dv l))),(3,(.func (.func 47) [] [(.q ids 2 g2)])),(10,(.q ids 0 g)),(25,(.bool ((s0_bad||((l.length:Int)==0))||(decide ((l.length:Int) > most)))))] ?_ fun hJ1=>Bu (s0_bad||((l.length:Int)==0)) (fun hb3=>?_) (fun hb3=>?_)
  ·refine Ab 2 [] [(27,(.ptr (ix ids 0) g 0 1))] ?_
   refine Aq (Ax (v:=(.bool ((s0_bad||((l.length:Int)==0))||(decide ((l.length:Int) > most))))) hI J J J J Qw J J J J J)<|Aa<|Aj ?_
   refine Y<|O<|Z (.sl 2 (List.map Dv l)) J Ad<|Z (.I (l.length:Int)) J (A0 (Bd Oc))<|Z (.I 0) J Ad<|Aa<|A8 ?_
   refine Ee [(0,(.q ids 0 g)),(3,(.func (.func 47) [] [(.q ids 2 g2)])),(28,(.sl 2 (List.map Dv l))),(29,(.I (l.length:Int))),(30,(.I 0))] (FI J)<|G0 (P:=Tryz.prog) l (fun j a=>C2 fun fBad l2=>L3 j a fBad l2) (((C2 fun fBad l2=>.ok (fBad,l2))):(Bool×(List Token))→R (Bool×(List Token))) (fun j=>C2 fun fBad l2=>fun(fr:Nat→AV) (h:Ae) => ∃ (v2:AV),∃ (g3:Nat),Ay v2 (ix ids 1) g3 l2.length∧fr=A2 [(0,(.q ids 0 g)),(3,(.func (.func 47) [] [(.q ids 2 g2)])),(28,(.sl 2 (List.map Dv l))),(29,(.I (l.length:Int))),(30,(.I (j:Int)))]∧h=hp h0 ids [(some (.rows g 2 [[v2,(.bool fBad)]])),(Ah v2 g3 4 (List.map Ac l2)),(some (.rows g2 1 [[(.q ids 0 g)]])),none]) (((s0_bad||((l.length:Int)==0))||(decide ((l.length:Int) > most))),l1) ?_ ?_ ?_
   ·exact⟨v1,g1,vH,J,J⟩
   ·rintro j a ha W hW ⟨fBad,l2⟩ fr h ⟨v2,g3,vH1,rfl,rfl⟩
    refine Ak (m':=L3 j a fBad l2) J (Ak (L3.eq_1 _ _ _ _) ?_)
    refine Y<|O<|Z (.bool (decide ((j:Int)<(l.length:Int)))) J (Ba J J J)<|Aa<|Y<|Eb (t:=28) (L:=l) J fun hlim=>C0 J (Int.ofNat_lt.2 (A5 ha)) ?_
    refine Az<|Y<|A8<|Y<|O<|Z (.I (j:Int)) J Ad<|Z (.cp (Dv a) 0) J (Bt (Dm Oc Pu J ha)) ?_
    refine Z (.agg (Dv a)) J (Au (Cp Pu J))<|Bc (j:=3) hI J J J J Pu J fun g4=>Z (.I (j:Int)) J Al<|Aq (Ax (v:=(.agg (Dv a))) hI J J J J Pu J J J J J)<|Aa<|Aj ?_
    refine Y<|Y<|O<|Ab 2 [] [(36,(.bool (decide ((j:Int) > 0))))] ?_
    refine Aa<|Ed (C2 fun fBad1 l3=>L0 a fBad1 l3) (C2 fun fBad1 l3=>fun(fr:Nat→AV) (h:Ae) => ∃ (v4:AV),∃ (g6:Nat),Ay v4 (ix ids 1) g6 l3.length∧fr=A2 [(0,(.q ids 0 g)),(3,(.func (.func 47) [] [(.q ids 2 g2)])),(9,(.q ids 3 g4)),(28,(.sl 2 (List.map Dv l))),(29,(.I (l.length:Int))),(30,(.I (j:Int)))]∧h=hp h0 ids [(some (.rows g 2 [[v4,(.bool fBad1)]])),(Ah v4 g6 4 (List.map Ac l3)),(some (.rows g2 1 [[(.q ids 0 g)]])),(some (.rows g4 2 [(Dv a)]))]) ?_ fun hJ2=>?_
    ·rintro⟨fBad1,l3⟩ fr h ⟨v4,g6,vH3,rfl,rfl⟩
     refine Ak (L0.eq_1 _ _ _)<|O<|Ab 2 [3] [(41,(.agg (Dv a))),(40,(.func (.func 47) [] [(.q ids 2 g2)]))] ?_
     refine An [2,0,1] hI J J (X6 a fBad1 l3 _ (ix ids 2) (ix ids 0) (ix ids 1) g2 g v4 g6 vH3 (by exact hI.sub' J J)) J J J J J J (fun v _=>Ao (K:=3) (N:=1) Tryz.func46 hI) ?_
     rintro r1 _ _ _ ⟨v5,g7,vH4,rfl,rfl⟩
     refine Aw [2,0,1] hI J J J ?_
     refine Ap<|Aa<|Aj ?_
     refine Bn<|O<|Ab 2 [] [(30,(.I (IntKind.wrap .i64 ((j:Int)+1))))] ?_
     refine Aa<|Eh [(some (.rows g 2 [[v5,(.bool r1.1)]])),(Ah v5 g7 4 (List.map Ac r1.2)),(some (.rows g2 1 [[(.q ids 0 g)]])),none] hI J (.keep (.keep (.keep (.drop .nil))))<|Bo (Q2 (hW (r1.1,r1.2) _ _ ⟨v5,g7,vH4,J,J⟩)) (.cons J (.cons J (.cons J (.cons J (.cons (D1 (A5 ha) hlim) .nil)))))
    refine Qv J (fun hc=>?_) (fun hc=>?_)
    ·refine O<|Z (.q ids 0 g) J Ad<|Dh (e:=rS) (L:=[[44]]) (st:=1) (rows:=[[(.str [44])]]) J D5 Cy J J J J J (.cons (RowSim.refl _) .nil) (fun x=>Hd x) J J<|An [0,1] hI J J (Df [[44]] fBad l2 _ (ix ids 0) (ix ids 1) g v2 g3 vH1 (by exact hI.sub' J J)) J J J J J J (fun v _=>Ao (K:=3) (N:=1) Tryz.func46 hI) ?_
     rintro r _ _ _ ⟨v3,g5,vH2,rfl,rfl⟩
     refine Aw [0,1] hI J J J ?_
     refine Ap<|Aa<|Aj ?_
     exact Bo (hJ2 (r.1,r.2) _ _ ⟨v3,g5,vH2,J,J⟩)
    refine Az<|Bo (hJ2 (fBad,l2) _ _ ⟨v2,g3,vH1,J,J⟩)
   rintro⟨fBad,l2⟩ fr h ⟨v2,g3,vH1,rfl,rfl⟩
   refine Ak (Py _ _ _)<|Y<|O<|Z (.bool (decide ((l.length:Int)<(l.length:Int)))) J (Ba J J J)<|Aa<|Y<|C1 J (Int.lt_irrefl _) ?_
   refine C7 J<|Ce (K:=3) (N:=1) (a:=(fBad,l2)) (vs:=[]) [some (.rows g 2 [[v2,(.bool fBad)]]),Ah v2 g3 4 (List.map Ac l2),some (.rows g2 1 [[(.q ids 0 g)]])] Tryz.func46 hI J J J (.keep (.keep (.keep (.keep .nil)))) (.same _) ⟨v2,g3,vH1,J,J⟩
  ·refine A4 (t:=20) hb3 J<|Ab 5 [] [(25,(.bool true))] ?_
   exact Bk hJ1 (.cons J (.cons J (.cons J (.cons J (.cons (Fu hb3) .nil)))))
  refine A4 (t:=20) hb3 J<|B0 (tj:=20) (.sl 2 (List.map Dv l)) J J J Ad<|B0 (tj:=20) (.I (l.length:Int)) J J J (A0 (Bd Oc))<|Ab 3 [] [(25,(.bool (decide ((l.length:Int) > most))))] ?_
  exact Bk hJ1 (.cons J (.cons J (.cons J (.cons J (.cons (Fw hb3) .nil)))))
 ·refine A4 (t:=15) hb1 J<|Ab 4 [] [(19,(.bool true))] ?_
  exact Bk hJ (.cons J (.cons J (.cons J (.cons J (.cons J (.cons (Fu hb1) .nil))))))
 refine A4 (t:=15) hb1 J<|B0 (tj:=15) (.sl 2 (List.map Dv l)) J J J Ad<|B0 (tj:=15) (.I (l.length:Int)) J J J (A0 (Bd Oc))<|Ab 2 [] [(19,(.bool ((l.length:Int)==0)))] ?_
 exact Bk hJ (.cons J (.cons J (.cons J (.cons J (.cons J (.cons (Fw hb1) .nil))))))
theorem Aak (a:Airport)(s1_bad:Bool)(l:List Token)(h0:Ae)(o0:Nat)(o1:Nat)(o2:Nat)(g:Nat)(g1:Nat)(v1:AV)(g2:Nat)(vH:Ay v1 o2 g2 l.length)(hI0:Ids h0 [o0,o1,o2] 3):Nv a s1_bad l≠.bad→Bh Tryz.prog 45 [(.agg (A6 a)),(.ptr o0 g 0 0)] (hp h0 [o0,o1,o2] [some (.rows g 1 [[(.ptr o1 g1 0 0)]]),some (.rows g1 2 [[v1,(.bool s1_bad)]]),Ah v1 g2 4 (List.map Ac l)]) (Cs (fun a_ v h' => ∃ (v4:AV),∃ (g6:Nat),Ay v4 o2 g6 a_.2.length∧v=(.tup [])∧h'=hp h0 [o0,o1,o2] [some (.rows g 1 [[(.ptr o1 g1 0 0)]]),some (.rows g1 2 [[v4,(.bool a_.1)]]),Ah v4 g6 4 (List.map Ac a_.2)]) h0 (Nv a s1_bad l)):=by
 refine Bb (n:=12) 1 Tryz.func45 J (by decide) J J hI0 J fun ids he hI=>?_
 clear hI0
 obtain rfl:ix ids 0=o0:=he 0 rfl
 obtain rfl:ix ids 1=o1:=he 1 rfl
 obtain rfl:ix ids 2=o2:=he 2 rfl
 clear he
 refine Bm (Ak (Nv.eq_1 _ _ _) ?_)
 refine Aj ?_
 refine Y<|O<|Cv (v:=(.agg (A6 a))) (j:=3) hI J J J J J J J fun g3=>Aa<|Aj ?_
 refine Y<|O<|Ab 3 [0,3] [(5,(.str a.Name)),(3,(.q ids 1 g1))] ?_
 refine An [1,2] hI J J (C6 a.Name s1_bad l _ (ix ids 1) (ix ids 2) g1 v1 g2 vH (by exact hI.sub' J J)) J J J J J J (fun v _=>Ao (K:=3) (N:=1) Tryz.func45 hI) ?_
 rintro r _ _ _ ⟨v2,g4,vH1,rfl,rfl⟩
 refine Aw [1,2] hI J J J ?_
 refine Ap<|Aa<|Aj ?_
 refine O<|Ab 4 [0,3] [(10,(.func (.func 47) [] [(.q ids 0 g)])),(9,(.sl 2 (List.map Dv a.Modes))),(7,(.q ids 1 g1))] ?_
 refine An [1,2,0] hI J J (X9 a.Modes 16 r.1 r.2 _ (ix ids 1) (ix ids 2) (ix ids 0) g1 v2 g4 g vH1 (by exact hI.sub' J J)) J J J J J J (fun v _=>Ao (K:=3) (N:=1) Tryz.func45 hI) ?_
 rintro r1 _ _ _ ⟨v3,g5,vH2,rfl,rfl⟩
 refine Aw [1,2,0] hI J J J ?_
 refine Ap<|Aa<|Aj ?_
 exact Ce (K:=3) (N:=1) (a:=(r1.1,r1.2)) (vs:=[]) [some (.rows g 1 [[(.q ids 1 g1)]]),some (.rows g1 2 [[v3,(.bool r1.1)]]),Ah v3 g5 4 (List.map Ac r1.2)] Tryz.func45 hI J J J (.keep (.keep (.keep (.drop .nil)))) (.same _) ⟨v3,g5,vH2,J,J⟩
theorem Us (text:Ar)(l:List Airport)(most:Int)(s0_bad:Bool)(l1:List Token)(h0:Ae)(o0:Nat)(o1:Nat)(o2:Nat)(g:Nat)(v1:AV)(g1:Nat)(g2:Nat)(vH:Ay v1 o1 g1 l1.length)(hI0:Ids h0 [o0,o1,o2] 3):Ft text l most s0_bad l1≠.bad→Bh Tryz.prog 44 [(.ptr o0 g 0 0),(.str text),(.sl 2 (List.map A6 l)),(.int .i64 most),(.func (.func 45) [] [(.ptr o2 g2 0 0)])] (hp h0 [o0,o1,o2] [some (.rows g 2 [[v1,(.bool s0_bad)]]),Ah v1 g1 4 (List.map Ac l1),some (.rows g2 1 [[(.ptr o0 g 0 0)]])]) (Cs (fun a_ v h' => ∃ (v7:AV),∃ (g9:Nat),Ay v7 o1 g9 a_.2.length∧v=(.tup [])∧h'=hp h0 [o0,o1,o2] [some (.rows g 2 [[v7,(.bool a_.1)]]),Ah v7 g9 4 (List.map Ac a_.2),some (.rows g2 1 [[(.ptr o0 g 0 0)]])]) h0 (Ft text l most s0_bad l1)):=by
 refine Bb (n:=44) 1 Tryz.func44 J (by decide) J J hI0 J fun ids he hI=>?_
 clear hI0
 obtain rfl:ix ids 0=o0:=he 0 rfl
 obtain rfl:ix ids 1=o1:=he 1 rfl
 obtain rfl:ix ids 2=o2:=he 2 rfl
 clear he
 refine Bm (Ak (Ft.eq_1 _ _ _ _ _) ?_)
 refine Aj ?_
 refine Y<|O<|Ab 6 [0] [(17,(.bool s0_bad)),(12,(.q ids 0 g))] ?_
 refine B8 5 [(0,(.q ids 0 g)),(1,(.str text)),(2,(.sl 2 (List.map A6 l))),(4,(.func (.func 45) [] [(.q ids 2 g2)])),(12,(.q ids 0 g)),(22,(.bool (s0_bad||(decide ((l.length:Int) > most)))))] ?_ fun hJ=>Bu s0_bad (fun hb1=>?_) (fun hb1=>?_)
 ·refine Ab 2 [] [(24,(.ptr (ix ids 0) g 0 1))] ?_
  refine Aq (Ax (v:=(.bool (s0_bad||(decide ((l.length:Int) > most))))) hI J J J J Qw J J J J J)<|Aa<|Aj ?_
  refine Y<|O<|Z (.sl 2 (List.map A6 l)) J Ad<|Z (.I (l.length:Int)) J (A0 (Bd Oe))<|Z (.I 0) J Ad<|Aa<|A8 ?_
  refine Ee [(0,(.q ids 0 g)),(1,(.str text)),(4,(.func (.func 45) [] [(.q ids 2 g2)])),(25,(.sl 2 (List.map A6 l))),(26,(.I (l.length:Int))),(27,(.I 0))] (FI J)<|G0 (P:=Tryz.prog) l (fun _ a=>C2 fun fBad l2=>Hh text a fBad l2) (((C2 fun fBad l2=>.ok (fBad,l2))):(Bool×(List Token))→R (Bool×(List Token))) (fun j=>C2 fun fBad l2=>fun(fr:Nat→AV) (h:Ae) => ∃ (v2:AV),∃ (g3:Nat),Ay v2 (ix ids 1) g3 l2.length∧fr=A2 [(0,(.q ids 0 g)),(1,(.str text)),(4,(.func (.func 45) [] [(.q ids 2 g2)])),(25,(.sl 2 (List.map A6 l))),(26,(.I (l.length:Int))),(27,(.I (j:Int)))]∧h=hp h0 ids [(some (.rows g 2 [[v2,(.bool fBad)]])),(Ah v2 g3 4 (List.map Ac l2)),(some (.rows g2 1 [[(.q ids 0 g)]])),none]) ((s0_bad||(decide ((l.length:Int) > most))),l1) ?_ ?_ ?_
  ·exact⟨v1,g1,vH,J,J⟩
  ·rintro j a ha W hW ⟨fBad,l2⟩ fr h ⟨v2,g3,vH1,rfl,rfl⟩
   refine Ak (m':=Hh text a fBad l2) J (Ak (Hh.eq_1 _ _ _ _) ?_)
   refine Y<|O<|Z (.bool (decide ((j:Int)<(l.length:Int)))) J (Ba J J J)<|Aa<|Y<|Eb (t:=25) (L:=l) J fun hlim=>C0 J (Int.ofNat_lt.2 (A5 ha)) ?_
   refine Az<|Y<|A8<|Y<|O<|Z (.cp (A6 a) 0) J (Bt (Dm Oe J3 J ha))<|Z (.agg (A6 a)) J (Au (Cp J3 J)) ?_
   refine Bc (j:=3) hI J J J J J3 J fun g4=>Aq (Ax (v:=(.agg (A6 a))) hI J J J J J3 J J J J J)<|Aa<|Aj ?_
   refine Y<|Y<|O<|Ab 2 [] [(32,(.bool (!(text==[]))))] ?_
   refine Aa<|Ed (C2 fun fBad1 l3=>Hb a fBad1 l3) (C2 fun fBad1 l3=>fun(fr:Nat→AV) (h:Ae) => ∃ (v4:AV),∃ (g6:Nat),Ay v4 (ix ids 1) g6 l3.length∧fr=A2 [(0,(.q ids 0 g)),(1,(.str text)),(4,(.func (.func 45) [] [(.q ids 2 g2)])),(11,(.q ids 3 g4)),(25,(.sl 2 (List.map A6 l))),(26,(.I (l.length:Int))),(27,(.I (j:Int)))]∧h=hp h0 ids [(some (.rows g 2 [[v4,(.bool fBad1)]])),(Ah v4 g6 4 (List.map Ac l3)),(some (.rows g2 1 [[(.q ids 0 g)]])),(some (.rows g4 2 [(A6 a)]))]) ?_ fun hJ1=>?_
   ·rintro⟨fBad1,l3⟩ fr h ⟨v4,g6,vH3,rfl,rfl⟩
    refine Ak (Hb.eq_1 _ _ _)<|Y<|O<|Ab 2 [3] [(38,(.agg (A6 a))),(37,(.func (.func 45) [] [(.q ids 2 g2)]))] ?_
    refine An [2,0,1] hI J J (Aak a fBad1 l3 _ (ix ids 2) (ix ids 0) (ix ids 1) g2 g v4 g6 vH3 (by exact hI.sub' J J)) J J J J J J (fun v _=>Ao (K:=3) (N:=1) Tryz.func44 hI) ?_
    rintro r1 _ _ _ ⟨v5,g7,vH4,rfl,rfl⟩
    refine Aw [2,0,1] hI J J J ?_
    refine Ap<|Aa<|Aj ?_
    refine O<|Z (.q ids 0 g) J Ad<|Dh (e:=rS) (L:=[[59]]) (st:=1) (rows:=[[(.str [59])]]) J D5 Cy J J J J J (.cons (RowSim.refl _) .nil) (fun x=>Hd x) J J<|An [0,1] hI J J (Df [[59]] r1.1 r1.2 _ (ix ids 0) (ix ids 1) g v5 g7 vH4 (by exact hI.sub' J J)) J J J J J J (fun v _=>Ao (K:=3) (N:=1) Tryz.func44 hI) ?_
    rintro r2 _ _ _ ⟨v6,g8,vH5,rfl,rfl⟩
    refine Aw [0,1] hI J J J ?_
    refine Ap<|Aa<|Aj ?_
    refine Bn<|O<|Ab 2 [] [(27,(.I (IntKind.wrap .i64 ((j:Int)+1))))] ?_
    refine Aa<|Eh [(some (.rows g 2 [[v6,(.bool r2.1)]])),(Ah v6 g8 4 (List.map Ac r2.2)),(some (.rows g2 1 [[(.q ids 0 g)]])),none] hI J (.keep (.keep (.keep (.drop .nil))))<|Bo (Q2 (hW (r2.1,r2.2) _ _ ⟨v6,g8,vH5,J,J⟩)) (.cons J (.cons J (.cons J (.cons J (.cons J (.cons (D1 (A5 ha) hlim) .nil))))))
   refine Ei J (fun hc=>?_) (fun hc=>?_)
   ·refine Az<|Bo (hJ1 (fBad,l2) _ _ ⟨v2,g3,vH1,J,J⟩)
   refine O<|Ab 2 [] [(34,(.str text)),(33,(.q ids 0 g))] ?_
   refine Dh (e:=rS) (L:=[text]) (st:=1) (rows:=[[(.str text)]]) J D5 Cy J J J J J (.cons (RowSim.refl _) .nil) (fun x=>Hd x) J J<|An [0,1] hI J J (Bv [text] fBad l2 _ (ix ids 0) (ix ids 1) g v2 g3 vH1 (by exact hI.sub' J J)) J J J J J J (fun v _=>Ao (K:=3) (N:=1) Tryz.func44 hI) ?_
   rintro r _ _ _ ⟨v3,g5,vH2,rfl,rfl⟩
   refine Aw [0,1] hI J J J ?_
   refine Ap<|Aa<|Aj ?_
   exact Bo (hJ1 (r.1,r.2) _ _ ⟨v3,g5,vH2,J,J⟩)
  rintro⟨fBad,l2⟩ fr h ⟨v2,g3,vH1,rfl,rfl⟩
  refine Ak (Py _ _ _)<|Y<|O<|Z (.bool (decide ((l.length:Int)<(l.length:Int)))) J (Ba J J J)<|Aa<|Y<|C1 J (Int.lt_irrefl _) ?_
  refine C7 J<|Ce (K:=3) (N:=1) (a:=(fBad,l2)) (vs:=[]) [some (.rows g 2 [[v2,(.bool fBad)]]),Ah v2 g3 4 (List.map Ac l2),some (.rows g2 1 [[(.q ids 0 g)]])] Tryz.func44 hI J J J (.keep (.keep (.keep (.keep .nil)))) (.same _) ⟨v2,g3,vH1,J,J⟩
 ·refine A4 (t:=17) hb1 J<|Ab 5 [] [(22,(.bool true))] ?_
  exact Bk hJ (.cons J (.cons J (.cons J (.cons J (.cons J (.cons (Fu hb1) .nil))))))
 refine A4 (t:=17) hb1 J<|B0 (tj:=17) (.sl 2 (List.map A6 l)) J J J Ad<|B0 (tj:=17) (.I (l.length:Int)) J J J (A0 (Bd Oe))<|Ab 3 [] [(22,(.bool (decide ((l.length:Int) > most))))] ?_
 exact Bk hJ (.cons J (.cons J (.cons J (.cons J (.cons J (.cons (Fw hb1) .nil))))))
theorem Aaj (a:Class)(s1_bad:Bool)(l:List Token)(h0:Ae)(o0:Nat)(o1:Nat)(o2:Nat)(g:Nat)(g1:Nat)(v1:AV)(g2:Nat)(vH:Ay v1 o2 g2 l.length)(hI0:Ids h0 [o0,o1,o2] 3):Ns a s1_bad l≠.bad→Bh Tryz.prog 49 [(.agg (Bx a)),(.ptr o0 g 0 0)] (hp h0 [o0,o1,o2] [some (.rows g 1 [[(.ptr o1 g1 0 0)]]),some (.rows g1 2 [[v1,(.bool s1_bad)]]),Ah v1 g2 4 (List.map Ac l)]) (Cs (fun a_ v h' => ∃ (v9:AV),∃ (g11:Nat),Ay v9 o2 g11 a_.2.length∧v=(.tup [])∧h'=hp h0 [o0,o1,o2] [some (.rows g 1 [[(.ptr o1 g1 0 0)]]),some (.rows g1 2 [[v9,(.bool a_.1)]]),Ah v9 g11 4 (List.map Ac a_.2)]) h0 (Ns a s1_bad l)):=by
 refine Bb (n:=30) 1 Tryz.func49 J (by decide) J J hI0 J fun ids he hI=>?_
 clear hI0
 obtain rfl:ix ids 0=o0:=he 0 rfl
 obtain rfl:ix ids 1=o1:=he 1 rfl
 obtain rfl:ix ids 2=o2:=he 2 rfl
 clear he
 refine Bm (Ak (Ns.eq_1 _ _ _) ?_)
 refine Aj ?_
 refine Y<|O<|Cv (v:=(.agg (Bx a))) (j:=3) hI J J J J J J J fun g3=>Aa<|Aj ?_
 refine Y<|O<|Ab 3 [0,3] [(5,(.str a.Name)),(3,(.q ids 1 g1))] ?_
 refine An [1,2] hI J J (C6 a.Name s1_bad l _ (ix ids 1) (ix ids 2) g1 v1 g2 vH (by exact hI.sub' J J)) J J J J J J (fun v _=>Ao (K:=3) (N:=1) Tryz.func49 hI) ?_
 rintro r _ _ _ ⟨v2,g4,vH1,rfl,rfl⟩
 refine Aw [1,2] hI J J J ?_
 refine Ap<|Aa<|Aj ?_
 refine Y<|O<|Ab 1 [0] [(7,(.q ids 1 g1))] ?_
 refine Dh (e:=rS) (L:=[[115,108,111,119]]) (st:=1) (rows:=[[(.str [115,108,111,119])]]) J D5 Cy J J J J J (.cons (RowSim.refl _) .nil) (fun x=>Hd x) J J<|An [1,2] hI J J (Bv [[115,108,111,119]] r.1 r.2 _ (ix ids 1) (ix ids 2) g1 v2 g4 vH1 (by exact hI.sub' J J)) J J J J J J (fun v _=>Ao (K:=3) (N:=1) Tryz.func49 hI) ?_
 rintro r1 _ _ _ ⟨v3,g5,vH2,rfl,rfl⟩
 refine Aw [1,2] hI J J J ?_
 refine Ap<|Aa<|Aj ?_
 refine Y<|O<|Ab 3 [0,3] [(12,(.I a.Slow)),(10,(.q ids 1 g1))] ?_
 refine An [1,2] hI J J (Dr a.Slow 1 64 r1.1 r1.2 _ (ix ids 1) (ix ids 2) g1 v3 g5 vH2 (by exact hI.sub' J J)) J J J J J J (fun v _=>Ao (K:=3) (N:=1) Tryz.func49 hI) ?_
 rintro r2 _ _ _ ⟨v4,g6,vH3,rfl,rfl⟩
 refine Aw [1,2] hI J J J ?_
 refine Ap<|Aa<|Aj ?_
 refine Y<|O<|Ab 1 [0] [(14,(.q ids 1 g1))] ?_
 refine Dh (e:=rS) (L:=[[102,97,115,116]]) (st:=1) (rows:=[[(.str [102,97,115,116])]]) J D5 Cy J J J J J (.cons (RowSim.refl _) .nil) (fun x=>Hd x) J J<|An [1,2] hI J J (Bv [[102,97,115,116]] (r1.1||(!((decide (a.Slow≥1))&&(decide (a.Slow≤64))))) r2 _ (ix ids 1) (ix ids 2) g1 v4 g6 vH3 (by exact hI.sub' J J)) J J J J J J (fun v _=>Ao (K:=3) (N:=1) Tryz.func49 hI) ?_
 rintro r3 _ _ _ ⟨v5,g7,vH4,rfl,rfl⟩
 refine Aw [1,2] hI J J J ?_
 refine Ap<|Aa<|Aj ?_
 refine Y<|O<|Ab 5 [0,3,3] [(21,(.I a.Slow)),(19,(.I a.Fast)),(17,(.q ids 1 g1))] ?_
 refine An [1,2] hI J J (Dr a.Fast a.Slow 64 r3.1 r3.2 _ (ix ids 1) (ix ids 2) g1 v5 g7 vH4 (by exact hI.sub' J J)) J J J J J J (fun v _=>Ao (K:=3) (N:=1) Tryz.func49 hI) ?_
 rintro r4 _ _ _ ⟨v6,g8,vH5,rfl,rfl⟩
 refine Aw [1,2] hI J J J ?_
 refine Ap<|Aa<|Aj ?_
 refine Y<|O<|Ab 1 [0] [(23,(.q ids 1 g1))] ?_
 refine Dh (e:=rS) (L:=[[112,108,97,99,101,115]]) (st:=1) (rows:=[[(.str [112,108,97,99,101,115])]]) J D5 Cy J J J J J (.cons (RowSim.refl _) .nil) (fun x=>Hd x) J J<|An [1,2] hI J J (Bv [[112,108,97,99,101,115]] (r3.1||(!((decide (a.Fast≥a.Slow))&&(decide (a.Fast≤64))))) r4 _ (ix ids 1) (ix ids 2) g1 v6 g8 vH5 (by exact hI.sub' J J)) J J J J J J (fun v _=>Ao (K:=3) (N:=1) Tryz.func49 hI) ?_
 rintro r5 _ _ _ ⟨v7,g9,vH6,rfl,rfl⟩
 refine Aw [1,2] hI J J J ?_
 refine Ap<|Aa<|Aj ?_
 refine O<|Ab 3 [0,3] [(28,(.I a.Places)),(26,(.q ids 1 g1))] ?_
 refine An [1,2] hI J J (Dr a.Places 1 8 r5.1 r5.2 _ (ix ids 1) (ix ids 2) g1 v7 g9 vH6 (by exact hI.sub' J J)) J J J J J J (fun v _=>Ao (K:=3) (N:=1) Tryz.func49 hI) ?_
 rintro r6 _ _ _ ⟨v8,g10,vH7,rfl,rfl⟩
 refine Aw [1,2] hI J J J ?_
 refine Ap<|Aa<|Aj ?_
 exact Ce (K:=3) (N:=1) (a:=((r5.1||(!((decide (a.Places≥1))&&(decide (a.Places≤8))))),r6)) (vs:=[]) [some (.rows g 1 [[(.q ids 1 g1)]]),some (.rows g1 2 [[v8,(.bool (r5.1||(!((decide (a.Places≥1))&&(decide (a.Places≤8))))))]]),Ah v8 g10 4 (List.map Ac r6)] Tryz.func49 hI J J J (.keep (.keep (.keep (.drop .nil)))) (.same _) ⟨v8,g10,vH7,J,J⟩
theorem Wb (text:Ar)(l:List Class)(most:Int)(s0_bad:Bool)(l1:List Token)(h0:Ae)(o0:Nat)(o1:Nat)(o2:Nat)(g:Nat)(v1:AV)(g1:Nat)(g2:Nat)(vH:Ay v1 o1 g1 l1.length)(hI0:Ids h0 [o0,o1,o2] 3):Gh text l most s0_bad l1≠.bad→Bh Tryz.prog 48 [(.ptr o0 g 0 0),(.str text),(.sl 4 (List.map Bx l)),(.int .i64 most),(.func (.func 49) [] [(.ptr o2 g2 0 0)])] (hp h0 [o0,o1,o2] [some (.rows g 2 [[v1,(.bool s0_bad)]]),Ah v1 g1 4 (List.map Ac l1),some (.rows g2 1 [[(.ptr o0 g 0 0)]])]) (Cs (fun a_ v h' => ∃ (v7:AV),∃ (g9:Nat),Ay v7 o1 g9 a_.2.length∧v=(.tup [])∧h'=hp h0 [o0,o1,o2] [some (.rows g 2 [[v7,(.bool a_.1)]]),Ah v7 g9 4 (List.map Ac a_.2),some (.rows g2 1 [[(.ptr o0 g 0 0)]])]) h0 (Gh text l most s0_bad l1)):=by
 refine Bb (n:=44) 1 Tryz.func48 J (by decide) J J hI0 J fun ids he hI=>?_
 clear hI0
 obtain rfl:ix ids 0=o0:=he 0 rfl
 obtain rfl:ix ids 1=o1:=he 1 rfl
 obtain rfl:ix ids 2=o2:=he 2 rfl
 clear he
 refine Bm (Ak (Gh.eq_1 _ _ _ _ _) ?_)
 refine Aj ?_
 refine Y<|O<|Ab 6 [0] [(17,(.bool s0_bad)),(12,(.q ids 0 g))] ?_
 refine B8 5 [(0,(.q ids 0 g)),(1,(.str text)),(2,(.sl 4 (List.map Bx l))),(4,(.func (.func 49) [] [(.q ids 2 g2)])),(12,(.q ids 0 g)),(22,(.bool (s0_bad||(decide ((l.length:Int) > most)))))] ?_ fun hJ=>Bu s0_bad (fun hb1=>?_) (fun hb1=>?_)
 ·refine Ab 2 [] [(24,(.ptr (ix ids 0) g 0 1))] ?_
  refine Aq (Ax (v:=(.bool (s0_bad||(decide ((l.length:Int) > most))))) hI J J J J Qw J J J J J)<|Aa<|Aj ?_
  refine Y<|O<|Z (.sl 4 (List.map Bx l)) J Ad<|Z (.I (l.length:Int)) J (A0 (Bd My))<|Z (.I 0) J Ad<|Aa<|A8 ?_
  refine Ee [(0,(.q ids 0 g)),(1,(.str text)),(4,(.func (.func 49) [] [(.q ids 2 g2)])),(25,(.sl 4 (List.map Bx l))),(26,(.I (l.length:Int))),(27,(.I 0))] (FI J)<|G0 (P:=Tryz.prog) l (fun _ a=>C2 fun fBad l2=>H5 text a fBad l2) (((C2 fun fBad l2=>.ok (fBad,l2))):(Bool×(List Token))→R (Bool×(List Token))) (fun j=>C2 fun fBad l2=>fun(fr:Nat→AV) (h:Ae) => ∃ (v2:AV),∃ (g3:Nat),Ay v2 (ix ids 1) g3 l2.length∧fr=A2 [(0,(.q ids 0 g)),(1,(.str text)),(4,(.func (.func 49) [] [(.q ids 2 g2)])),(25,(.sl 4 (List.map Bx l))),(26,(.I (l.length:Int))),(27,(.I (j:Int)))]∧h=hp h0 ids [(some (.rows g 2 [[v2,(.bool fBad)]])),(Ah v2 g3 4 (List.map Ac l2)),(some (.rows g2 1 [[(.q ids 0 g)]])),none]) ((s0_bad||(decide ((l.length:Int) > most))),l1) ?_ ?_ ?_
  ·exact⟨v1,g1,vH,J,J⟩
  ·rintro j a ha W hW ⟨fBad,l2⟩ fr h ⟨v2,g3,vH1,rfl,rfl⟩
   refine Ak (m':=H5 text a fBad l2) J (Ak (H5.eq_1 _ _ _ _) ?_)
   refine Y<|O<|Z (.bool (decide ((j:Int)<(l.length:Int)))) J (Ba J J J)<|Aa<|Y<|Eb (t:=25) (L:=l) J fun hlim=>C0 J (Int.ofNat_lt.2 (A5 ha)) ?_
   refine Az<|Y<|A8<|Y<|O<|Z (.cp (Bx a) 0) J (Bt (Dm My Na J ha))<|Z (.agg (Bx a)) J (Au (Cp Na J)) ?_
   refine Bc (j:=3) hI J J J J Na J fun g4=>Aq (Ax (v:=(.agg (Bx a))) hI J J J J Na J J J J J)<|Aa<|Aj ?_
   refine Y<|Y<|O<|Ab 2 [] [(32,(.bool (!(text==[]))))] ?_
   refine Aa<|Ed (C2 fun fBad1 l3=>H9 a fBad1 l3) (C2 fun fBad1 l3=>fun(fr:Nat→AV) (h:Ae) => ∃ (v4:AV),∃ (g6:Nat),Ay v4 (ix ids 1) g6 l3.length∧fr=A2 [(0,(.q ids 0 g)),(1,(.str text)),(4,(.func (.func 49) [] [(.q ids 2 g2)])),(11,(.q ids 3 g4)),(25,(.sl 4 (List.map Bx l))),(26,(.I (l.length:Int))),(27,(.I (j:Int)))]∧h=hp h0 ids [(some (.rows g 2 [[v4,(.bool fBad1)]])),(Ah v4 g6 4 (List.map Ac l3)),(some (.rows g2 1 [[(.q ids 0 g)]])),(some (.rows g4 4 [(Bx a)]))]) ?_ fun hJ1=>?_
   ·rintro⟨fBad1,l3⟩ fr h ⟨v4,g6,vH3,rfl,rfl⟩
    refine Ak (H9.eq_1 _ _ _)<|Y<|O<|Ab 2 [3] [(38,(.agg (Bx a))),(37,(.func (.func 49) [] [(.q ids 2 g2)]))] ?_
    refine An [2,0,1] hI J J (Aaj a fBad1 l3 _ (ix ids 2) (ix ids 0) (ix ids 1) g2 g v4 g6 vH3 (by exact hI.sub' J J)) J J J J J J (fun v _=>Ao (K:=3) (N:=1) Tryz.func48 hI) ?_
    rintro r1 _ _ _ ⟨v5,g7,vH4,rfl,rfl⟩
    refine Aw [2,0,1] hI J J J ?_
    refine Ap<|Aa<|Aj ?_
    refine O<|Z (.q ids 0 g) J Ad<|Dh (e:=rS) (L:=[[59]]) (st:=1) (rows:=[[(.str [59])]]) J D5 Cy J J J J J (.cons (RowSim.refl _) .nil) (fun x=>Hd x) J J<|An [0,1] hI J J (Df [[59]] r1.1 r1.2 _ (ix ids 0) (ix ids 1) g v5 g7 vH4 (by exact hI.sub' J J)) J J J J J J (fun v _=>Ao (K:=3) (N:=1) Tryz.func48 hI) ?_
    rintro r2 _ _ _ ⟨v6,g8,vH5,rfl,rfl⟩
    refine Aw [0,1] hI J J J ?_
    refine Ap<|Aa<|Aj ?_
    refine Bn<|O<|Ab 2 [] [(27,(.I (IntKind.wrap .i64 ((j:Int)+1))))] ?_
    refine Aa<|Eh [(some (.rows g 2 [[v6,(.bool r2.1)]])),(Ah v6 g8 4 (List.map Ac r2.2)),(some (.rows g2 1 [[(.q ids 0 g)]])),none] hI J (.keep (.keep (.keep (.drop .nil))))<|Bo (Q2 (hW (r2.1,r2.2) _ _ ⟨v6,g8,vH5,J,J⟩)) (.cons J (.cons J (.cons J (.cons J (.cons J (.cons (D1 (A5 ha) hlim) .nil))))))
   refine Ei J (fun hc=>?_) (fun hc=>?_)
   ·refine Az<|Bo (hJ1 (fBad,l2) _ _ ⟨v2,g3,vH1,J,J⟩)
   refine O<|Ab 2 [] [(34,(.str text)),(33,(.q ids 0 g))] ?_
   refine Dh (e:=rS) (L:=[text]) (st:=1) (rows:=[[(.str text)]]) J D5 Cy J J J J J (.cons (RowSim.refl _) .nil) (fun x=>Hd x) J J<|An [0,1] hI J J (Bv [text] fBad l2 _ (ix ids 0) (ix ids 1) g v2 g3 vH1 (by exact hI.sub' J J)) J J J J J J (fun v _=>Ao (K:=3) (N:=1) Tryz.func48 hI) ?_
   rintro r _ _ _ ⟨v3,g5,vH2,rfl,rfl⟩
   refine Aw [0,1] hI J J J ?_
   refine Ap<|Aa<|Aj ?_
   exact Bo (hJ1 (r.1,r.2) _ _ ⟨v3,g5,vH2,J,J⟩)
  rintro⟨fBad,l2⟩ fr h ⟨v2,g3,vH1,rfl,rfl⟩
  refine Ak (Py _ _ _)<|Y<|O<|Z (.bool (decide ((l.length:Int)<(l.length:Int)))) J (Ba J J J)<|Aa<|Y<|C1 J (Int.lt_irrefl _) ?_
  refine C7 J<|Ce (K:=3) (N:=1) (a:=(fBad,l2)) (vs:=[]) [some (.rows g 2 [[v2,(.bool fBad)]]),Ah v2 g3 4 (List.map Ac l2),some (.rows g2 1 [[(.q ids 0 g)]])] Tryz.func48 hI J J J (.keep (.keep (.keep (.keep .nil)))) (.same _) ⟨v2,g3,vH1,J,J⟩
 ·refine A4 (t:=17) hb1 J<|Ab 5 [] [(22,(.bool true))] ?_
  exact Bk hJ (.cons J (.cons J (.cons J (.cons J (.cons J (.cons (Fu hb1) .nil))))))
 refine A4 (t:=17) hb1 J<|B0 (tj:=17) (.sl 4 (List.map Bx l)) J J J Ad<|B0 (tj:=17) (.I (l.length:Int)) J J J (A0 (Bd My))<|Ab 3 [] [(22,(.bool (decide ((l.length:Int) > most))))] ?_
 exact Bk hJ (.cons J (.cons J (.cons J (.cons J (.cons J (.cons (Fw hb1) .nil))))))
theorem Kl (text:Ar)(s1_bad:Bool)(l:List Token)(s3:Rule)(h0:Ae)(o0:Nat)(o1:Nat)(o2:Nat)(o3:Nat)(g:Nat)(g1:Nat)(v1:AV)(g2:Nat)(g3:Nat)(vH:Ay v1 o2 g2 l.length)(hI0:Ids h0 [o0,o1,o2,o3] 4):Fl text s1_bad l s3≠.bad→Bh Tryz.prog 103 [(.str text),(.ptr o0 g 0 0),(.ptr o3 g3 0 0)] (hp h0 [o0,o1,o2,o3] [some (.rows g 1 [[(.ptr o1 g1 0 0)]]),some (.rows g1 2 [[v1,(.bool s1_bad)]]),Ah v1 g2 4 (List.map Ac l),some (.rows g3 8 [(A7 s3)])]) (Cs (fun a_ v h' => ∃ (v4:AV),∃ (g6:Nat),Ay v4 o2 g6 a_.2.length∧v=(.tup [])∧h'=hp h0 [o0,o1,o2,o3] [some (.rows g 1 [[(.ptr o1 g1 0 0)]]),some (.rows g1 2 [[v4,(.bool a_.1)]]),Ah v4 g6 4 (List.map Ac a_.2),some (.rows g3 8 [(A7 s3)])]) h0 (Fl text s1_bad l s3)):=by
 refine Bb (n:=12) 0 Tryz.func103 J (by decide) J J hI0 J fun ids he hI=>?_
 clear hI0
 obtain rfl:ix ids 0=o0:=he 0 rfl
 obtain rfl:ix ids 1=o1:=he 1 rfl
 obtain rfl:ix ids 2=o2:=he 2 rfl
 obtain rfl:ix ids 3=o3:=he 3 rfl
 clear he
 refine Bm (Ak (Fl.eq_1 _ _ _ _) ?_)
 refine Y<|O<|Ab 2 [0] [(5,(.str text)),(4,(.q ids 1 g1))] ?_
 refine Dh (e:=rS) (L:=[text]) (st:=1) (rows:=[[(.str text)]]) J D5 Cy J J J J J (.cons (RowSim.refl _) .nil) (fun x=>Hd x) J J<|An [1,2] hI J J (Bv [text] s1_bad l _ (ix ids 1) (ix ids 2) g1 v1 g2 vH (by exact hI.sub' J J)) J J J J J J (fun v _=>Ao (K:=4) (N:=0) Tryz.func103 hI) ?_
 rintro r _ _ _ ⟨v2,g4,vH1,rfl,rfl⟩
 refine Aw [1,2] hI J J J ?_
 refine Ap<|Aa<|Aj ?_
 refine O<|Ab 3 [0,3] [(10,(.str s3.C)),(8,(.q ids 1 g1))] ?_
 refine An [1,2] hI J J (C6 s3.C r.1 r.2 _ (ix ids 1) (ix ids 2) g1 v2 g4 vH1 (by exact hI.sub' J J)) J J J J J J (fun v _=>Ao (K:=4) (N:=0) Tryz.func103 hI) ?_
 rintro r1 _ _ _ ⟨v3,g5,vH2,rfl,rfl⟩
 refine Aw [1,2] hI J J J ?_
 refine Ap<|Aa<|Aj ?_
 exact Ce (K:=4) (N:=0) (a:=(r1.1,r1.2)) (vs:=[]) [some (.rows g 1 [[(.q ids 1 g1)]]),some (.rows g1 2 [[v3,(.bool r1.1)]]),Ah v3 g5 4 (List.map Ac r1.2),some (.rows g3 8 [(A7 s3)])] Tryz.func103 hI J J J (.keep (.keep (.keep (.keep .nil)))) (.same _) ⟨v3,g5,vH2,J,J⟩
theorem X5 (b:Rule)(s0_bad:Bool)(l:List Token)(h0:Ae)(o0:Nat)(o1:Nat)(g:Nat)(v1:AV)(g1:Nat)(vH:Ay v1 o1 g1 l.length)(hI0:Ids h0 [o0,o1] 2):Je b s0_bad l≠.bad→Bh Tryz.prog 51 [(.ptr o0 g 0 0),(.agg (A7 b))] (hp h0 [o0,o1] [some (.rows g 2 [[v1,(.bool s0_bad)]]),Ah v1 g1 4 (List.map Ac l)]) (Cs (fun a_ v h' => ∃ (v12:AV),∃ (g16:Nat),Ay v12 o1 g16 a_.2.length∧v=(.tup [])∧h'=hp h0 [o0,o1] [some (.rows g 2 [[v12,(.bool a_.1)]]),Ah v12 g16 4 (List.map Ac a_.2)]) h0 (Je b s0_bad l)):=by
 refine Bb (n:=93) 4 Tryz.func51 J (by decide) J J hI0 J fun ids he hI=>?_
 clear hI0
 obtain rfl:ix ids 0=o0:=he 0 rfl
 obtain rfl:ix ids 1=o1:=he 1 rfl
 clear he
 refine Bm (Ak (Je.eq_1 _ _ _) ?_)
 refine Aj ?_
 refine Y<|O<|Cv (v:=(.q ids 0 g)) (j:=2) hI J J J J J J J fun g2=>Cv (v:=(.agg (A7 b))) (j:=3) hI J J J J J J J fun g3=>Aa<|Aj ?_
 refine Y<|O<|Ab 1 [3] [(7,(.agg (A7 b)))] ?_
 refine Bc (j:=4) hI J J J J Do J fun g4=>Aq (Ax (v:=(.agg (A7 b))) hI J J J J Do J J J J J)<|Aa<|Aj ?_
 refine Y<|O<|Z (.ptr (ix ids 4) g4 0 3) J (B9 (By (c:=0) (off:=3) (i:=3) Do J Ds J))<|Aq (Ax (v:=(.I 0)) hI J J J J Ds J J J J J)<|Z (.ptr (ix ids 4) g4 0 4) J (B9 (By (c:=0) (off:=4) (i:=4) Do J Ds J))<|Aq (Ax (v:=(.I 0)) hI J J J J Ds J J J J J)<|Aa ?_
 refine Aj ?_
 refine Y<|O<|Ab 5 [3,3] [(14,(.agg [(.I b.Kind),(.str b.C),(.str []),(.I 0),(.I 0),(.I 0),(.I 0),(.I 0)]))] ?_
 refine Bc (j:=5) hI J J J J Do J fun g5=>Aq (Ax (v:=(.agg [(.I b.Kind),(.str b.C),(.str []),(.I 0),(.I 0),(.I 0),(.I 0),(.I 0)])) hI J J J J Do J J J J J)<|Aa<|Aj ?_
 refine Y<|O<|Ab 2 [] [(6,(.func (.func 103) [] [(.q ids 2 g2),(.q ids 3 g3)]))] ?_
 refine Aa<|Y<|Y<|O<|Ab 2 [3] [(17,(.I b.Kind))] ?_
 refine Aa<|Ed (un3 fun fBad l1 o=>Dj b fBad l1 o) (un3 fun fBad l1 o=>fun(fr:Nat→AV) (h:Ae) => ∃ (v11:AV),∃ (g15:Nat),Ay v11 (ix ids 1) g15 l1.length∧fr=A2 [(2,(.q ids 2 g2)),(4,(.q ids 4 g4)),(5,(.q ids 5 g5))]∧h=hp h0 ids [(some (.rows g 2 [[v11,(.bool fBad)]])),(Ah v11 g15 4 (List.map Ac l1)),(some (.rows g2 1 [[(.q ids 0 g)]])),none,(some (.rows g4 8 [[(.I b.Kind),(.str b.C),(.str b.A),(.I 0),(.I 0),(.I b.N),(.I b.Hours.From),(.I b.Hours.To)]])),(some (.rows g5 8 [(A7 o)]))]) ?_ fun hJ=>?_
 ·rintro⟨fBad,l1,o⟩ fr h ⟨v11,g15,vH10,rfl,rfl⟩
  refine Ak (Dj.eq_1 _ _ _ _)<|Di Gg [[],[],[1],[1,2],[1,2,3],[1,2,3,4],[1,2,3,4,5],[1,2,3,4,5],[1,2,3,4,5,6,7],[1,2,3,4,5,6,7,8],[0,0,1,2,3,4,5,6,7,8,9],[0,1,2,3,4,5,6,7,8,9,10],[0,1,2,3,4,5,6,7,8,9,10,11]] [(false,0),(false,1),(false,2),(false,3),(false,4),(false,5),(false,6),(false,7),(false,8),(false,9),(false,10),(false,11),(true,12)] (by kernel_rfl)<|Ag (.q ids 0 g) J J (Au (Be hI J J J Afc J))<|Ag (.q ids 0 g) J J (Au (Be hI J J J Afc J))<|Ag (.q ids 0 g) J J (Bg J)<|Ag (.ptr (ix ids 0) g 0 1) J J (B9 (By (c:=0) (off:=1) (i:=1) Y4 J Qw J))<|Ag (.bool fBad) J J (Au (Be hI J J J Qw J)) ?_
  refine Ag (.bool fBad) J J Ad<|Lq (fun hb1=>?_) (fun hb1=>?_)
  ·refine Gw (tj:=86) (b:=true) J J (congrArg AV.bool hb1) J J<|Gw (tj:=86) (b:=true) J J (congrArg AV.bool hb1) J J<|Gw (tj:=86) (b:=true) J J (congrArg AV.bool hb1) J J<|Ag (.bool true) J J (Ep (t:=true) (congrArg AV.bool hb1) J)<|Ag (.q ids 0 g) J J (Bg J)<|Ag (.ptr (ix ids 0) g 0 1) J J (B9 (By (c:=0) (off:=1) (i:=1) Y4 J Qw J))<|Gr J (fun _ _=>J) (fun K hK=>D4 (Ax (v:=(.bool true)) hI J J J J Qw J J J J J) (hK _ _ (Af J (Af J (Af J (Af J (Af J (Af J (Af J (Af J (Af J (Af J (Af J (Af J Bw)))))))))))) ?_))
   clear hK K
   refine Ct<|Aj ?_
   exact Ce (K:=2) (N:=4) (a:=(true,l1)) (vs:=[]) [some (.rows g 2 [[v11,(.bool true)]]),Ah v11 g15 4 (List.map Ac l1)] Tryz.func51 hI J J J (.keep (.keep (.drop (.keep (.drop (.drop .nil)))))) (.same _) ⟨v11,g15,vH10,J,J⟩
  refine Gm (tj:=86) (.agg [(.I b.Kind),(.str b.C),(.str b.A),(.I 0),(.I 0),(.I b.N),(.I b.Hours.From),(.I b.Hours.To)]) J J (congrArg AV.bool hb1) J (Au (Be hI J J J Do J))<|Gm (tj:=86) (.agg (A7 o)) J J (congrArg AV.bool hb1) J (Au (Be hI J J J Do J))<|Gm (tj:=86) (.bool (!((b.Kind==o.Kind)&&((b.C==o.C)&&((b.A==o.A)&&((0==o.Class)&&((0==o.Airport)&&((b.N==o.N)&&((b.Hours.From==o.Hours.From)&&(b.Hours.To==o.Hours.To)))))))))) J J (congrArg AV.bool hb1) J (Ba (Ahk J J) J Aht)<|Ag (.bool (!((b.Kind==o.Kind)&&((b.C==o.C)&&((b.A==o.A)&&((0==o.Class)&&((0==o.Airport)&&((b.N==o.N)&&((b.Hours.From==o.Hours.From)&&(b.Hours.To==o.Hours.To)))))))))) J J (Ep (t:=false) (congrArg AV.bool hb1) J)<|Ag (.q ids 0 g) J J (Bg J)<|Ag (.ptr (ix ids 0) g 0 1) J J (B9 (By (c:=0) (off:=1) (i:=1) Y4 J Qw J))<|Gr J (fun _ _=>J) (fun K hK=>D4 (Ax (v:=(.bool (!((b.Kind==o.Kind)&&((b.C==o.C)&&((b.A==o.A)&&((0==o.Class)&&((0==o.Airport)&&((b.N==o.N)&&((b.Hours.From==o.Hours.From)&&(b.Hours.To==o.Hours.To))))))))))) hI J J J J Qw J J J J J) (hK _ _ (Af J (Af J (Af J (Af J (Af J (Af J (Af J (Af J (Af J (Af J (Af J (Af J Bw)))))))))))) ?_))
  clear hK K
  refine Ct<|Aj ?_
  exact Ce (K:=2) (N:=4) (a:=((!((b.Kind==o.Kind)&&((b.C==o.C)&&((b.A==o.A)&&((0==o.Class)&&((0==o.Airport)&&((b.N==o.N)&&((b.Hours.From==o.Hours.From)&&(b.Hours.To==o.Hours.To))))))))),l1)) (vs:=[]) [some (.rows g 2 [[v11,(.bool (!((b.Kind==o.Kind)&&((b.C==o.C)&&((b.A==o.A)&&((0==o.Class)&&((0==o.Airport)&&((b.N==o.N)&&((b.Hours.From==o.Hours.From)&&(b.Hours.To==o.Hours.To))))))))))]]),Ah v11 g15 4 (List.map Ac l1)] Tryz.func51 hI J J J (.keep (.keep (.drop (.keep (.drop (.drop .nil)))))) (.same _) ⟨v11,g15,vH10,J,J⟩
 refine A8<|Y<|O<|Ab 2 [] [(21,(.bool (b.Kind==1)))] ?_
 refine Aa<|Cd J (fun hc=>?_) (fun hc=>?_)
 ·refine Y<|Di Gg [[],[0],[],[2],[0,1],[0,1,1,4],[0,1,2,3,4,5],[0,1,2,3,3,4,5,5,6]] [(false,0),(false,1),(false,2),(false,3),(false,4),(true,5),(false,6),(true,7)] (by kernel_rfl)<|Ag (.ptr (ix ids 3) g3 0 2) J J (B9 (By (c:=0) (off:=2) (i:=2) Do J Cy J))<|Ag (.str b.A) J J (Au (Be hI J J J Cy J))<|Ag (.ptr (ix ids 3) g3 0 6) J J (B9 (By (c:=0) (off:=6) (i:=6) Do J Ly J))<|Ag (.agg (Cc b.Hours)) J J (Au (Be hI J J J Ly J))<|Ag (.ptr (ix ids 5) g5 0 2) J J (B9 (By (c:=0) (off:=2) (i:=2) Do J Cy J)) ?_
  refine Gr J (fun _ _=>J) (fun K hK=>D4 (Ax (v:=(.str b.A)) hI J J J J Cy J J J J J) (hK _ _ (Af J (Br J (Au (Be hI J J J Ly J)) (Br J (B9 (By (c:=0) (off:=6) (i:=6) Do J Ly J)) (Af J (Af J Bw))))) ?_))
  clear hK K
  refine Ag (.ptr (ix ids 5) g5 0 6) J J (B9 (By (c:=0) (off:=6) (i:=6) Do J Ly J))<|Gr J (fun _ _=>J) (fun K hK=>D4 (Ax (v:=(.agg (Cc b.Hours))) hI J J J J Ly J J J J J) (hK _ _ (Af J (Af J (Af J (Af J (Af J (Af J Bw)))))) ?_))
  clear hK K
  refine Ct<|Aj ?_
  refine Y<|O<|Z (.func (.func 103) [] [(.q ids 2 g2),(.q ids 3 g3)]) J Ad<|An [2,0,1,3] hI J J (Kl [99,117,114,102,101,119] s0_bad l b _ (ix ids 2) (ix ids 0) (ix ids 1) (ix ids 3) g2 g v1 g1 g3 vH (by exact hI.sub' J J)) J J J J J J (fun v _=>Ao (K:=2) (N:=4) Tryz.func51 hI) ?_
  rintro r _ _ _ ⟨v2,g6,vH1,rfl,rfl⟩
  refine Aw [2,0,1,3] hI J J J ?_
  refine Ap<|Aa<|Aj ?_
  refine Y<|O<|Ab 1 [2] [(31,(.q ids 0 g))] ?_
  refine Dh (e:=rS) (L:=[[97,116]]) (st:=1) (rows:=[[(.str [97,116])]]) J D5 Cy J J J J J (.cons (RowSim.refl _) .nil) (fun x=>Hd x) J J<|An [0,1] hI J J (Bv [[97,116]] r.1 r.2 _ (ix ids 0) (ix ids 1) g v2 g6 vH1 (by exact hI.sub' J J)) J J J J J J (fun v _=>Ao (K:=2) (N:=4) Tryz.func51 hI) ?_
  rintro r1 _ _ _ ⟨v3,g7,vH2,rfl,rfl⟩
  refine Aw [0,1] hI J J J ?_
  refine Ap<|Aa<|Aj ?_
  refine Y<|O<|Ab 3 [2,3] [(36,(.str b.A)),(34,(.q ids 0 g))] ?_
  refine An [0,1] hI J J (C6 b.A r1.1 r1.2 _ (ix ids 0) (ix ids 1) g v3 g7 vH2 (by exact hI.sub' J J)) J J J J J J (fun v _=>Ao (K:=2) (N:=4) Tryz.func51 hI) ?_
  rintro r2 _ _ _ ⟨v4,g8,vH3,rfl,rfl⟩
  refine Aw [0,1] hI J J J ?_
  refine Ap<|Aa<|Aj ?_
  refine O<|Ab 3 [2,3] [(40,(.agg (Cc b.Hours))),(38,(.q ids 0 g))] ?_
  refine An [0,1] hI J J (Rq b.Hours r2.1 r2.2 _ (ix ids 0) (ix ids 1) g v4 g8 vH3 (by exact hI.sub' J J)) J J J J J J (fun v _=>Ao (K:=2) (N:=4) Tryz.func51 hI) ?_
  rintro r3 _ _ _ ⟨v5,g9,vH4,rfl,rfl⟩
  refine Aw [0,1] hI J J J ?_
  refine Ap<|Aa<|Aj ?_
  refine Bn<|Eh [(some (.rows g 2 [[v5,(.bool r3.1)]])),(Ah v5 g9 4 (List.map Ac r3.2)),(some (.rows g2 1 [[(.q ids 0 g)]])),none,(some (.rows g4 8 [[(.I b.Kind),(.str b.C),(.str b.A),(.I 0),(.I 0),(.I b.N),(.I b.Hours.From),(.I b.Hours.To)]])),(some (.rows g5 8 [[(.I b.Kind),(.str b.C),(.str b.A),(.I 0),(.I 0),(.I 0),(.I b.Hours.From),(.I b.Hours.To)]]))] hI J (.keep (.keep (.keep (.drop (.keep (.keep .nil))))))<|Bo (hJ (r3.1,r3.2,({ Kind:=b.Kind,C:=b.C,A:=b.A,Class:=0,Airport:=0,N:=0,Hours:=b.Hours }:Rule)) _ _ ⟨v5,g9,vH4,J,J⟩)
 refine Y<|O<|Ab 2 [] [(42,(.bool (b.Kind==2)))] ?_
 refine Aa<|Cd J (fun hc1=>?_) (fun hc1=>?_)
 ·refine O<|Z (.func (.func 103) [] [(.q ids 2 g2),(.q ids 3 g3)]) J Ad<|An [2,0,1,3] hI J J (Kl [101,120,101,109,112,116] s0_bad l b _ (ix ids 2) (ix ids 0) (ix ids 1) (ix ids 3) g2 g v1 g1 g3 vH (by exact hI.sub' J J)) J J J J J J (fun v _=>Ao (K:=2) (N:=4) Tryz.func51 hI) ?_
  rintro r4 _ _ _ ⟨v6,g10,vH5,rfl,rfl⟩
  refine Aw [2,0,1,3] hI J J J ?_
  refine Ap<|Aa<|Aj ?_
  refine Bn<|Eh [(some (.rows g 2 [[v6,(.bool r4.1)]])),(Ah v6 g10 4 (List.map Ac r4.2)),(some (.rows g2 1 [[(.q ids 0 g)]])),none,(some (.rows g4 8 [[(.I b.Kind),(.str b.C),(.str b.A),(.I 0),(.I 0),(.I b.N),(.I b.Hours.From),(.I b.Hours.To)]])),(some (.rows g5 8 [[(.I b.Kind),(.str b.C),(.str []),(.I 0),(.I 0),(.I 0),(.I 0),(.I 0)]]))] hI J (.keep (.keep (.keep (.drop (.keep (.keep .nil))))))<|Bo (hJ (r4.1,r4.2,({ Kind:=b.Kind,C:=b.C,A:=[],Class:=0,Airport:=0,N:=0,Hours:=({ From:=0,To:=0 }:Span) }:Rule)) _ _ ⟨v6,g10,vH5,J,J⟩)
 refine Y<|O<|Ab 2 [] [(46,(.bool (b.Kind==3)))] ?_
 refine Aa<|Cd J (fun hc2=>?_) (fun hc2=>?_)
 ·refine Y<|O<|Ab 3 [3] [(50,(.ptr (ix ids 5) g5 0 5)),(49,(.I b.N))] ?_
  refine Aq (Ax (v:=(.I b.N)) hI J J J J Ds J J J J J)<|Aa<|Aj ?_
  refine Y<|O<|Z (.func (.func 103) [] [(.q ids 2 g2),(.q ids 3 g3)]) J Ad<|An [2,0,1,3] hI J J (Kl [119,101,105,103,104,116] s0_bad l b _ (ix ids 2) (ix ids 0) (ix ids 1) (ix ids 3) g2 g v1 g1 g3 vH (by exact hI.sub' J J)) J J J J J J (fun v _=>Ao (K:=2) (N:=4) Tryz.func51 hI) ?_
  rintro r5 _ _ _ ⟨v7,g11,vH6,rfl,rfl⟩
  refine Aw [2,0,1,3] hI J J J ?_
  refine Ap<|Aa<|Aj ?_
  refine O<|Ab 3 [2,3] [(55,(.I b.N)),(53,(.q ids 0 g))] ?_
  refine An [0,1] hI J J (Dr b.N 1 8 r5.1 r5.2 _ (ix ids 0) (ix ids 1) g v7 g11 vH6 (by exact hI.sub' J J)) J J J J J J (fun v _=>Ao (K:=2) (N:=4) Tryz.func51 hI) ?_
  rintro r6 _ _ _ ⟨v8,g12,vH7,rfl,rfl⟩
  refine Aw [0,1] hI J J J ?_
  refine Ap<|Aa<|Aj ?_
  refine Bn<|Eh [(some (.rows g 2 [[v8,(.bool (r5.1||(!((decide (b.N≥1))&&(decide (b.N≤8))))))]])),(Ah v8 g12 4 (List.map Ac r6)),(some (.rows g2 1 [[(.q ids 0 g)]])),none,(some (.rows g4 8 [[(.I b.Kind),(.str b.C),(.str b.A),(.I 0),(.I 0),(.I b.N),(.I b.Hours.From),(.I b.Hours.To)]])),(some (.rows g5 8 [[(.I b.Kind),(.str b.C),(.str []),(.I 0),(.I 0),(.I b.N),(.I 0),(.I 0)]]))] hI J (.keep (.keep (.keep (.drop (.keep (.keep .nil))))))<|Bo (hJ ((r5.1||(!((decide (b.N≥1))&&(decide (b.N≤8))))),r6,({ Kind:=b.Kind,C:=b.C,A:=[],Class:=0,Airport:=0,N:=b.N,Hours:=({ From:=0,To:=0 }:Span) }:Rule)) _ _ ⟨v8,g12,vH7,J,J⟩)
 refine Y<|O<|Ab 2 [] [(57,(.bool (b.Kind==4)))] ?_
 refine Aa<|Cd J (fun hc3=>?_) (fun hc3=>?_)
 ·refine Y<|O<|Ab 3 [3] [(61,(.ptr (ix ids 5) g5 0 5)),(60,(.I b.N))] ?_
  refine Aq (Ax (v:=(.I b.N)) hI J J J J Ds J J J J J)<|Aa<|Aj ?_
  refine Y<|O<|Z (.func (.func 103) [] [(.q ids 2 g2),(.q ids 3 g3)]) J Ad<|An [2,0,1,3] hI J J (Kl [108,111,110,103,101,115,116] s0_bad l b _ (ix ids 2) (ix ids 0) (ix ids 1) (ix ids 3) g2 g v1 g1 g3 vH (by exact hI.sub' J J)) J J J J J J (fun v _=>Ao (K:=2) (N:=4) Tryz.func51 hI) ?_
  rintro r7 _ _ _ ⟨v9,g13,vH8,rfl,rfl⟩
  refine Aw [2,0,1,3] hI J J J ?_
  refine Ap<|Aa<|Aj ?_
  refine Y<|O<|Ab 3 [2,3] [(66,(.I b.N)),(64,(.q ids 0 g))] ?_
  refine An [0,1] hI J J (Dr b.N 0 60 r7.1 r7.2 _ (ix ids 0) (ix ids 1) g v9 g13 vH8 (by exact hI.sub' J J)) J J J J J J (fun v _=>Ao (K:=2) (N:=4) Tryz.func51 hI) ?_
  rintro r8 _ _ _ ⟨v10,g14,vH9,rfl,rfl⟩
  refine Aw [0,1] hI J J J ?_
  refine Ap<|Aa<|Aj ?_
  refine Di Gg [[],[],[1],[1,2],[1,2,3],[1,2,3,4],[1,2,3,4,5],[1,2,3,4,5,6],[1,2,3,4,5,6,7],[1,2,3,4,5,6,7,8],[1,2,3,4,5,6,7,8,9],[0,0,1,2,3,4,5,6,7,8,9,10],[0,1,2,3,4,5,6,7,8,9,10,11],[0,1,2,3,4,5,6,7,8,9,10,11,12]] [(false,0),(false,1),(false,2),(false,3),(false,4),(false,5),(false,6),(false,7),(false,8),(false,9),(false,10),(false,11),(false,12),(true,13)] (by kernel_rfl)<|Ag (.q ids 0 g) J J (Au (Be hI J J J Afc J))<|Ag (.q ids 0 g) J J (Au (Be hI J J J Afc J))<|Ag (.q ids 0 g) J J (Bg J)<|Ag (.ptr (ix ids 0) g 0 1) J J (B9 (By (c:=0) (off:=1) (i:=1) Y4 J Qw J))<|Ag (.bool (r7.1||(!((decide (b.N≥0))&&(decide (b.N≤60)))))) J J (Au (Be hI J J J Qw J))<|Ag (.bool (r7.1||(!((decide (b.N≥0))&&(decide (b.N≤60)))))) J J Ad ?_
  refine Lq (fun hb=>?_) (fun hb=>?_)
  ·refine Gw (tj:=73) (b:=true) J J (congrArg AV.bool hb) J J<|Gw (tj:=73) (b:=true) J J (congrArg AV.bool hb) J J<|Gw (tj:=73) (b:=true) J J (congrArg AV.bool hb) J J<|Gw (tj:=73) (b:=true) J J (congrArg AV.bool hb) J J<|Ag (.bool true) J J (Ep (t:=true) (congrArg AV.bool hb) J)<|Ag (.q ids 0 g) J J (Bg J)<|Ag (.ptr (ix ids 0) g 0 1) J J (B9 (By (c:=0) (off:=1) (i:=1) Y4 J Qw J)) ?_
   refine Gr J (fun _ _=>J) (fun K hK=>D4 (Ax (v:=(.bool true)) hI J J J J Qw J J J J J) (hK _ _ (Af J (Af J (Af J (Af J (Af J (Af J (Af J (Af J (Af J (Af J (Af J (Af J (Af J Bw))))))))))))) ?_))
   clear hK K
   refine Ct<|Aj ?_
   refine Bn<|Eh [(some (.rows g 2 [[v10,(.bool true)]])),(Ah v10 g14 4 (List.map Ac r8)),(some (.rows g2 1 [[(.q ids 0 g)]])),none,(some (.rows g4 8 [[(.I b.Kind),(.str b.C),(.str b.A),(.I 0),(.I 0),(.I b.N),(.I b.Hours.From),(.I b.Hours.To)]])),(some (.rows g5 8 [[(.I b.Kind),(.str b.C),(.str []),(.I 0),(.I 0),(.I b.N),(.I 0),(.I 0)]]))] hI J (.keep (.keep (.keep (.drop (.keep (.keep .nil))))))<|Bo (hJ (true,r8,({ Kind:=b.Kind,C:=b.C,A:=[],Class:=0,Airport:=0,N:=b.N,Hours:=({ From:=0,To:=0 }:Span) }:Rule)) _ _ ⟨v10,g14,vH9,J,J⟩)
  refine Gm (tj:=73) (.ptr (ix ids 3) g3 0 5) J J (congrArg AV.bool hb) J (B9 (By (c:=0) (off:=5) (i:=5) Do J Ds J))<|Gm (tj:=73) (.I b.N) J J (congrArg AV.bool hb) J (Au (Be hI J J J Ds J))<|Gm (tj:=73) (.I (Int.tmod b.N 10)) J J (congrArg AV.bool hb) J (Ba J J (Ajy J (by decide)))<|Gm (tj:=73) (.bool ((Int.tmod b.N 10) != 0)) J J (congrArg AV.bool hb) J (Ba J J J)<|Ag (.bool ((Int.tmod b.N 10) != 0)) J J (Ep (t:=false) (congrArg AV.bool hb) J)<|Ag (.q ids 0 g) J J (Bg J)<|Ag (.ptr (ix ids 0) g 0 1) J J (B9 (By (c:=0) (off:=1) (i:=1) Y4 J Qw J)) ?_
  refine Gr J (fun _ _=>J) (fun K hK=>D4 (Ax (v:=(.bool ((Int.tmod b.N 10) != 0))) hI J J J J Qw J J J J J) (hK _ _ (Af J (Af J (Af J (Af J (Af J (Af J (Af J (Af J (Af J (Af J (Af J (Af J (Af J Bw))))))))))))) ?_))
  clear hK K
  refine Ct<|Aj ?_
  refine Bn<|Eh [(some (.rows g 2 [[v10,(.bool ((Int.tmod b.N 10) != 0))]])),(Ah v10 g14 4 (List.map Ac r8)),(some (.rows g2 1 [[(.q ids 0 g)]])),none,(some (.rows g4 8 [[(.I b.Kind),(.str b.C),(.str b.A),(.I 0),(.I 0),(.I b.N),(.I b.Hours.From),(.I b.Hours.To)]])),(some (.rows g5 8 [[(.I b.Kind),(.str b.C),(.str []),(.I 0),(.I 0),(.I b.N),(.I 0),(.I 0)]]))] hI J (.keep (.keep (.keep (.drop (.keep (.keep .nil))))))<|Bo (hJ (((Int.tmod b.N 10) != 0),r8,({ Kind:=b.Kind,C:=b.C,A:=[],Class:=0,Airport:=0,N:=b.N,Hours:=({ From:=0,To:=0 }:Span) }:Rule)) _ _ ⟨v10,g14,vH9,J,J⟩)
 refine O<|Ab 3 [2] [(20,(.ptr (ix ids 0) g 0 1))] ?_
 refine Aq (Ax (v:=(.bool true)) hI J J J J Qw J J J J J)<|Aa<|Aj ?_
 refine Bn<|Eh [(some (.rows g 2 [[v1,(.bool true)]])),(Ah v1 g1 4 (List.map Ac l)),(some (.rows g2 1 [[(.q ids 0 g)]])),none,(some (.rows g4 8 [[(.I b.Kind),(.str b.C),(.str b.A),(.I 0),(.I 0),(.I b.N),(.I b.Hours.From),(.I b.Hours.To)]])),(some (.rows g5 8 [[(.I b.Kind),(.str b.C),(.str []),(.I 0),(.I 0),(.I 0),(.I 0),(.I 0)]]))] hI J (.keep (.keep (.keep (.drop (.keep (.keep .nil))))))<|Bo (hJ (true,l,({ Kind:=b.Kind,C:=b.C,A:=[],Class:=0,Airport:=0,N:=0,Hours:=({ From:=0,To:=0 }:Span) }:Rule)) _ _ ⟨v1,g1,vH,J,J⟩)
theorem Vc (text:Ar)(l:List Rule)(most:Int)(s0_bad:Bool)(l1:List Token)(h0:Ae)(o0:Nat)(o1:Nat)(g:Nat)(v1:AV)(g1:Nat)(vH:Ay v1 o1 g1 l1.length)(hI0:Ids h0 [o0,o1] 2):F2 text l most s0_bad l1≠.bad→Bh Tryz.prog 50 [(.ptr o0 g 0 0),(.str text),(.sl 8 (List.map A7 l)),(.int .i64 most),(.func (.func 51) [(.ptr o0 g 0 0)] [])] (hp h0 [o0,o1] [some (.rows g 2 [[v1,(.bool s0_bad)]]),Ah v1 g1 4 (List.map Ac l1)]) (Cs (fun a_ v h' => ∃ (v7:AV),∃ (g8:Nat),Ay v7 o1 g8 a_.2.length∧v=(.tup [])∧h'=hp h0 [o0,o1] [some (.rows g 2 [[v7,(.bool a_.1)]]),Ah v7 g8 4 (List.map Ac a_.2)]) h0 (F2 text l most s0_bad l1)):=by
 refine Bb (n:=44) 1 Tryz.func50 J (by decide) J J hI0 J fun ids he hI=>?_
 clear hI0
 obtain rfl:ix ids 0=o0:=he 0 rfl
 obtain rfl:ix ids 1=o1:=he 1 rfl
 clear he
 refine Bm (Ak (F2.eq_1 _ _ _ _ _) ?_)
 refine Aj ?_
 refine Y<|O<|Ab 6 [0] [(17,(.bool s0_bad)),(12,(.q ids 0 g))] ?_
 refine B8 5 [(0,(.q ids 0 g)),(1,(.str text)),(2,(.sl 8 (List.map A7 l))),(4,(.func (.func 51) [(.q ids 0 g)] [])),(12,(.q ids 0 g)),(22,(.bool (s0_bad||(decide ((l.length:Int) > most)))))] ?_ fun hJ=>Bu s0_bad (fun hb1=>?_) (fun hb1=>?_)
 ·refine Ab 2 [] [(24,(.ptr (ix ids 0) g 0 1))] ?_
  refine Aq (Ax (v:=(.bool (s0_bad||(decide ((l.length:Int) > most))))) hI J J J J Qw J J J J J)<|Aa<|Aj ?_
  refine Y<|O<|Z (.sl 8 (List.map A7 l)) J Ad<|Z (.I (l.length:Int)) J (A0 (Bd E1))<|Z (.I 0) J Ad<|Aa<|A8 ?_
  refine Ee [(0,(.q ids 0 g)),(1,(.str text)),(4,(.func (.func 51) [(.q ids 0 g)] [])),(25,(.sl 8 (List.map A7 l))),(26,(.I (l.length:Int))),(27,(.I 0))] (FI J)<|G0 (P:=Tryz.prog) l (fun _ a=>C2 fun fBad l2=>Hs text a fBad l2) (((C2 fun fBad l2=>.ok (fBad,l2))):(Bool×(List Token))→R (Bool×(List Token))) (fun j=>C2 fun fBad l2=>fun(fr:Nat→AV) (h:Ae) => ∃ (v2:AV),∃ (g2:Nat),Ay v2 (ix ids 1) g2 l2.length∧fr=A2 [(0,(.q ids 0 g)),(1,(.str text)),(4,(.func (.func 51) [(.q ids 0 g)] [])),(25,(.sl 8 (List.map A7 l))),(26,(.I (l.length:Int))),(27,(.I (j:Int)))]∧h=hp h0 ids [(some (.rows g 2 [[v2,(.bool fBad)]])),(Ah v2 g2 4 (List.map Ac l2)),none]) ((s0_bad||(decide ((l.length:Int) > most))),l1) ?_ ?_ ?_
  ·exact⟨v1,g1,vH,J,J⟩
  ·rintro j a ha W hW ⟨fBad,l2⟩ fr h ⟨v2,g2,vH1,rfl,rfl⟩
   refine Ak (m':=Hs text a fBad l2) J (Ak (Hs.eq_1 _ _ _ _) ?_)
   refine Y<|O<|Z (.bool (decide ((j:Int)<(l.length:Int)))) J (Ba J J J)<|Aa<|Y<|Eb (t:=25) (L:=l) J fun hlim=>C0 J (Int.ofNat_lt.2 (A5 ha)) ?_
   refine Az<|Y<|A8<|Y<|O<|Z (.cp (A7 a) 0) J (Bt (Dm E1 Do J ha))<|Z (.agg (A7 a)) J (Au (Cp Do J)) ?_
   refine Bc (j:=2) hI J J J J Do J fun g3=>Aq (Ax (v:=(.agg (A7 a))) hI J J J J Do J J J J J)<|Aa<|Aj ?_
   refine Y<|Y<|O<|Ab 2 [] [(32,(.bool (!(text==[]))))] ?_
   refine Aa<|Ed (C2 fun fBad1 l3=>J7 a fBad1 l3) (C2 fun fBad1 l3=>fun(fr:Nat→AV) (h:Ae) => ∃ (v4:AV),∃ (g5:Nat),Ay v4 (ix ids 1) g5 l3.length∧fr=A2 [(0,(.q ids 0 g)),(1,(.str text)),(4,(.func (.func 51) [(.q ids 0 g)] [])),(11,(.q ids 2 g3)),(25,(.sl 8 (List.map A7 l))),(26,(.I (l.length:Int))),(27,(.I (j:Int)))]∧h=hp h0 ids [(some (.rows g 2 [[v4,(.bool fBad1)]])),(Ah v4 g5 4 (List.map Ac l3)),(some (.rows g3 8 [(A7 a)]))]) ?_ fun hJ1=>?_
   ·rintro⟨fBad1,l3⟩ fr h ⟨v4,g5,vH3,rfl,rfl⟩
    refine Ak (J7.eq_1 _ _ _)<|Y<|O<|Ab 2 [2] [(38,(.agg (A7 a))),(37,(.func (.func 51) [(.q ids 0 g)] []))] ?_
    refine An [0,1] hI J J (X5 a fBad1 l3 _ (ix ids 0) (ix ids 1) g v4 g5 vH3 (by exact hI.sub' J J)) J J J J J J (fun v _=>Ao (K:=2) (N:=1) Tryz.func50 hI) ?_
    rintro r1 _ _ _ ⟨v5,g6,vH4,rfl,rfl⟩
    refine Aw [0,1] hI J J J ?_
    refine Ap<|Aa<|Aj ?_
    refine O<|Z (.q ids 0 g) J Ad<|Dh (e:=rS) (L:=[[59]]) (st:=1) (rows:=[[(.str [59])]]) J D5 Cy J J J J J (.cons (RowSim.refl _) .nil) (fun x=>Hd x) J J<|An [0,1] hI J J (Df [[59]] r1.1 r1.2 _ (ix ids 0) (ix ids 1) g v5 g6 vH4 (by exact hI.sub' J J)) J J J J J J (fun v _=>Ao (K:=2) (N:=1) Tryz.func50 hI) ?_
    rintro r2 _ _ _ ⟨v6,g7,vH5,rfl,rfl⟩
    refine Aw [0,1] hI J J J ?_
    refine Ap<|Aa<|Aj ?_
    refine Bn<|O<|Ab 2 [] [(27,(.I (IntKind.wrap .i64 ((j:Int)+1))))] ?_
    refine Aa<|Eh [(some (.rows g 2 [[v6,(.bool r2.1)]])),(Ah v6 g7 4 (List.map Ac r2.2)),none] hI J (.keep (.keep (.drop .nil)))<|Bo (Q2 (hW (r2.1,r2.2) _ _ ⟨v6,g7,vH5,J,J⟩)) (.cons J (.cons J (.cons J (.cons J (.cons J (.cons (D1 (A5 ha) hlim) .nil))))))
   refine Ei J (fun hc=>?_) (fun hc=>?_)
   ·refine Az<|Bo (hJ1 (fBad,l2) _ _ ⟨v2,g2,vH1,J,J⟩)
   refine O<|Ab 2 [] [(34,(.str text)),(33,(.q ids 0 g))] ?_
   refine Dh (e:=rS) (L:=[text]) (st:=1) (rows:=[[(.str text)]]) J D5 Cy J J J J J (.cons (RowSim.refl _) .nil) (fun x=>Hd x) J J<|An [0,1] hI J J (Bv [text] fBad l2 _ (ix ids 0) (ix ids 1) g v2 g2 vH1 (by exact hI.sub' J J)) J J J J J J (fun v _=>Ao (K:=2) (N:=1) Tryz.func50 hI) ?_
   rintro r _ _ _ ⟨v3,g4,vH2,rfl,rfl⟩
   refine Aw [0,1] hI J J J ?_
   refine Ap<|Aa<|Aj ?_
   exact Bo (hJ1 (r.1,r.2) _ _ ⟨v3,g4,vH2,J,J⟩)
  rintro⟨fBad,l2⟩ fr h ⟨v2,g2,vH1,rfl,rfl⟩
  refine Ak (Py _ _ _)<|Y<|O<|Z (.bool (decide ((l.length:Int)<(l.length:Int)))) J (Ba J J J)<|Aa<|Y<|C1 J (Int.lt_irrefl _) ?_
  refine C7 J<|Ce (K:=2) (N:=1) (a:=(fBad,l2)) (vs:=[]) [some (.rows g 2 [[v2,(.bool fBad)]]),Ah v2 g2 4 (List.map Ac l2)] Tryz.func50 hI J J J (.keep (.keep (.keep .nil))) (.same _) ⟨v2,g2,vH1,J,J⟩
 ·refine A4 (t:=17) hb1 J<|Ab 5 [] [(22,(.bool true))] ?_
  exact Bk hJ (.cons J (.cons J (.cons J (.cons J (.cons J (.cons (Fu hb1) .nil))))))
 refine A4 (t:=17) hb1 J<|B0 (tj:=17) (.sl 8 (List.map A7 l)) J J J Ad<|B0 (tj:=17) (.I (l.length:Int)) J J J (A0 (Bd E1))<|Ab 3 [] [(22,(.bool (decide ((l.length:Int) > most))))] ?_
 exact Bk hJ (.cons J (.cons J (.cons J (.cons J (.cons J (.cons (Fw hb1) .nil))))))
theorem Ad4 (l:List Ar)(sep:Ar):CP Tryz.prog 61 [.sl 1 (l.map rS),.str sep] (strings_Join l sep) (fun x=>AV.str x):=
 Aio (.mk Tryz.func61 rfl (by decide)) (fun p h=>by unfold strings_Join at h; split at h <;> cases h) fun a ha B mu h w cargs hs hl=>by
  obtain⟨c1,c2,rfl,h1,h2⟩:=Akb hl
  obtain rfl:=Aes h2
  unfold strings_Join at ha
  split at ha
  ·rename_i hn
   cases ha
   have key:l=[] ∨ ∃ bk o cap,c1=.slice (some ⟨bk,o,none⟩) l.length cap∧bk<w.heap.size∧l.length≤Eo∧l.length≤cap ∧ ∀ j x,l[j]? = some x→w.cell? ⟨bk,o+j,none⟩=some (.string ⟨x.toArray⟩):=Ar5 h1
   rcases key with rfl | ⟨bk,o,cap,rfl,hb,hlim,hcap,hc⟩
   ·obtain⟨a,cap,rfl⟩:=Asy h1
    refine(Go.Proofs.Tryz.strings_Join_none a cap ⟨sep.toArray⟩ w).mono ?_
    rintro e w' ⟨rfl,rfl⟩
    exact⟨Go.RowKit.Below.refl _ _,_,J,.str _⟩
   ·have em:(l.map fun x=>(⟨x.toArray⟩:ByteArray)).map (·.data.toList)=l:=by simp [Function.comp_def]
    have:=Go.Proofs.Tryz.strings_Join bk o cap (l.map fun x=>⟨x.toArray⟩) ⟨sep.toArray⟩ w (fun j x hx=>by
     rw [List.getElem?_map] at hx
     cases hq:l[j]? with
     | none=>rw [hq] at hx; cases hx
     | some y=>rw [hq] at hx; cases hx; exact hc j y hq) hb (by rw [List.length_map]; exact hlim) (by simpa using hcap) (by rw [em]; exact hn)
    rw [em,List.length_map] at this
    refine this.mono ?_
    rintro e w' ⟨rfl,hbel⟩
    exact⟨hbel,_,J,.str _⟩
  ·cases ha
theorem Ajj (l:List Token):CP Tryz.prog 17 [(.sl 4 (List.map Ac l))] (Rh l) (fun(p:(Ar×Int))=>AV.tup [(.str p.1),(.int .i64 p.2)]):=by
 refine C3 (n:=39) 2 Tryz.func17 J (by decide) J J fun h0 ids hI=>Bm (Ak (Rh.eq_1 _) ?_)
 refine Y<|O<|Ab 2 [] [] ?_
 refine Aa<|Y<|O<|Z (.sl 4 (List.map Ac l)) J Ad<|Z (.I (l.length:Int)) J (A0 (Bd Cx))<|Gb fun hl=>Aqf (y:=([]:Ar)) (e:=rS) (st:=1) (j:=0) hI J J J J D5 Cy J J hl.1 hl.2.1 hl.2.2 J J J J J fun v g vH=>?_
 refine Z v J Al<|Aa<|Aj ?_
 refine Y<|Y<|O<|Z (.sl 4 (List.map Ac l)) J Ad<|Z (.I (l.length:Int)) J (A0 (Bd Cx))<|Z (.I 0) J Ad<|Aa ?_
 refine A8<|Ee [(4,v),(10,(.sl 4 (List.map Ac l))),(11,(.I (l.length:Int))),(12,(.I 0))] (FI J)<|E2 (P:=Tryz.prog) l (fun j a=>fun words=>Q0 j a words) ((Dz (fun words=>(strings_Join words [32]).bind fun src=>.ok (src,0)) (fun r=>.ok r)):((List Ar) ⊕ (Ar×Int))→R (Ar×Int)) (fun j=>fun words=>fun(fr:Nat→AV) (h:Ae) => ∃ (v1:AV),∃ (g1:Nat),Ay v1 (ix ids 0) g1 words.length∧fr=A2 [(4,v1),(10,(.sl 4 (List.map Ac l))),(11,(.I (l.length:Int))),(12,(.I (j:Int)))]∧h=hp h0 ids [(Ah v1 g1 1 (List.map rS words)),none]) (List.replicate (Int.toNat (l.length:Int)) []) ?_ ?_ ?_
 ·exact⟨v,g,vH,J,J⟩
 ·rintro j a ha W hW words fr h ⟨v1,g1,vH1,rfl,rfl⟩
  refine Ak (m':=Q0 j a words) J (Ak (Q0.eq_1 _ _ _) ?_)
  refine Y<|O<|Z (.bool (decide ((j:Int)<(l.length:Int)))) J (Ba J J J)<|Aa<|Y<|Eb (t:=10) (L:=l) J fun hlim=>C0 J (Int.ofNat_lt.2 (A5 ha)) ?_
  refine Az<|Y<|A8<|Y<|O<|Z (.I (j:Int)) J Ad<|Z (.cp (Ac a) 0) J (Bt (Dm Cx Dc J ha)) ?_
  refine Z (.agg (Ac a)) J (Au (Cp Dc J))<|Bc (j:=1) hI J J J J Dc J fun g2=>Z (.I (j:Int)) J Al<|Aq (Ax (v:=(.agg (Ac a))) hI J J J J Dc J J J J J)<|Aa<|Aj ?_
  refine A8<|Y<|O<|Ab 1 [1] [(23,(.agg (Ac a)))] ?_
  refine Bz [(.agg (Ac a))] J J J J ((Aca a) _) (fun v _=>Cj Tryz.func17 hI) fun r _=>Ab 2 [] [(22,(.bool (!r)))] ?_
  refine Aa<|Ei J (fun hc=>?_) (fun hc=>?_)
  ·refine Y<|O<|Ab 4 [1] [(26,(.bool (a.Kind==2)))] ?_
   refine Aa<|Cd J (fun hc1=>?_) (fun hc1=>?_)
   ·refine O<|Ab 4 [1] [(33,(.I a.N)),(31,(.I (j:Int))),(30,v1)] ?_
    refine Bz [(.I a.N)] J J J J ((Yf a.N) _) (fun v _=>Cj Tryz.func17 hI) fun r1 _=>Ey fun a1 hz hx1=>Z (.ptr (ix ids 0) g1 (j:Int).toNat 0) J (Bt (Akm hI J vH1 J D5 Cy J hz hx1))<|Aq (Ame (y:=r1) hI J J vH1 J hx1 Cy J J J J J J) ?_
    have vH2:=Ay.set (i:=(j:Int).toNat) (y:=r1) vH1
    have hx2:=List.getElem?_set_self (a:=r1) (A5 hx1)
    refine Aa<|Aj ?_
    refine Bn<|Bn<|O<|Ab 2 [] [(12,(.I (IntKind.wrap .i64 ((j:Int)+1))))] ?_
    refine Aa<|Eh [(Ah v1 g1 1 (List.map rS (words.set (j:Int).toNat r1))),none] hI J (.keep (.drop .nil))<|Bo (Fr (hW (words.set (j:Int).toNat r1) _ _ ⟨v1,g1,vH2,J,J⟩)) (.cons J (.cons J (.cons J (.cons (D1 (A5 ha) hlim) .nil))))
   refine O<|Ab 4 [1] [(20,(.str a.Text)),(18,(.I (j:Int))),(17,v1)] ?_
   refine Ey fun a2 hz1 hx3=>Z (.ptr (ix ids 0) g1 (j:Int).toNat 0) J (Bt (Akm hI J vH1 J D5 Cy J hz1 hx3))<|Aq (Ame (y:=a.Text) hI J J vH1 J hx3 Cy J J J J J J) ?_
   have vH3:=Ay.set (i:=(j:Int).toNat) (y:=a.Text) vH1
   have hx4:=List.getElem?_set_self (a:=a.Text) (A5 hx3)
   refine Aa<|Aj ?_
   refine Bn<|Bn<|O<|Ab 2 [] [(12,(.I (IntKind.wrap .i64 ((j:Int)+1))))] ?_
   refine Aa<|Eh [(Ah v1 g1 1 (List.map rS (words.set (j:Int).toNat a.Text))),none] hI J (.keep (.drop .nil))<|Bo (Fr (hW (words.set (j:Int).toNat a.Text) _ _ ⟨v1,g1,vH3,J,J⟩)) (.cons J (.cons J (.cons J (.cons (D1 (A5 ha) hlim) .nil))))
  refine Y<|O<|Ab 2 [] [(3,(.I 70)),(2,(.str []))] ?_
  refine Aa<|Fp<|Gx<|Bs (a:=([],70)) (vs:=[(.str []),(.I 70)]) Tryz.func17 hI J (.tupL (.cons (.same _) (.cons (.same _) .nil)))
 rintro words fr h ⟨v1,g1,vH1,rfl,rfl⟩
 refine Ak (F0 _ _ _)<|Y<|O<|Z (.bool (decide ((l.length:Int)<(l.length:Int)))) J (Ba J J J)<|Aa<|Y<|C1 J (Int.lt_irrefl _) ?_
 refine C7 J<|Y<|O<|Z v1 J Ad<|Bz [v1,(.str [32])] J J J J (CP.lend (Ad4 words [32]) (LF.lfz (.cons (Fo vH1 (hI.at J J) J (fun x=>Hd x)) (.cons (.same _) .nil))) (fun _ _=>(.str _))) (fun v _=>Cj Tryz.func17 hI) fun src _=>Ab 2 [] [(3,(.I 0)),(2,(.str src))] ?_
 refine Aa<|Bs (a:=(src,0)) (vs:=[(.str src),(.I 0)]) Tryz.func17 hI J (.tupL (.cons (.same _) (.cons (.same _) .nil)))
theorem Q5 (a:Airspace):CP Tryz.prog 14 [(.agg (Av a))] (Ll a) (fun(p:(Ar×Int))=>AV.tup [(.str p.1),(.int .i64 p.2)]):=by
 refine C3 (n:=59) 4 Tryz.func14 J (by decide) J J fun h0 ids hI=>Bm (Ak (Ll.eq_1 _) ?_)
 refine Y<|O<|Cv (v:=(.agg (Av a))) (j:=0) hI J J J J J J J fun g=>Ab 2 [] [] ?_
 refine Aa<|Aj ?_
 refine Y<|O<|Z (.agg [.emp,(.bool false)]) J (Mf (R1 Y4 Av3 J))<|Cv (v:=(.agg [.emp,(.bool false)])) (j:=1) hI J J J J J J J fun g1=>Bc (j:=2) hI J J J J Afc J fun g2=>Aq (Ax (v:=(.q ids 1 g1)) hI J J J J Afc J J J J J)<|Aa ?_
 refine Aj ?_
 refine Y<|O<|Ab 4 [2,0] [(10,(.func (.func 29) [] [(.q ids 2 g2)])),(9,(.sl 2 (List.map As a.Volumes))),(7,(.q ids 1 g1))] ?_
 refine An [1,2,3] hI J J (Vb [118,111,108,117,109,101] a.Volumes 64 false _ (ix ids 1) (ix ids 2) (ix ids 3) g1 g2 (by exact hI.sub' J J)) J J J J J J (fun v _=>Cj Tryz.func14 hI) ?_
 rintro r _ _ _ ⟨v,g3,vH,rfl,rfl⟩
 refine Aw [1,2,3] hI J J J ?_
 refine Ap<|Aa<|Aj ?_
 refine Y<|O<|Ab 4 [2,0] [(15,(.func (.func 33) [] [(.q ids 2 g2)])),(14,(.sl 5 (List.map A3 a.Sectors))),(12,(.q ids 1 g1))] ?_
 refine An [1,3,2] hI J J (Vx [115,101,99,116,111,114] a.Sectors 64 r.1 r.2 _ (ix ids 1) (ix ids 3) (ix ids 2) g1 v g3 g2 vH (by exact hI.sub' J J)) J J J J J J (fun v _=>Cj Tryz.func14 hI) ?_
 rintro r1 _ _ _ ⟨v1,g4,vH1,rfl,rfl⟩
 refine Aw [1,3,2] hI J J J ?_
 refine Ap<|Aa<|Aj ?_
 refine Y<|O<|Ab 4 [2,0] [(20,(.func (.func 39) [] [(.q ids 2 g2)])),(19,(.sl 3 (List.map Bf a.Configs))),(17,(.q ids 1 g1))] ?_
 refine An [1,3,2] hI J J (Ve [99,111,110,102,105,103] a.Configs 32 r1.1 r1.2 _ (ix ids 1) (ix ids 3) (ix ids 2) g1 v1 g4 g2 vH1 (by exact hI.sub' J J)) J J J J J J (fun v _=>Cj Tryz.func14 hI) ?_
 rintro r2 _ _ _ ⟨v2,g5,vH2,rfl,rfl⟩
 refine Aw [1,3,2] hI J J J ?_
 refine Ap<|Aa<|Aj ?_
 refine Y<|O<|Ab 4 [2,0] [(25,(.func (.func 41) [] [(.q ids 2 g2)])),(24,(.sl 5 (List.map A9 a.Segments))),(22,(.q ids 1 g1))] ?_
 refine An [1,3,2] hI J J (Ul [115,101,103,109,101,110,116] a.Segments 128 r2.1 r2.2 _ (ix ids 1) (ix ids 3) (ix ids 2) g1 v2 g5 g2 vH2 (by exact hI.sub' J J)) J J J J J J (fun v _=>Cj Tryz.func14 hI) ?_
 rintro r3 _ _ _ ⟨v3,g6,vH3,rfl,rfl⟩
 refine Aw [1,3,2] hI J J J ?_
 refine Ap<|Aa<|Aj ?_
 refine Y<|O<|Ab 4 [2,0] [(30,(.func (.func 43) [] [(.q ids 2 g2)])),(29,(.sl 7 (List.map Bp a.Routes))),(27,(.q ids 1 g1))] ?_
 refine An [1,3,2] hI J J (We [114,111,117,116,101] a.Routes 64 r3.1 r3.2 _ (ix ids 1) (ix ids 3) (ix ids 2) g1 v3 g6 g2 vH3 (by exact hI.sub' J J)) J J J J J J (fun v _=>Cj Tryz.func14 hI) ?_
 rintro r4 _ _ _ ⟨v4,g7,vH4,rfl,rfl⟩
 refine Aw [1,3,2] hI J J J ?_
 refine Ap<|Aa<|Aj ?_
 refine Y<|O<|Ab 4 [2,0] [(35,(.func (.func 45) [] [(.q ids 2 g2)])),(34,(.sl 2 (List.map A6 a.Airports))),(32,(.q ids 1 g1))] ?_
 refine An [1,3,2] hI J J (Us [97,105,114,112,111,114,116] a.Airports 16 r4.1 r4.2 _ (ix ids 1) (ix ids 3) (ix ids 2) g1 v4 g7 g2 vH4 (by exact hI.sub' J J)) J J J J J J (fun v _=>Cj Tryz.func14 hI) ?_
 rintro r5 _ _ _ ⟨v5,g8,vH5,rfl,rfl⟩
 refine Aw [1,3,2] hI J J J ?_
 refine Ap<|Aa<|Aj ?_
 refine Y<|O<|Ab 4 [2,0] [(40,(.func (.func 49) [] [(.q ids 2 g2)])),(39,(.sl 4 (List.map Bx a.Classes))),(37,(.q ids 1 g1))] ?_
 refine An [1,3,2] hI J J (Wb [99,108,97,115,115] a.Classes 8 r5.1 r5.2 _ (ix ids 1) (ix ids 3) (ix ids 2) g1 v5 g8 g2 vH5 (by exact hI.sub' J J)) J J J J J J (fun v _=>Cj Tryz.func14 hI) ?_
 rintro r6 _ _ _ ⟨v6,g9,vH6,rfl,rfl⟩
 refine Aw [1,3,2] hI J J J ?_
 refine Ap<|Aa<|Aj ?_
 refine Y<|O<|Ab 5 [2,0,2] [(46,(.func (.func 51) [(.q ids 1 g1)] [])),(44,(.sl 8 (List.map A7 a.Rules))),(42,(.q ids 1 g1))] ?_
 refine An [1,3] hI J J (Vc [] a.Rules 64 r6.1 r6.2 _ (ix ids 1) (ix ids 3) g1 v6 g9 vH6 (by exact hI.sub' J J)) J J J J J J (fun v _=>Cj Tryz.func14 hI) ?_
 rintro r7 _ _ _ ⟨v7,g10,vH7,rfl,rfl⟩
 refine Aw [1,3] hI J J J ?_
 refine Ap<|Aa<|Aj ?_
 refine Y<|Y<|O<|Ab 4 [2,1] [(51,(.bool r7.1))] ?_
 refine Aa<|Cd J (fun hc=>?_) (fun hc=>?_)
 ·refine Y<|O<|Ab 2 [] [(3,(.I 80)),(2,(.str []))] ?_
  refine Aa<|Bs (a:=([],80)) (vs:=[(.str []),(.I 80)]) Tryz.func14 hI J (.tupL (.cons (.same _) (.cons (.same _) .nil)))
 refine Az<|Y<|O<|Ab 4 [2,1] [(55,v7)] ?_
 refine Bz [v7] J J J J (CP.lend (Ajj r7.2) (LF.lfz (.cons (Fo vH7 (hI.at J J) J (fun x=>Qe x)) .nil)) (fun _ _=>(.tup2 (.str _) (.int _ _)))) (fun v _=>Cj Tryz.func14 hI) fun r8 _=>Ab 4 [] [(3,(.I r8.2)),(2,(.str r8.1))] ?_
 refine Aa<|Bs (a:=(r8.1,r8.2)) (vs:=[(.str r8.1),(.I r8.2)]) Tryz.func14 hI J (.tupL (.cons (.same _) (.cons (.same _) .nil)))
theorem Vs (a:List Span)(b:List Span):CP Tryz.prog 24 [(.sl 2 (List.map Cc a)),(.sl 2 (List.map Cc b))] (Ni a b) (fun(x:Bool)=>(AV.bool x)):=by
 refine C3 (n:=26) 0 Tryz.func24 J (by decide) J J fun h0 ids hI=>Bm (Ak (Ni.eq_1 _ _) ?_)
 refine Y<|O<|Z (.bool false) J Al<|Aa<|Y<|Y<|O ?_
 refine Z (.sl 2 (List.map Cc a)) J Ad<|Z (.I (a.length:Int)) J (A0 (Bd Mw))<|Z (.sl 2 (List.map Cc b)) J Ad<|Z (.I (b.length:Int)) J (A0 (Bd Mw))<|Z (.bool ((a.length:Int) != (b.length:Int))) J (Ba J J J)<|Aa<|Cd J (fun hc=>?_) (fun hc=>?_)
 ·refine Y<|O<|Z (.bool false) J Al<|Aa<|Bs (a:=false) (vs:=[(.bool false)]) Tryz.func24 hI J (.same _)
 refine Az<|Y<|Y<|O<|Z (.I 0) J Al<|Aa<|A8 ?_
 refine Ee [(0,(.sl 2 (List.map Cc a))),(1,(.sl 2 (List.map Cc b))),(5,(.I 0))] (FI J)<|E2 (P:=Tryz.prog) a (fun j a1=>fun _=>M4 b j a1) ((Dz (fun _=>.ok true) (fun r=>.ok r)):(Unit ⊕ Bool)→R Bool) (fun j=>fun _=>fun(fr:Nat→AV) (h:Ae)=>fr=A2 [(0,(.sl 2 (List.map Cc a))),(1,(.sl 2 (List.map Cc b))),(5,(.I (j:Int)))]∧h=hp h0 ids []) () ?_ ?_ ?_
 ·exact⟨J,J⟩
 ·rintro j a1 ha1 W hW _ fr h ⟨rfl,rfl⟩
  refine Ak (m':=M4 b j a1) J (Ak (M4.eq_1 _ _ _) ?_)
  refine Y<|Y<|O<|Ab 2 [] [(12,(.sl 2 (List.map Cc a))),(11,(.I (j:Int)))] ?_
  refine Z (.I (a.length:Int)) J (A0 (Bd Mw))<|Z (.bool (decide ((j:Int)<(a.length:Int)))) J (Ba J J J)<|Aa<|Eb (t:=0) (L:=a) J fun hlim=>C0 J (Int.ofNat_lt.2 (A5 ha1))<|Az<|Y ?_
  refine A8<|Y<|Di Gg [[],[],[0,1],[0,1,2],[],[],[4,5],[4,5,6],[0,1,2,3,4,5,6,7]] [(false,0),(false,1),(false,2),(false,3),(false,4),(false,5),(false,6),(false,7),(false,8)] (by kernel_rfl)<|Ag (.sl 2 (List.map Cc a)) J J Ad<|Ag (.I (j:Int)) J J Ad<|Ag (.cp (Cc a1) 0) J J (Bt (Dm Mw Ly J ha1))<|Ag (.agg (Cc a1)) J J (Au (Cp Ly J)) ?_
  refine Ag (.sl 2 (List.map Cc b)) J J Ad<|Ag (.I (j:Int)) J J Ad<|Px fun a2 hz hx1=>Ag (.cp (Cc a2) 0) J J (Bt (Dy Mw Ly J hz hx1))<|Ag (.agg (Cc a2)) J J (Au (Cp Ly J))<|Ag (.bool (!((a1.From==a2.From)&&(a1.To==a2.To)))) J J (Ba (Amn J J) J Al5)<|Ct ?_
  refine Ei J (fun hc1=>?_) (fun hc1=>?_)
  ·refine Az<|Bn<|O<|Ab 3 [] [(5,(.I (IntKind.wrap .i64 ((j:Int)+1))))] ?_
   refine Aa<|Bo (Fr (hW () _ _ ⟨J,J⟩)) (.cons J (.cons J (.cons (D1 (A5 ha1) hlim) .nil)))
  refine Y<|O<|Z (.bool false) J Al<|Aa<|Fp<|Gx<|Bs (a:=false) (vs:=[(.bool false)]) Tryz.func24 hI J (.same _)
 rintro _ fr h ⟨rfl,rfl⟩
 refine Ak (F0 _ _ _)<|Y<|Y<|O<|Ab 2 [] [(12,(.sl 2 (List.map Cc a))),(11,(.I (a.length:Int)))] ?_
 refine Z (.I (a.length:Int)) J (A0 (Bd Mw))<|Z (.bool (decide ((a.length:Int)<(a.length:Int)))) J (Ba J J J)<|Aa<|C1 J (Int.lt_irrefl _)<|C7 J<|Y<|O ?_
 refine Z (.bool true) J Al<|Aa<|Bs (a:=true) (vs:=[(.bool true)]) Tryz.func24 hI J (.same _)
theorem Rx (a:List Ar)(b:List Ar):CP Tryz.prog 25 [(.sl 1 (List.map rS a)),(.sl 1 (List.map rS b))] (K5 a b) (fun(x:Bool)=>(AV.bool x)):=by
 refine C3 (n:=26) 0 Tryz.func25 J (by decide) J J fun h0 ids hI=>Bm (Ak (K5.eq_1 _ _) ?_)
 refine Y<|O<|Z (.bool false) J Al<|Aa<|Y<|Y<|O ?_
 refine Z (.sl 1 (List.map rS a)) J Ad<|Z (.I (a.length:Int)) J (A0 (Bd D5))<|Z (.sl 1 (List.map rS b)) J Ad<|Z (.I (b.length:Int)) J (A0 (Bd D5))<|Z (.bool ((a.length:Int) != (b.length:Int))) J (Ba J J J)<|Aa<|Cd J (fun hc=>?_) (fun hc=>?_)
 ·refine Y<|O<|Z (.bool false) J Al<|Aa<|Bs (a:=false) (vs:=[(.bool false)]) Tryz.func25 hI J (.same _)
 refine Az<|Y<|Y<|O<|Z (.I 0) J Al<|Aa<|A8 ?_
 refine Ee [(0,(.sl 1 (List.map rS a))),(1,(.sl 1 (List.map rS b))),(5,(.I 0))] (FI J)<|E2 (P:=Tryz.prog) a (fun j a1=>fun _=>Ms b j a1) ((Dz (fun _=>.ok true) (fun r=>.ok r)):(Unit ⊕ Bool)→R Bool) (fun j=>fun _=>fun(fr:Nat→AV) (h:Ae)=>fr=A2 [(0,(.sl 1 (List.map rS a))),(1,(.sl 1 (List.map rS b))),(5,(.I (j:Int)))]∧h=hp h0 ids []) () ?_ ?_ ?_
 ·exact⟨J,J⟩
 ·rintro j a1 ha1 W hW _ fr h ⟨rfl,rfl⟩
  refine Ak (m':=Ms b j a1) J (Ak (Ms.eq_1 _ _ _) ?_)
  refine Y<|Y<|O<|Ab 2 [] [(12,(.sl 1 (List.map rS a))),(11,(.I (j:Int)))] ?_
  refine Z (.I (a.length:Int)) J (A0 (Bd D5))<|Z (.bool (decide ((j:Int)<(a.length:Int)))) J (Ba J J J)<|Aa<|Eb (t:=0) (L:=a) J fun hlim=>C0 J (Int.ofNat_lt.2 (A5 ha1))<|Az<|Y ?_
  refine A8<|Y<|Di Gg [[],[],[0,1],[0,1,2],[],[],[4,5],[4,5,6],[0,1,2,3,4,5,6,7]] [(false,0),(false,1),(false,2),(false,3),(false,4),(false,5),(false,6),(false,7),(false,8)] (by kernel_rfl)<|Ag (.sl 1 (List.map rS a)) J J Ad<|Ag (.I (j:Int)) J J Ad<|Ag (.cp [(.str a1)] 0) J J (Bt (Dm D5 Cy J ha1))<|Ag (.str a1) J J (Au (Cp Cy J)) ?_
  refine Ag (.sl 1 (List.map rS b)) J J Ad<|Ag (.I (j:Int)) J J Ad<|Px fun a2 hz hx1=>Ag (.cp [(.str a2)] 0) J J (Bt (Dy D5 Cy J hz hx1))<|Ag (.str a2) J J (Au (Cp Cy J))<|Ag (.bool (!(a1==a2))) J J (Ba J J J)<|Ct ?_
  refine Ei J (fun hc1=>?_) (fun hc1=>?_)
  ·refine Az<|Bn<|O<|Ab 3 [] [(5,(.I (IntKind.wrap .i64 ((j:Int)+1))))] ?_
   refine Aa<|Bo (Fr (hW () _ _ ⟨J,J⟩)) (.cons J (.cons J (.cons (D1 (A5 ha1) hlim) .nil)))
  refine Y<|O<|Z (.bool false) J Al<|Aa<|Fp<|Gx<|Bs (a:=false) (vs:=[(.bool false)]) Tryz.func25 hI J (.same _)
 rintro _ fr h ⟨rfl,rfl⟩
 refine Ak (F0 _ _ _)<|Y<|Y<|O<|Ab 2 [] [(12,(.sl 1 (List.map rS a))),(11,(.I (a.length:Int)))] ?_
 refine Z (.I (a.length:Int)) J (A0 (Bd D5))<|Z (.bool (decide ((a.length:Int)<(a.length:Int)))) J (Ba J J J)<|Aa<|C1 J (Int.lt_irrefl _)<|C7 J<|Y<|O ?_
 refine Z (.bool true) J Al<|Aa<|Bs (a:=true) (vs:=[(.bool true)]) Tryz.func25 hI J (.same _)
theorem Si (a:List Int)(b:List Int):CP Tryz.prog 26 [(.sl 1 (List.map (rI .i64) a)),(.sl 1 (List.map (rI .i64) b))] (If a b) (fun(x:Bool)=>(AV.bool x)):=by
 refine C3 (n:=26) 0 Tryz.func26 J (by decide) J J fun h0 ids hI=>Bm (Ak (If.eq_1 _ _) ?_)
 refine Y<|O<|Z (.bool false) J Al<|Aa<|Y<|Y<|O ?_
 refine Z (.sl 1 (List.map (rI .i64) a)) J Ad<|Z (.I (a.length:Int)) J (A0 (Bd Ok))<|Z (.sl 1 (List.map (rI .i64) b)) J Ad<|Z (.I (b.length:Int)) J (A0 (Bd Ok))<|Z (.bool ((a.length:Int) != (b.length:Int))) J (Ba J J J)<|Aa<|Cd J (fun hc=>?_) (fun hc=>?_)
 ·refine Y<|O<|Z (.bool false) J Al<|Aa<|Bs (a:=false) (vs:=[(.bool false)]) Tryz.func26 hI J (.same _)
 refine Az<|Y<|Y<|O<|Z (.I 0) J Al<|Aa<|A8 ?_
 refine Ee [(0,(.sl 1 (List.map (rI .i64) a))),(1,(.sl 1 (List.map (rI .i64) b))),(5,(.I 0))] (FI J)<|E2 (P:=Tryz.prog) a (fun j a1=>fun _=>N0 b j a1) ((Dz (fun _=>.ok true) (fun r=>.ok r)):(Unit ⊕ Bool)→R Bool) (fun j=>fun _=>fun(fr:Nat→AV) (h:Ae)=>fr=A2 [(0,(.sl 1 (List.map (rI .i64) a))),(1,(.sl 1 (List.map (rI .i64) b))),(5,(.I (j:Int)))]∧h=hp h0 ids []) () ?_ ?_ ?_
 ·exact⟨J,J⟩
 ·rintro j a1 ha1 W hW _ fr h ⟨rfl,rfl⟩
  refine Ak (m':=N0 b j a1) J (Ak (N0.eq_1 _ _ _) ?_)
  refine Y<|Y<|O<|Ab 2 [] [(12,(.sl 1 (List.map (rI .i64) a))),(11,(.I (j:Int)))] ?_
  refine Z (.I (a.length:Int)) J (A0 (Bd Ok))<|Z (.bool (decide ((j:Int)<(a.length:Int)))) J (Ba J J J)<|Aa<|Eb (t:=0) (L:=a) J fun hlim=>C0 J (Int.ofNat_lt.2 (A5 ha1))<|Az<|Y ?_
  refine A8<|Y<|Di Gg [[],[],[0,1],[0,1,2],[],[],[4,5],[4,5,6],[0,1,2,3,4,5,6,7]] [(false,0),(false,1),(false,2),(false,3),(false,4),(false,5),(false,6),(false,7),(false,8)] (by kernel_rfl)<|Ag (.sl 1 (List.map (rI .i64) a)) J J Ad<|Ag (.I (j:Int)) J J Ad<|Ag (.cp [(.I a1)] 0) J J (Bt (Dm Ok Ds J ha1))<|Ag (.I a1) J J (Au (Cp Ds J)) ?_
  refine Ag (.sl 1 (List.map (rI .i64) b)) J J Ad<|Ag (.I (j:Int)) J J Ad<|Px fun a2 hz hx1=>Ag (.cp [(.I a2)] 0) J J (Bt (Dy Ok Ds J hz hx1))<|Ag (.I a2) J J (Au (Cp Ds J))<|Ag (.bool (a1 != a2)) J J (Ba J J J)<|Ct ?_
  refine Cd J (fun hc1=>?_) (fun hc1=>?_)
  ·refine Y<|O<|Z (.bool false) J Al<|Aa<|Fp<|Gx<|Bs (a:=false) (vs:=[(.bool false)]) Tryz.func26 hI J (.same _)
  refine Az<|Bn<|O<|Ab 3 [] [(5,(.I (IntKind.wrap .i64 ((j:Int)+1))))] ?_
  refine Aa<|Bo (Fr (hW () _ _ ⟨J,J⟩)) (.cons J (.cons J (.cons (D1 (A5 ha1) hlim) .nil)))
 rintro _ fr h ⟨rfl,rfl⟩
 refine Ak (F0 _ _ _)<|Y<|Y<|O<|Ab 2 [] [(12,(.sl 1 (List.map (rI .i64) a))),(11,(.I (a.length:Int)))] ?_
 refine Z (.I (a.length:Int)) J (A0 (Bd Ok))<|Z (.bool (decide ((a.length:Int)<(a.length:Int)))) J (Ba J J J)<|Aa<|C1 J (Int.lt_irrefl _)<|C7 J<|Y<|O ?_
 refine Z (.bool true) J Al<|Aa<|Bs (a:=true) (vs:=[(.bool true)]) Tryz.func26 hI J (.same _)
theorem Qp (a:Airspace)(b:Airspace):CP Tryz.prog 12 [(.agg (Av a)),(.agg (Av b))] (N4 a b) (fun(x:Bool)=>(AV.bool x)):=by
 refine C3 (n:=422) 12 Tryz.func12 J (by decide) J J fun h0 ids hI=>Bm (Ak (N4.eq_1 _ _) ?_)
 refine Y<|O<|Cv (v:=(.agg (Av a))) (j:=0) hI J J J J J J J fun g=>Cv (v:=(.agg (Av b))) (j:=1) hI J J J J J J J fun g1=>Z (.bool false) J Al<|Aa<|Aj ?_
 refine Y<|Y<|O<|Ab 2 [0] [(25,(.sl 2 (List.map As a.Volumes)))] ?_
 refine Z (.I (a.Volumes.length:Int)) J (A0 (Bd J2))<|Ab 2 [1] [(28,(.sl 2 (List.map As b.Volumes)))] ?_
 refine Z (.I (b.Volumes.length:Int)) J (A0 (Bd J2))<|Ab 2 [] [(31,(.bool ((a.Volumes.length:Int) != (b.Volumes.length:Int))))] ?_
 refine B8 8 [(2,(.q ids 0 g)),(3,(.q ids 1 g1)),(39,(.bool (((a.Volumes.length:Int) != (b.Volumes.length:Int))||((a.Sectors.length:Int) != (b.Sectors.length:Int)))))] ?_ fun hJ=>Bu ((a.Volumes.length:Int) != (b.Volumes.length:Int)) (fun hb1=>?_) (fun hb1=>?_)
 ·refine Z (.bool (((a.Volumes.length:Int) != (b.Volumes.length:Int))||((a.Sectors.length:Int) != (b.Sectors.length:Int)))) J Ad<|B8 8 [(2,(.q ids 0 g)),(3,(.q ids 1 g1)),(48,(.bool ((((a.Volumes.length:Int) != (b.Volumes.length:Int))||((a.Sectors.length:Int) != (b.Sectors.length:Int)))||((a.Configs.length:Int) != (b.Configs.length:Int)))))] ?_ fun hJ1=>Bu (((a.Volumes.length:Int) != (b.Volumes.length:Int))||((a.Sectors.length:Int) != (b.Sectors.length:Int))) (fun hb3=>?_) (fun hb3=>?_)
  ·refine Z (.bool ((((a.Volumes.length:Int) != (b.Volumes.length:Int))||((a.Sectors.length:Int) != (b.Sectors.length:Int)))||((a.Configs.length:Int) != (b.Configs.length:Int)))) J Ad<|B8 8 [(2,(.q ids 0 g)),(3,(.q ids 1 g1)),(57,(.bool (((((a.Volumes.length:Int) != (b.Volumes.length:Int))||((a.Sectors.length:Int) != (b.Sectors.length:Int)))||((a.Configs.length:Int) != (b.Configs.length:Int)))||((a.Segments.length:Int) != (b.Segments.length:Int)))))] ?_ fun hJ2=>Bu ((((a.Volumes.length:Int) != (b.Volumes.length:Int))||((a.Sectors.length:Int) != (b.Sectors.length:Int)))||((a.Configs.length:Int) != (b.Configs.length:Int))) (fun hb5=>?_) (fun hb5=>?_)
   ·refine Z (.bool (((((a.Volumes.length:Int) != (b.Volumes.length:Int))||((a.Sectors.length:Int) != (b.Sectors.length:Int)))||((a.Configs.length:Int) != (b.Configs.length:Int)))||((a.Segments.length:Int) != (b.Segments.length:Int)))) J Ad<|B8 8 [(2,(.q ids 0 g)),(3,(.q ids 1 g1)),(66,(.bool ((((((a.Volumes.length:Int) != (b.Volumes.length:Int))||((a.Sectors.length:Int) != (b.Sectors.length:Int)))||((a.Configs.length:Int) != (b.Configs.length:Int)))||((a.Segments.length:Int) != (b.Segments.length:Int)))||((a.Routes.length:Int) != (b.Routes.length:Int)))))] ?_ fun hJ3=>Bu (((((a.Volumes.length:Int) != (b.Volumes.length:Int))||((a.Sectors.length:Int) != (b.Sectors.length:Int)))||((a.Configs.length:Int) != (b.Configs.length:Int)))||((a.Segments.length:Int) != (b.Segments.length:Int))) (fun hb7=>?_) (fun hb7=>?_)
    ·refine Z (.bool ((((((a.Volumes.length:Int) != (b.Volumes.length:Int))||((a.Sectors.length:Int) != (b.Sectors.length:Int)))||((a.Configs.length:Int) != (b.Configs.length:Int)))||((a.Segments.length:Int) != (b.Segments.length:Int)))||((a.Routes.length:Int) != (b.Routes.length:Int)))) J Ad<|B8 8 [(2,(.q ids 0 g)),(3,(.q ids 1 g1)),(75,(.bool (((((((a.Volumes.length:Int) != (b.Volumes.length:Int))||((a.Sectors.length:Int) != (b.Sectors.length:Int)))||((a.Configs.length:Int) != (b.Configs.length:Int)))||((a.Segments.length:Int) != (b.Segments.length:Int)))||((a.Routes.length:Int) != (b.Routes.length:Int)))||((a.Airports.length:Int) != (b.Airports.length:Int)))))] ?_ fun hJ4=>Bu ((((((a.Volumes.length:Int) != (b.Volumes.length:Int))||((a.Sectors.length:Int) != (b.Sectors.length:Int)))||((a.Configs.length:Int) != (b.Configs.length:Int)))||((a.Segments.length:Int) != (b.Segments.length:Int)))||((a.Routes.length:Int) != (b.Routes.length:Int))) (fun hb9=>?_) (fun hb9=>?_)
     ·refine Z (.bool (((((((a.Volumes.length:Int) != (b.Volumes.length:Int))||((a.Sectors.length:Int) != (b.Sectors.length:Int)))||((a.Configs.length:Int) != (b.Configs.length:Int)))||((a.Segments.length:Int) != (b.Segments.length:Int)))||((a.Routes.length:Int) != (b.Routes.length:Int)))||((a.Airports.length:Int) != (b.Airports.length:Int)))) J Ad<|B8 8 [(2,(.q ids 0 g)),(3,(.q ids 1 g1)),(84,(.bool ((((((((a.Volumes.length:Int) != (b.Volumes.length:Int))||((a.Sectors.length:Int) != (b.Sectors.length:Int)))||((a.Configs.length:Int) != (b.Configs.length:Int)))||((a.Segments.length:Int) != (b.Segments.length:Int)))||((a.Routes.length:Int) != (b.Routes.length:Int)))||((a.Airports.length:Int) != (b.Airports.length:Int)))||((a.Classes.length:Int) != (b.Classes.length:Int)))))] ?_ fun hJ5=>Bu (((((((a.Volumes.length:Int) != (b.Volumes.length:Int))||((a.Sectors.length:Int) != (b.Sectors.length:Int)))||((a.Configs.length:Int) != (b.Configs.length:Int)))||((a.Segments.length:Int) != (b.Segments.length:Int)))||((a.Routes.length:Int) != (b.Routes.length:Int)))||((a.Airports.length:Int) != (b.Airports.length:Int))) (fun hb11=>?_) (fun hb11=>?_)
      ·refine Z (.bool ((((((((a.Volumes.length:Int) != (b.Volumes.length:Int))||((a.Sectors.length:Int) != (b.Sectors.length:Int)))||((a.Configs.length:Int) != (b.Configs.length:Int)))||((a.Segments.length:Int) != (b.Segments.length:Int)))||((a.Routes.length:Int) != (b.Routes.length:Int)))||((a.Airports.length:Int) != (b.Airports.length:Int)))||((a.Classes.length:Int) != (b.Classes.length:Int)))) J Ad<|B8 8 [(2,(.q ids 0 g)),(3,(.q ids 1 g1)),(93,(.bool (((((((((a.Volumes.length:Int) != (b.Volumes.length:Int))||((a.Sectors.length:Int) != (b.Sectors.length:Int)))||((a.Configs.length:Int) != (b.Configs.length:Int)))||((a.Segments.length:Int) != (b.Segments.length:Int)))||((a.Routes.length:Int) != (b.Routes.length:Int)))||((a.Airports.length:Int) != (b.Airports.length:Int)))||((a.Classes.length:Int) != (b.Classes.length:Int)))||((a.Rules.length:Int) != (b.Rules.length:Int)))))] ?_ fun hJ6=>Bu ((((((((a.Volumes.length:Int) != (b.Volumes.length:Int))||((a.Sectors.length:Int) != (b.Sectors.length:Int)))||((a.Configs.length:Int) != (b.Configs.length:Int)))||((a.Segments.length:Int) != (b.Segments.length:Int)))||((a.Routes.length:Int) != (b.Routes.length:Int)))||((a.Airports.length:Int) != (b.Airports.length:Int)))||((a.Classes.length:Int) != (b.Classes.length:Int))) (fun hb13=>?_) (fun hb13=>?_)
       ·refine Aa<|Cd J (fun hc=>?_) (fun hc=>?_)
        ·refine Y<|O<|Z (.bool false) J Al<|Aa<|Bs (a:=false) (vs:=[(.bool false)]) Tryz.func12 hI J (.same _)
        refine Az<|Y<|Y<|O<|Z (.I 0) J Al<|Aa<|A8 ?_
        refine Ee [(2,(.q ids 0 g)),(3,(.q ids 1 g1)),(5,(.I 0))] (FI J)<|E2 (P:=Tryz.prog) a.Volumes (fun j a1=>fun _=>Qq b j a1) ((Dz (fun _=>(each (fun j1 a3=>fun _=>Ov b j1 a3) 0 a.Sectors ()).bind (Dz (fun _=>(each (fun j2 a5=>fun _=>Nm b j2 a5) 0 a.Configs ()).bind (Dz (fun _=>(each (fun j3 a7=>fun _=>Ls b j3 a7) 0 a.Segments ()).bind (Dz (fun _=>(each (fun j4 a9=>fun _=>Kj b j4 a9) 0 a.Routes ()).bind (Dz (fun _=>(each (fun j5 a11=>fun _=>I7 b j5 a11) 0 a.Airports ()).bind (Dz (fun _=>(each (fun j7 a15=>fun _=>H6 b j7 a15) 0 a.Classes ()).bind (Dz (fun _=>(each (fun j8 a17=>fun _=>G8 b j8 a17) 0 a.Rules ()).bind (Dz (fun _=>.ok true) (fun r=>.ok r))) (fun r=>.ok r))) (fun r=>.ok r))) (fun r=>.ok r))) (fun r=>.ok r))) (fun r=>.ok r))) (fun r=>.ok r))) (fun r=>.ok r)):(Unit ⊕ Bool)→R Bool) (fun j=>fun _=>fun(fr:Nat→AV) (h:Ae)=>fr=A2 [(2,(.q ids 0 g)),(3,(.q ids 1 g1)),(5,(.I (j:Int)))]∧h=hp h0 ids [(some (.rows g 8 [(Av a)])),(some (.rows g1 8 [(Av b)])),none,none,none,none,none,none,none,none,none,none]) () ?_ ?_ ?_
        ·exact⟨J,J⟩
        ·rintro j a1 ha1 W hW _ fr h ⟨rfl,rfl⟩
         refine Ak (m':=Qq b j a1) J (Ak (Qq.eq_1 _ _ _) ?_)
         refine Y<|Y<|O<|Ab 3 [0] [(96,(.sl 2 (List.map As a.Volumes))),(94,(.I (j:Int)))] ?_
         refine Z (.I (a.Volumes.length:Int)) J (A0 (Bd J2))<|Z (.bool (decide ((j:Int)<(a.Volumes.length:Int)))) J (Ba J J J)<|Aa<|Eb (t:=96) (L:=a.Volumes) J fun hlim1=>C0 J (Int.ofNat_lt.2 (A5 ha1))<|Az<|Y ?_
         refine A8<|Y<|Ed (fun x1=>Qt x1) (fun x1=>fun(fr:Nat→AV) (h:Ae)=>fr=A2 [(2,(.q ids 0 g)),(3,(.q ids 1 g1)),(5,(.I (j:Int))),(129,(.bool x1))]∧h=hp h0 ids [(some (.rows g 8 [(Av a)])),(some (.rows g1 8 [(Av b)])),none,none,none,none,none,none,none,none,none,none]) ?_ fun hJ7=>?_
         ·rintro x1 fr h ⟨rfl,rfl⟩
          refine Ak (Qt.eq_1 _)<|Cd J (fun hc1=>?_) (fun hc1=>?_)
          ·refine Y<|O<|Z (.bool false) J Al<|Aa<|Fp<|Gx<|Bs (a:=false) (vs:=[(.bool false)]) Tryz.func12 hI J (.same _)
          refine Az<|Bn<|O<|Ab 3 [] [(5,(.I (IntKind.wrap .i64 ((j:Int)+1))))] ?_
          refine Aa<|Bo (Fr (hW () _ _ ⟨J,J⟩)) (.cons J (.cons J (.cons (D1 (A5 ha1) hlim1) .nil)))
         refine Di Gg [[],[0],[],[0,1,2],[0,1,2,3],[0,1,2,3,4],[],[6],[],[6,7,8],[6,7,8,9],[6,7,8,9,10],[0,1,2,3,4,5,6,7,8,9,10,11],[0,1,2,3,4,5,6,7,8,9,10,11,12],[0,1,2,3,4,5,6,7,8,9,10,11,12,13],[0,1,2,3,4,5,6,7,8,9,10,11,12,13,14],[0,1,2,3,4,5,6,7,8,9,10,11,12,13],[0,1,2,3,4,5,6,7,8,9,10,11,12,13,14,15,16],[0,1,2,3,4,5,6,7,8,9,10,11,12,13,14,15,16,17],[0,1,2,3,4,5,6,7,8,9,10,11,12,13,14,15,16,17,18],[0,1,2,3,4,5,6,7,8,9,10,11,12,13],[0,1,2,3,4,5,6,7,8,9,10,11,12,13,20],[0,1,2,3,4,5,6,7,8,9,10,11,12,13],[0,1,2,3,4,5,6,7,8,9,10,11,12,13,20,21,22],[0,1,2,3,4,5,6,7,8,9,10,11,12,13,20,21,22,23],[0,1,2,3,4,5,6,7,8,9,10,11,12,13,20,21,22,23,24],[0,1,2,3,4,5,6,7,8,9,10,11,12,13,14,15,16,17,18,19,20,21,22,23,24,25],[0,1,2,3,4,5,6,7,8,9,10,11,12,13,14,15,16,17,18,19,20,21,22,23,24,25,26],[0,1,2,3,4,5,6,7,8,9,10,11,12,13,14,15,16,17,18,19,20,21,22,23,24,25,26,27]] [(false,0),(false,1),(false,2),(false,3),(false,4),(false,5),(false,6),(false,7),(false,8),(false,9),(false,10),(false,11),(false,12),(false,13),(false,14),(false,15),(false,16),(false,17),(false,18),(false,19),(false,20),(false,21),(false,22),(false,23),(false,24),(false,25),(true,26),(false,27),(false,28)] (by kernel_rfl)<|Ag (.q ids 0 g) J J (B9 (By (c:=0) (off:=0) (i:=0) Ec J J2 J))<|Ag (.sl 2 (List.map As a.Volumes)) J J (Au (Be hI J J J J2 J))<|Ag (.I (j:Int)) J J Ad<|Ag (.cp (As a1) 0) J J (Bt (Dm J2 Ko J ha1))<|Ag (.cp (As a1) 0) J J (B9 (Aah (c:=0) (off:=0) (i:=0) Ko J Cy J))<|Ag (.str a1.Name) J J (Au (Cp Cy J)) ?_
         refine Ag (.q ids 1 g1) J J (B9 (By (c:=0) (off:=0) (i:=0) Ec J J2 J))<|Ag (.sl 2 (List.map As b.Volumes)) J J (Au (Be hI J J J J2 J))<|Ag (.I (j:Int)) J J Ad<|Px fun a2 hz hx1=>Ag (.cp (As a2) 0) J J (Bt (Dy J2 Ko J hz hx1))<|Ag (.cp (As a2) 0) J J (B9 (Aah (c:=0) (off:=0) (i:=0) Ko J Cy J))<|Ag (.str a2.Name) J J (Au (Cp Cy J)) ?_
         refine Ag (.bool (!(a1.Name==a2.Name))) J J (Ba J J J)<|Ag (.bool (!(a1.Name==a2.Name))) J J Ad<|Lq (fun hb14=>?_) (fun hb14=>?_)
         ·refine Gw (tj:=114) (b:=true) J J (congrArg AV.bool hb14) J J<|Gw (tj:=114) (b:=true) J J (congrArg AV.bool hb14) J J<|Gw (tj:=114) (b:=true) J J (congrArg AV.bool hb14) J J<|Gw (tj:=114) (b:=true) J J (congrArg AV.bool hb14) J J<|Gw (tj:=114) (b:=true) J J (congrArg AV.bool hb14) J J<|Gw (tj:=114) (b:=true) J J (congrArg AV.bool hb14) J J<|Gw (tj:=114) (b:=true) J J (congrArg AV.bool hb14) J J ?_
          refine Gw (tj:=114) (b:=true) J J (congrArg AV.bool hb14) J J<|Gw (tj:=114) (b:=true) J J (congrArg AV.bool hb14) J J<|Gw (tj:=114) (b:=true) J J (congrArg AV.bool hb14) J J<|Gw (tj:=114) (b:=true) J J (congrArg AV.bool hb14) J J<|Gw (tj:=114) (b:=true) J J (congrArg AV.bool hb14) J J<|Zv (tj:=114) (b:=true) J J (congrArg AV.bool hb14) J J<|Gw (tj:=114) (b:=true) J J (congrArg AV.bool hb14) J J ?_
          refine Ag (.bool true) J J (Ep (t:=true) (congrArg AV.bool hb14) J)<|Ct<|Bo (hJ7 true _ _ ⟨J,J⟩)
         refine Gm (tj:=114) (.q ids 0 g) J J (congrArg AV.bool hb14) J (B9 (By (c:=0) (off:=0) (i:=0) Ec J J2 J))<|Gm (tj:=114) (.sl 2 (List.map As a.Volumes)) J J (congrArg AV.bool hb14) J (Au (Be hI J J J J2 J))<|Gm (tj:=114) (.I (j:Int)) J J (congrArg AV.bool hb14) J Ad<|Gm (tj:=114) (.cp (As a1) 0) J J (congrArg AV.bool hb14) J (Bt (Dm J2 Ko J ha1))<|Gm (tj:=114) (.cp (As a1) 1) J J (congrArg AV.bool hb14) J (B9 (Aah (c:=0) (off:=1) (i:=1) Ko J Mw J))<|Gm (tj:=114) (.sl 2 (List.map Cc a1.Closed)) J J (congrArg AV.bool hb14) J (Au (Cp Mw J))<|Gm (tj:=114) (.q ids 1 g1) J J (congrArg AV.bool hb14) J (B9 (By (c:=0) (off:=0) (i:=0) Ec J J2 J)) ?_
         refine Gm (tj:=114) (.sl 2 (List.map As b.Volumes)) J J (congrArg AV.bool hb14) J (Au (Be hI J J J J2 J))<|Gm (tj:=114) (.I (j:Int)) J J (congrArg AV.bool hb14) J Ad<|Gm (tj:=114) (.cp (As a2) 0) J J (congrArg AV.bool hb14) J (Bt (Dy J2 Ko J hz hx1))<|Gm (tj:=114) (.cp (As a2) 1) J J (congrArg AV.bool hb14) J (B9 (Aah (c:=0) (off:=1) (i:=1) Ko J Mw J))<|Gm (tj:=114) (.sl 2 (List.map Cc a2.Closed)) J J (congrArg AV.bool hb14) J (Au (Cp Mw J))<|W7 [(.sl 2 (List.map Cc a1.Closed)),(.sl 2 (List.map Cc a2.Closed))] J (Co (tj:=114) J (congrArg AV.bool hb14)) J J J ((Vs a1.Closed a2.Closed) _) (fun v _ _ _=>Cj Tryz.func12 hI) (Af J (Af J (Af J (Af J (Af J (Af J (Af J (Af J (Af J (Af J (Af J (Af J (Af J (Af J (Af J (Af J (Af J (Af J (Af J (Af J (Af J (Af J (Af J (Af J (Af J (Af J Bw)))))))))))))))))))))))))) fun r _=>Gm (tj:=114) (.bool (!r)) J J (congrArg AV.bool hb14) J (Q7 J) ?_
         refine Ag (.bool (!r)) J J (Ep (t:=false) (congrArg AV.bool hb14) J)<|Ct<|Bo (hJ7 (!r) _ _ ⟨J,J⟩)
        rintro _ fr h ⟨rfl,rfl⟩
        refine Ak (F0 _ _ _)<|Y<|Y<|O<|Ab 3 [0] [(96,(.sl 2 (List.map As a.Volumes))),(94,(.I (a.Volumes.length:Int)))] ?_
        refine Z (.I (a.Volumes.length:Int)) J (A0 (Bd J2))<|Z (.bool (decide ((a.Volumes.length:Int)<(a.Volumes.length:Int)))) J (Ba J J J)<|Aa<|C1 J (Int.lt_irrefl _)<|C7 J<|Y<|Y ?_
        refine O<|Z (.I 0) J Al<|Aa<|A8<|Ee [(2,(.q ids 0 g)),(3,(.q ids 1 g1)),(6,(.I 0))] (FI J)<|E2 (P:=Tryz.prog) a.Sectors (fun j1 a3=>fun _=>Ov b j1 a3) ((Dz (fun _=>(each (fun j2 a5=>fun _=>Nm b j2 a5) 0 a.Configs ()).bind (Dz (fun _=>(each (fun j3 a7=>fun _=>Ls b j3 a7) 0 a.Segments ()).bind (Dz (fun _=>(each (fun j4 a9=>fun _=>Kj b j4 a9) 0 a.Routes ()).bind (Dz (fun _=>(each (fun j5 a11=>fun _=>I7 b j5 a11) 0 a.Airports ()).bind (Dz (fun _=>(each (fun j7 a15=>fun _=>H6 b j7 a15) 0 a.Classes ()).bind (Dz (fun _=>(each (fun j8 a17=>fun _=>G8 b j8 a17) 0 a.Rules ()).bind (Dz (fun _=>.ok true) (fun r=>.ok r))) (fun r=>.ok r))) (fun r=>.ok r))) (fun r=>.ok r))) (fun r=>.ok r))) (fun r=>.ok r))) (fun r=>.ok r)):(Unit ⊕ Bool)→R Bool) (fun j1=>fun _=>fun(fr:Nat→AV) (h:Ae)=>fr=A2 [(2,(.q ids 0 g)),(3,(.q ids 1 g1)),(6,(.I (j1:Int)))]∧h=hp h0 ids [(some (.rows g 8 [(Av a)])),(some (.rows g1 8 [(Av b)])),none,none,none,none,none,none,none,none,none,none]) () ?_ ?_ ?_
        ·exact⟨J,J⟩
        ·rintro j1 a3 ha3 W hW1 _ fr h ⟨rfl,rfl⟩
         refine Ak (m':=Ov b j1 a3) J (Ak (Ov.eq_1 _ _ _) ?_)
         refine Y<|Y<|O<|Ab 3 [0] [(132,(.sl 5 (List.map A3 a.Sectors))),(130,(.I (j1:Int)))] ?_
         refine Z (.I (a.Sectors.length:Int)) J (A0 (Bd Ji))<|Z (.bool (decide ((j1:Int)<(a.Sectors.length:Int)))) J (Ba J J J)<|Aa<|Eb (t:=132) (L:=a.Sectors) J fun hlim3=>C0 J (Int.ofNat_lt.2 (A5 ha3))<|Az<|Y ?_
         refine A8<|Y<|O<|Ab 3 [0] [(139,(.I (j1:Int))),(138,(.sl 5 (List.map A3 a.Sectors)))] ?_
         refine Z (.cp (A3 a3) 0) J (Bt (Dm Ji Gp J ha3))<|Z (.agg (A3 a3)) J (Au (Cp Gp J))<|Bc (j:=2) hI J J J J Gp J fun g2=>Aq (Ax (v:=(.agg (A3 a3))) hI J J J J Gp J J J J J)<|Aa<|Aj ?_
         refine Y<|O<|Ab 3 [1] [(144,(.I (j1:Int))),(143,(.sl 5 (List.map A3 b.Sectors)))] ?_
         refine Ey fun a4 hz1 hx2=>Z (.cp (A3 a4) 0) J (Bt (Dy Ji Gp J hz1 hx2))<|Z (.agg (A3 a4)) J (Au (Cp Gp J))<|Bc (j:=3) hI J J J J Gp J fun g3=>Aq (Ax (v:=(.agg (A3 a4))) hI J J J J Gp J J J J J)<|Aa<|Aj ?_
         refine Y<|O<|Ab 6 [2,3] [(152,(.bool (!(a3.Name==a4.Name))))] ?_
         refine Dk 7 ((fun(b1:Bool)=>(if b1 then R.ok true else(If a3.Volumes a4.Volumes).bind fun r2=>R.ok (!r2)).bind (fun(b2:Bool)=>if((b2||(a3.Radar != a4.Radar))||(a3.Procedural != a4.Procedural)) then(.ok (.inr (false))) else(.ok (.inl ())))):Bool→R (Unit ⊕ Bool)) (fun(b1:Bool) (fr:Nat→AV) (h:Ae)=>fr=A2 [(2,(.q ids 0 g)),(3,(.q ids 1 g1)),(6,(.I (j1:Int))),(7,(.q ids 2 g2)),(8,(.q ids 3 g3)),(159,(.bool b1))]∧h=hp h0 ids [(some (.rows g 8 [(Av a)])),(some (.rows g1 8 [(Av b)])),(some (.rows g2 5 [(A3 a3)])),(some (.rows g3 5 [(A3 a4)])),none,none,none,none,none,none,none,none]) ?_ fun hJ8=>D7 (fun hb16=>?_) (fun hb16=>?_)
         ·rintro b1 fr h ⟨rfl,rfl⟩
          refine Z (.bool b1) J Ad<|Dk 7 ((fun(b2:Bool)=>if((b2||(a3.Radar != a4.Radar))||(a3.Procedural != a4.Procedural)) then(.ok (.inr (false))) else(.ok (.inl ()))):Bool→R (Unit ⊕ Bool)) (fun(b2:Bool) (fr:Nat→AV) (h:Ae)=>fr=A2 [(2,(.q ids 0 g)),(3,(.q ids 1 g1)),(6,(.I (j1:Int))),(7,(.q ids 2 g2)),(8,(.q ids 3 g3)),(167,(.bool b2))]∧h=hp h0 ids [(some (.rows g 8 [(Av a)])),(some (.rows g1 8 [(Av b)])),(some (.rows g2 5 [(A3 a3)])),(some (.rows g3 5 [(A3 a4)])),none,none,none,none,none,none,none,none]) ?_ fun hJ9=>D7 (fun hb18=>?_) (fun hb18=>?_)
          ·rintro b2 fr h ⟨rfl,rfl⟩
           refine Z (.bool b2) J Ad<|B8 6 [(2,(.q ids 0 g)),(3,(.q ids 1 g1)),(6,(.I (j1:Int))),(7,(.q ids 2 g2)),(8,(.q ids 3 g3)),(174,(.bool (b2||(a3.Radar != a4.Radar))))] ?_ fun hJ10=>Bu b2 (fun hb20=>?_) (fun hb20=>?_)
           ·refine Z (.bool (b2||(a3.Radar != a4.Radar))) J Ad<|B8 6 [(2,(.q ids 0 g)),(3,(.q ids 1 g1)),(6,(.I (j1:Int))),(181,(.bool ((b2||(a3.Radar != a4.Radar))||(a3.Procedural != a4.Procedural))))] ?_ fun hJ11=>Bu (b2||(a3.Radar != a4.Radar)) (fun hb22=>?_) (fun hb22=>?_)
            ·refine Aa<|Cd J (fun hc2=>?_) (fun hc2=>?_)
             ·refine Y<|O<|Z (.bool false) J Al<|Aa<|Fp<|Gx<|Bs (a:=false) (vs:=[(.bool false)]) Tryz.func12 hI J (.same _)
             refine Az<|Bn<|O<|Ab 3 [] [(6,(.I (IntKind.wrap .i64 ((j1:Int)+1))))] ?_
             refine Aa<|Eh [(some (.rows g 8 [(Av a)])),(some (.rows g1 8 [(Av b)])),none,none,none,none,none,none,none,none,none,none] hI J (.keep (.keep (.drop (.drop (.keep (.keep (.keep (.keep (.keep (.keep (.keep (.keep .nil))))))))))))<|Bo (Fr (hW1 () _ _ ⟨J,J⟩)) (.cons J (.cons J (.cons (D1 (A5 ha3) hlim3) .nil)))
            ·refine A4 (t:=175) hb22 J<|Ab 6 [] [(181,(.bool true)),(180,.und),(179,.und),(178,.und),(177,.und),(176,.und)] ?_
             exact Bk hJ11 (.cons J (.cons J (.cons J (.cons (Fu hb22) .nil))))
            refine A4 (t:=175) hb22 J<|Ab 6 [2,3] [(181,(.bool (a3.Procedural != a4.Procedural))),(180,(.bool (a3.Procedural != a4.Procedural))),(179,(.I a4.Procedural)),(178,(.ptr (ix ids 3) g3 0 4)),(177,(.I a3.Procedural)),(176,(.ptr (ix ids 2) g2 0 4))] ?_
            exact Bk hJ11 (.cons J (.cons J (.cons J (.cons (Fw hb22) .nil))))
           ·refine A4 (t:=168) hb20 J<|Ab 6 [] [(174,(.bool true)),(173,.und),(172,.und),(171,.und),(170,.und),(169,.und)] ?_
            exact Bk hJ10 (.cons J (.cons J (.cons J (.cons J (.cons J (.cons (Fu hb20) .nil))))))
           refine A4 (t:=168) hb20 J<|Ab 6 [2,3] [(174,(.bool (a3.Radar != a4.Radar))),(173,(.bool (a3.Radar != a4.Radar))),(172,(.I a4.Radar)),(171,(.ptr (ix ids 3) g3 0 3)),(170,(.I a3.Radar)),(169,(.ptr (ix ids 2) g2 0 3))] ?_
           exact Bk hJ10 (.cons J (.cons J (.cons J (.cons J (.cons J (.cons (Fw hb20) .nil))))))
          ·refine A4 (t:=160) hb18 J<|Ab 7 [] [(167,(.bool true)),(166,.und),(165,.und),(164,.und),(163,.und),(162,.und),(161,.und)] ?_
           refine Bj<|Ch [(2,(.q ids 0 g)),(3,(.q ids 1 g1)),(6,(.I (j1:Int))),(7,(.q ids 2 g2)),(8,(.q ids 3 g3)),(167,(.bool true))] (FI J)<|hJ9 true _ _ ⟨J,J⟩
          refine A4 (t:=160) hb18 J<|Ab 4 [2,3] [(164,(.sl 1 (List.map (rI .i64) a4.Volumes))),(163,(.ptr (ix ids 3) g3 0 2)),(162,(.sl 1 (List.map (rI .i64) a3.Volumes))),(161,(.ptr (ix ids 2) g2 0 2))] ?_
          refine Bz [(.sl 1 (List.map (rI .i64) a3.Volumes)),(.sl 1 (List.map (rI .i64) a4.Volumes))] J (Co (tj:=160) J J) J J ((Si a3.Volumes a4.Volumes) _) (fun v _=>Cj Tryz.func12 hI) fun r2 _=>Ab 2 [] [(167,(.bool (!r2))),(166,(.bool (!r2)))] ?_
          refine Bj<|Ch [(2,(.q ids 0 g)),(3,(.q ids 1 g1)),(6,(.I (j1:Int))),(7,(.q ids 2 g2)),(8,(.q ids 3 g3)),(167,(.bool (!r2)))] (FI J)<|hJ9 (!r2) _ _ ⟨J,J⟩
         ·refine A4 (t:=152) hb16 J<|Ab 7 [] [(159,(.bool true)),(158,.und),(157,.und),(156,.und),(155,.und),(154,.und),(153,.und)] ?_
          refine Bj<|Ch [(2,(.q ids 0 g)),(3,(.q ids 1 g1)),(6,(.I (j1:Int))),(7,(.q ids 2 g2)),(8,(.q ids 3 g3)),(159,(.bool true))] (FI J)<|hJ8 true _ _ ⟨J,J⟩
         refine A4 (t:=152) hb16 J<|Ab 4 [2,3] [(156,(.sl 1 (List.map rS a4.Names))),(155,(.ptr (ix ids 3) g3 0 1)),(154,(.sl 1 (List.map rS a3.Names))),(153,(.ptr (ix ids 2) g2 0 1))] ?_
         refine Bz [(.sl 1 (List.map rS a3.Names)),(.sl 1 (List.map rS a4.Names))] J (Co (tj:=152) J J) J J ((Rx a3.Names a4.Names) _) (fun v _=>Cj Tryz.func12 hI) fun r1 _=>Ab 2 [] [(159,(.bool (!r1))),(158,(.bool (!r1)))] ?_
         refine Bj<|Ch [(2,(.q ids 0 g)),(3,(.q ids 1 g1)),(6,(.I (j1:Int))),(7,(.q ids 2 g2)),(8,(.q ids 3 g3)),(159,(.bool (!r1)))] (FI J)<|hJ8 (!r1) _ _ ⟨J,J⟩
        rintro _ fr h ⟨rfl,rfl⟩
        refine Ak (F0 _ _ _)<|Y<|Y<|O<|Ab 3 [0] [(132,(.sl 5 (List.map A3 a.Sectors))),(130,(.I (a.Sectors.length:Int)))] ?_
        refine Z (.I (a.Sectors.length:Int)) J (A0 (Bd Ji))<|Z (.bool (decide ((a.Sectors.length:Int)<(a.Sectors.length:Int)))) J (Ba J J J)<|Aa<|C1 J (Int.lt_irrefl _)<|C7 J<|Y<|Y ?_
        refine O<|Z (.I 0) J Al<|Aa<|A8<|Ee [(2,(.q ids 0 g)),(3,(.q ids 1 g1)),(9,(.I 0))] (FI J)<|E2 (P:=Tryz.prog) a.Configs (fun j2 a5=>fun _=>Nm b j2 a5) ((Dz (fun _=>(each (fun j3 a7=>fun _=>Ls b j3 a7) 0 a.Segments ()).bind (Dz (fun _=>(each (fun j4 a9=>fun _=>Kj b j4 a9) 0 a.Routes ()).bind (Dz (fun _=>(each (fun j5 a11=>fun _=>I7 b j5 a11) 0 a.Airports ()).bind (Dz (fun _=>(each (fun j7 a15=>fun _=>H6 b j7 a15) 0 a.Classes ()).bind (Dz (fun _=>(each (fun j8 a17=>fun _=>G8 b j8 a17) 0 a.Rules ()).bind (Dz (fun _=>.ok true) (fun r=>.ok r))) (fun r=>.ok r))) (fun r=>.ok r))) (fun r=>.ok r))) (fun r=>.ok r))) (fun r=>.ok r)):(Unit ⊕ Bool)→R Bool) (fun j2=>fun _=>fun(fr:Nat→AV) (h:Ae)=>fr=A2 [(2,(.q ids 0 g)),(3,(.q ids 1 g1)),(9,(.I (j2:Int)))]∧h=hp h0 ids [(some (.rows g 8 [(Av a)])),(some (.rows g1 8 [(Av b)])),none,none,none,none,none,none,none,none,none,none]) () ?_ ?_ ?_
        ·exact⟨J,J⟩
        ·rintro j2 a5 ha5 W hW2 _ fr h ⟨rfl,rfl⟩
         refine Ak (m':=Nm b j2 a5) J (Ak (Nm.eq_1 _ _ _) ?_)
         refine Y<|Y<|O<|Ab 3 [0] [(184,(.sl 3 (List.map Bf a.Configs))),(182,(.I (j2:Int)))] ?_
         refine Z (.I (a.Configs.length:Int)) J (A0 (Bd K1))<|Z (.bool (decide ((j2:Int)<(a.Configs.length:Int)))) J (Ba J J J)<|Aa<|Eb (t:=184) (L:=a.Configs) J fun hlim5=>C0 J (Int.ofNat_lt.2 (A5 ha5))<|Az<|Y ?_
         refine A8<|Y<|O<|Ab 3 [0] [(191,(.I (j2:Int))),(190,(.sl 3 (List.map Bf a.Configs)))] ?_
         refine Z (.cp (Bf a5) 0) J (Bt (Dm K1 Iu J ha5))<|Z (.agg (Bf a5)) J (Au (Cp Iu J))<|Bc (j:=4) hI J J J J Iu J fun g4=>Aq (Ax (v:=(.agg (Bf a5))) hI J J J J Iu J J J J J)<|Aa<|Aj ?_
         refine Y<|O<|Ab 3 [1] [(196,(.I (j2:Int))),(195,(.sl 3 (List.map Bf b.Configs)))] ?_
         refine Ey fun a6 hz2 hx3=>Z (.cp (Bf a6) 0) J (Bt (Dy K1 Iu J hz2 hx3))<|Z (.agg (Bf a6)) J (Au (Cp Iu J))<|Bc (j:=5) hI J J J J Iu J fun g5=>Aq (Ax (v:=(.agg (Bf a6))) hI J J J J Iu J J J J J)<|Aa<|Aj ?_
         refine Y<|O<|Ab 6 [4,5] [(204,(.bool (!(a5.Name==a6.Name))))] ?_
         refine Dk 7 ((fun(b3:Bool)=>(if b3 then R.ok true else(If a5.Sectors a6.Sectors).bind fun r4=>R.ok (!r4)).bind (fun(b4:Bool)=>if b4 then(.ok (.inr (false))) else(.ok (.inl ())))):Bool→R (Unit ⊕ Bool)) (fun(b3:Bool) (fr:Nat→AV) (h:Ae)=>fr=A2 [(2,(.q ids 0 g)),(3,(.q ids 1 g1)),(9,(.I (j2:Int))),(10,(.q ids 4 g4)),(11,(.q ids 5 g5)),(211,(.bool b3))]∧h=hp h0 ids [(some (.rows g 8 [(Av a)])),(some (.rows g1 8 [(Av b)])),none,none,(some (.rows g4 3 [(Bf a5)])),(some (.rows g5 3 [(Bf a6)])),none,none,none,none,none,none]) ?_ fun hJ12=>D7 (fun hb24=>?_) (fun hb24=>?_)
         ·rintro b3 fr h ⟨rfl,rfl⟩
          refine Z (.bool b3) J Ad<|Dk 7 ((fun(b4:Bool)=>if b4 then(.ok (.inr (false))) else(.ok (.inl ()))):Bool→R (Unit ⊕ Bool)) (fun(b4:Bool) (fr:Nat→AV) (h:Ae)=>fr=A2 [(2,(.q ids 0 g)),(3,(.q ids 1 g1)),(9,(.I (j2:Int))),(219,(.bool b4))]∧h=hp h0 ids [(some (.rows g 8 [(Av a)])),(some (.rows g1 8 [(Av b)])),none,none,(some (.rows g4 3 [(Bf a5)])),(some (.rows g5 3 [(Bf a6)])),none,none,none,none,none,none]) ?_ fun hJ13=>D7 (fun hb26=>?_) (fun hb26=>?_)
          ·rintro b4 fr h ⟨rfl,rfl⟩
           refine Aa<|Cd J (fun hc3=>?_) (fun hc3=>?_)
           ·refine Y<|O<|Z (.bool false) J Al<|Aa<|Fp<|Gx<|Bs (a:=false) (vs:=[(.bool false)]) Tryz.func12 hI J (.same _)
           refine Az<|Bn<|O<|Ab 3 [] [(9,(.I (IntKind.wrap .i64 ((j2:Int)+1))))] ?_
           refine Aa<|Eh [(some (.rows g 8 [(Av a)])),(some (.rows g1 8 [(Av b)])),none,none,none,none,none,none,none,none,none,none] hI J (.keep (.keep (.keep (.keep (.drop (.drop (.keep (.keep (.keep (.keep (.keep (.keep .nil))))))))))))<|Bo (Fr (hW2 () _ _ ⟨J,J⟩)) (.cons J (.cons J (.cons (D1 (A5 ha5) hlim5) .nil)))
          ·refine A4 (t:=212) hb26 J<|Ab 7 [] [(219,(.bool true)),(218,.und),(217,.und),(216,.und),(215,.und),(214,.und),(213,.und)] ?_
           refine Bj<|Ch [(2,(.q ids 0 g)),(3,(.q ids 1 g1)),(9,(.I (j2:Int))),(219,(.bool true))] (FI J)<|hJ13 true _ _ ⟨J,J⟩
          refine A4 (t:=212) hb26 J<|Ab 4 [4,5] [(216,(.sl 1 (List.map (rI .i64) a6.Sectors))),(215,(.ptr (ix ids 5) g5 0 2)),(214,(.sl 1 (List.map (rI .i64) a5.Sectors))),(213,(.ptr (ix ids 4) g4 0 2))] ?_
          refine Bz [(.sl 1 (List.map (rI .i64) a5.Sectors)),(.sl 1 (List.map (rI .i64) a6.Sectors))] J (Co (tj:=212) J J) J J ((Si a5.Sectors a6.Sectors) _) (fun v _=>Cj Tryz.func12 hI) fun r4 _=>Ab 2 [] [(219,(.bool (!r4))),(218,(.bool (!r4)))] ?_
          refine Bj<|Ch [(2,(.q ids 0 g)),(3,(.q ids 1 g1)),(9,(.I (j2:Int))),(219,(.bool (!r4)))] (FI J)<|hJ13 (!r4) _ _ ⟨J,J⟩
         ·refine A4 (t:=204) hb24 J<|Ab 7 [] [(211,(.bool true)),(210,.und),(209,.und),(208,.und),(207,.und),(206,.und),(205,.und)] ?_
          refine Bj<|Ch [(2,(.q ids 0 g)),(3,(.q ids 1 g1)),(9,(.I (j2:Int))),(10,(.q ids 4 g4)),(11,(.q ids 5 g5)),(211,(.bool true))] (FI J)<|hJ12 true _ _ ⟨J,J⟩
         refine A4 (t:=204) hb24 J<|Ab 4 [4,5] [(208,(.sl 1 (List.map rS a6.Names))),(207,(.ptr (ix ids 5) g5 0 1)),(206,(.sl 1 (List.map rS a5.Names))),(205,(.ptr (ix ids 4) g4 0 1))] ?_
         refine Bz [(.sl 1 (List.map rS a5.Names)),(.sl 1 (List.map rS a6.Names))] J (Co (tj:=204) J J) J J ((Rx a5.Names a6.Names) _) (fun v _=>Cj Tryz.func12 hI) fun r3 _=>Ab 2 [] [(211,(.bool (!r3))),(210,(.bool (!r3)))] ?_
         refine Bj<|Ch [(2,(.q ids 0 g)),(3,(.q ids 1 g1)),(9,(.I (j2:Int))),(10,(.q ids 4 g4)),(11,(.q ids 5 g5)),(211,(.bool (!r3)))] (FI J)<|hJ12 (!r3) _ _ ⟨J,J⟩
        rintro _ fr h ⟨rfl,rfl⟩
        refine Ak (F0 _ _ _)<|Y<|Y<|O<|Ab 3 [0] [(184,(.sl 3 (List.map Bf a.Configs))),(182,(.I (a.Configs.length:Int)))] ?_
        refine Z (.I (a.Configs.length:Int)) J (A0 (Bd K1))<|Z (.bool (decide ((a.Configs.length:Int)<(a.Configs.length:Int)))) J (Ba J J J)<|Aa<|C1 J (Int.lt_irrefl _)<|C7 J<|Y<|Y ?_
        refine O<|Z (.I 0) J Al<|Aa<|A8<|Ee [(2,(.q ids 0 g)),(3,(.q ids 1 g1)),(12,(.I 0))] (FI J)<|E2 (P:=Tryz.prog) a.Segments (fun j3 a7=>fun _=>Ls b j3 a7) ((Dz (fun _=>(each (fun j4 a9=>fun _=>Kj b j4 a9) 0 a.Routes ()).bind (Dz (fun _=>(each (fun j5 a11=>fun _=>I7 b j5 a11) 0 a.Airports ()).bind (Dz (fun _=>(each (fun j7 a15=>fun _=>H6 b j7 a15) 0 a.Classes ()).bind (Dz (fun _=>(each (fun j8 a17=>fun _=>G8 b j8 a17) 0 a.Rules ()).bind (Dz (fun _=>.ok true) (fun r=>.ok r))) (fun r=>.ok r))) (fun r=>.ok r))) (fun r=>.ok r))) (fun r=>.ok r)):(Unit ⊕ Bool)→R Bool) (fun j3=>fun _=>fun(fr:Nat→AV) (h:Ae)=>fr=A2 [(2,(.q ids 0 g)),(3,(.q ids 1 g1)),(12,(.I (j3:Int)))]∧h=hp h0 ids [(some (.rows g 8 [(Av a)])),(some (.rows g1 8 [(Av b)])),none,none,none,none,none,none,none,none,none,none]) () ?_ ?_ ?_
        ·exact⟨J,J⟩
        ·rintro j3 a7 ha7 W hW3 _ fr h ⟨rfl,rfl⟩
         refine Ak (m':=Ls b j3 a7) J (Ak (Ls.eq_1 _ _ _) ?_)
         refine Y<|Y<|O<|Ab 3 [0] [(222,(.sl 5 (List.map A9 a.Segments))),(220,(.I (j3:Int)))] ?_
         refine Z (.I (a.Segments.length:Int)) J (A0 (Bd K3))<|Z (.bool (decide ((j3:Int)<(a.Segments.length:Int)))) J (Ba J J J)<|Aa<|Eb (t:=222) (L:=a.Segments) J fun hlim7=>C0 J (Int.ofNat_lt.2 (A5 ha7))<|Az<|Y ?_
         refine A8<|Y<|O<|Ab 3 [0] [(229,(.I (j3:Int))),(228,(.sl 5 (List.map A9 a.Segments)))] ?_
         refine Z (.cp (A9 a7) 0) J (Bt (Dm K3 Hn J ha7))<|Z (.agg (A9 a7)) J (Au (Cp Hn J))<|Bc (j:=6) hI J J J J Hn J fun g6=>Aq (Ax (v:=(.agg (A9 a7))) hI J J J J Hn J J J J J)<|Aa<|Aj ?_
         refine Y<|O<|Ab 3 [1] [(234,(.I (j3:Int))),(233,(.sl 5 (List.map A9 b.Segments)))] ?_
         refine Ey fun a8 hz3 hx4=>Z (.cp (A9 a8) 0) J (Bt (Dy K3 Hn J hz3 hx4))<|Z (.agg (A9 a8)) J (Au (Cp Hn J))<|Bc (j:=7) hI J J J J Hn J fun g7=>Aq (Ax (v:=(.agg (A9 a8))) hI J J J J Hn J J J J J)<|Aa<|Aj ?_
         refine Y<|O<|Ab 6 [6,7] [(242,(.bool (!(a7.Name==a8.Name))))] ?_
         refine B8 6 [(2,(.q ids 0 g)),(3,(.q ids 1 g1)),(12,(.I (j3:Int))),(13,(.q ids 6 g6)),(14,(.q ids 7 g7)),(248,(.bool ((!(a7.Name==a8.Name))||(!(a7.In==a8.In)))))] ?_ fun hJ14=>Bu (!(a7.Name==a8.Name)) (fun hb28=>?_) (fun hb28=>?_)
         ·refine Z (.bool ((!(a7.Name==a8.Name))||(!(a7.In==a8.In)))) J Ad<|B8 6 [(2,(.q ids 0 g)),(3,(.q ids 1 g1)),(12,(.I (j3:Int))),(13,(.q ids 6 g6)),(14,(.q ids 7 g7)),(255,(.bool (((!(a7.Name==a8.Name))||(!(a7.In==a8.In)))||(a7.Volume != a8.Volume))))] ?_ fun hJ15=>Bu ((!(a7.Name==a8.Name))||(!(a7.In==a8.In))) (fun hb30=>?_) (fun hb30=>?_)
          ·refine Z (.bool (((!(a7.Name==a8.Name))||(!(a7.In==a8.In)))||(a7.Volume != a8.Volume))) J Ad<|B8 6 [(2,(.q ids 0 g)),(3,(.q ids 1 g1)),(12,(.I (j3:Int))),(13,(.q ids 6 g6)),(14,(.q ids 7 g7)),(262,(.bool ((((!(a7.Name==a8.Name))||(!(a7.In==a8.In)))||(a7.Volume != a8.Volume))||(a7.Length != a8.Length))))] ?_ fun hJ16=>Bu (((!(a7.Name==a8.Name))||(!(a7.In==a8.In)))||(a7.Volume != a8.Volume)) (fun hb32=>?_) (fun hb32=>?_)
           ·refine Z (.bool ((((!(a7.Name==a8.Name))||(!(a7.In==a8.In)))||(a7.Volume != a8.Volume))||(a7.Length != a8.Length))) J Ad<|Dk 7 ((fun(b5:Bool)=>if b5 then(.ok (.inr (false))) else(.ok (.inl ()))):Bool→R (Unit ⊕ Bool)) (fun(b5:Bool) (fr:Nat→AV) (h:Ae)=>fr=A2 [(2,(.q ids 0 g)),(3,(.q ids 1 g1)),(12,(.I (j3:Int))),(270,(.bool b5))]∧h=hp h0 ids [(some (.rows g 8 [(Av a)])),(some (.rows g1 8 [(Av b)])),none,none,none,none,(some (.rows g6 5 [(A9 a7)])),(some (.rows g7 5 [(A9 a8)])),none,none,none,none]) ?_ fun hJ17=>D7 (fun hb34=>?_) (fun hb34=>?_)
            ·rintro b5 fr h ⟨rfl,rfl⟩
             refine Aa<|Cd J (fun hc4=>?_) (fun hc4=>?_)
             ·refine Y<|O<|Z (.bool false) J Al<|Aa<|Fp<|Gx<|Bs (a:=false) (vs:=[(.bool false)]) Tryz.func12 hI J (.same _)
             refine Az<|Bn<|O<|Ab 3 [] [(12,(.I (IntKind.wrap .i64 ((j3:Int)+1))))] ?_
             refine Aa<|Eh [(some (.rows g 8 [(Av a)])),(some (.rows g1 8 [(Av b)])),none,none,none,none,none,none,none,none,none,none] hI J (.keep (.keep (.keep (.keep (.keep (.keep (.drop (.drop (.keep (.keep (.keep (.keep .nil))))))))))))<|Bo (Fr (hW3 () _ _ ⟨J,J⟩)) (.cons J (.cons J (.cons (D1 (A5 ha7) hlim7) .nil)))
            ·refine A4 (t:=263) hb34 J<|Ab 7 [] [(270,(.bool true)),(269,.und),(268,.und),(267,.und),(266,.und),(265,.und),(264,.und)] ?_
             refine Bj<|Ch [(2,(.q ids 0 g)),(3,(.q ids 1 g1)),(12,(.I (j3:Int))),(270,(.bool true))] (FI J)<|hJ17 true _ _ ⟨J,J⟩
            refine A4 (t:=263) hb34 J<|Ab 4 [6,7] [(267,(.sl 2 (List.map Cc a8.Open))),(266,(.ptr (ix ids 7) g7 0 4)),(265,(.sl 2 (List.map Cc a7.Open))),(264,(.ptr (ix ids 6) g6 0 4))] ?_
            refine Bz [(.sl 2 (List.map Cc a7.Open)),(.sl 2 (List.map Cc a8.Open))] J (Co (tj:=263) J J) J J ((Vs a7.Open a8.Open) _) (fun v _=>Cj Tryz.func12 hI) fun r5 _=>Ab 2 [] [(270,(.bool (!r5))),(269,(.bool (!r5)))] ?_
            refine Bj<|Ch [(2,(.q ids 0 g)),(3,(.q ids 1 g1)),(12,(.I (j3:Int))),(270,(.bool (!r5)))] (FI J)<|hJ17 (!r5) _ _ ⟨J,J⟩
           ·refine A4 (t:=256) hb32 J<|Ab 6 [] [(262,(.bool true)),(261,.und),(260,.und),(259,.und),(258,.und),(257,.und)] ?_
            exact Bk hJ16 (.cons J (.cons J (.cons J (.cons J (.cons J (.cons (Fu hb32) .nil))))))
           refine A4 (t:=256) hb32 J<|Ab 6 [6,7] [(262,(.bool (a7.Length != a8.Length))),(261,(.bool (a7.Length != a8.Length))),(260,(.I a8.Length)),(259,(.ptr (ix ids 7) g7 0 3)),(258,(.I a7.Length)),(257,(.ptr (ix ids 6) g6 0 3))] ?_
           exact Bk hJ16 (.cons J (.cons J (.cons J (.cons J (.cons J (.cons (Fw hb32) .nil))))))
          ·refine A4 (t:=249) hb30 J<|Ab 6 [] [(255,(.bool true)),(254,.und),(253,.und),(252,.und),(251,.und),(250,.und)] ?_
           exact Bk hJ15 (.cons J (.cons J (.cons J (.cons J (.cons J (.cons (Fu hb30) .nil))))))
          refine A4 (t:=249) hb30 J<|Ab 6 [6,7] [(255,(.bool (a7.Volume != a8.Volume))),(254,(.bool (a7.Volume != a8.Volume))),(253,(.I a8.Volume)),(252,(.ptr (ix ids 7) g7 0 2)),(251,(.I a7.Volume)),(250,(.ptr (ix ids 6) g6 0 2))] ?_
          exact Bk hJ15 (.cons J (.cons J (.cons J (.cons J (.cons J (.cons (Fw hb30) .nil))))))
         ·refine A4 (t:=242) hb28 J<|Ab 6 [] [(248,(.bool true)),(247,.und),(246,.und),(245,.und),(244,.und),(243,.und)] ?_
          exact Bk hJ14 (.cons J (.cons J (.cons J (.cons J (.cons J (.cons (Fu hb28) .nil))))))
         refine A4 (t:=242) hb28 J<|Ab 6 [6,7] [(248,(.bool (!(a7.In==a8.In)))),(247,(.bool (!(a7.In==a8.In)))),(246,(.str a8.In)),(245,(.ptr (ix ids 7) g7 0 1)),(244,(.str a7.In)),(243,(.ptr (ix ids 6) g6 0 1))] ?_
         exact Bk hJ14 (.cons J (.cons J (.cons J (.cons J (.cons J (.cons (Fw hb28) .nil))))))
        rintro _ fr h ⟨rfl,rfl⟩
        refine Ak (F0 _ _ _)<|Y<|Y<|O<|Ab 3 [0] [(222,(.sl 5 (List.map A9 a.Segments))),(220,(.I (a.Segments.length:Int)))] ?_
        refine Z (.I (a.Segments.length:Int)) J (A0 (Bd K3))<|Z (.bool (decide ((a.Segments.length:Int)<(a.Segments.length:Int)))) J (Ba J J J)<|Aa<|C1 J (Int.lt_irrefl _)<|C7 J<|Y<|Y ?_
        refine O<|Z (.I 0) J Al<|Aa<|A8<|Ee [(2,(.q ids 0 g)),(3,(.q ids 1 g1)),(15,(.I 0))] (FI J)<|E2 (P:=Tryz.prog) a.Routes (fun j4 a9=>fun _=>Kj b j4 a9) ((Dz (fun _=>(each (fun j5 a11=>fun _=>I7 b j5 a11) 0 a.Airports ()).bind (Dz (fun _=>(each (fun j7 a15=>fun _=>H6 b j7 a15) 0 a.Classes ()).bind (Dz (fun _=>(each (fun j8 a17=>fun _=>G8 b j8 a17) 0 a.Rules ()).bind (Dz (fun _=>.ok true) (fun r=>.ok r))) (fun r=>.ok r))) (fun r=>.ok r))) (fun r=>.ok r)):(Unit ⊕ Bool)→R Bool) (fun j4=>fun _=>fun(fr:Nat→AV) (h:Ae)=>fr=A2 [(2,(.q ids 0 g)),(3,(.q ids 1 g1)),(15,(.I (j4:Int)))]∧h=hp h0 ids [(some (.rows g 8 [(Av a)])),(some (.rows g1 8 [(Av b)])),none,none,none,none,none,none,none,none,none,none]) () ?_ ?_ ?_
        ·exact⟨J,J⟩
        ·rintro j4 a9 ha9 W hW4 _ fr h ⟨rfl,rfl⟩
         refine Ak (m':=Kj b j4 a9) J (Ak (Kj.eq_1 _ _ _) ?_)
         refine Y<|Y<|O<|Ab 3 [0] [(273,(.sl 7 (List.map Bp a.Routes))),(271,(.I (j4:Int)))] ?_
         refine Z (.I (a.Routes.length:Int)) J (A0 (Bd K4))<|Z (.bool (decide ((j4:Int)<(a.Routes.length:Int)))) J (Ba J J J)<|Aa<|Eb (t:=273) (L:=a.Routes) J fun hlim9=>C0 J (Int.ofNat_lt.2 (A5 ha9))<|Az<|Y ?_
         refine A8<|Y<|O<|Ab 3 [0] [(280,(.I (j4:Int))),(279,(.sl 7 (List.map Bp a.Routes)))] ?_
         refine Z (.cp (Bp a9) 0) J (Bt (Dm K4 Gz J ha9))<|Z (.agg (Bp a9)) J (Au (Cp Gz J))<|Bc (j:=8) hI J J J J Gz J fun g8=>Aq (Ax (v:=(.agg (Bp a9))) hI J J J J Gz J J J J J)<|Aa<|Aj ?_
         refine Y<|O<|Ab 3 [1] [(285,(.I (j4:Int))),(284,(.sl 7 (List.map Bp b.Routes)))] ?_
         refine Ey fun a10 hz4 hx5=>Z (.cp (Bp a10) 0) J (Bt (Dy K4 Gz J hz4 hx5))<|Z (.agg (Bp a10)) J (Au (Cp Gz J))<|Bc (j:=9) hI J J J J Gz J fun g9=>Aq (Ax (v:=(.agg (Bp a10))) hI J J J J Gz J J J J J)<|Aa<|Aj ?_
         refine Y<|O<|Ab 6 [8,9] [(293,(.bool (!(a9.Name==a10.Name))))] ?_
         refine B8 6 [(2,(.q ids 0 g)),(3,(.q ids 1 g1)),(15,(.I (j4:Int))),(16,(.q ids 8 g8)),(17,(.q ids 9 g9)),(299,(.bool ((!(a9.Name==a10.Name))||(!(a9.A==a10.A)))))] ?_ fun hJ18=>Bu (!(a9.Name==a10.Name)) (fun hb36=>?_) (fun hb36=>?_)
         ·refine Z (.bool ((!(a9.Name==a10.Name))||(!(a9.A==a10.A)))) J Ad<|B8 6 [(2,(.q ids 0 g)),(3,(.q ids 1 g1)),(15,(.I (j4:Int))),(16,(.q ids 8 g8)),(17,(.q ids 9 g9)),(306,(.bool (((!(a9.Name==a10.Name))||(!(a9.A==a10.A)))||(!(a9.B==a10.B)))))] ?_ fun hJ19=>Bu ((!(a9.Name==a10.Name))||(!(a9.A==a10.A))) (fun hb38=>?_) (fun hb38=>?_)
          ·refine Z (.bool (((!(a9.Name==a10.Name))||(!(a9.A==a10.A)))||(!(a9.B==a10.B)))) J Ad<|B8 6 [(2,(.q ids 0 g)),(3,(.q ids 1 g1)),(15,(.I (j4:Int))),(16,(.q ids 8 g8)),(17,(.q ids 9 g9)),(313,(.bool ((((!(a9.Name==a10.Name))||(!(a9.A==a10.A)))||(!(a9.B==a10.B)))||(a9.From != a10.From))))] ?_ fun hJ20=>Bu (((!(a9.Name==a10.Name))||(!(a9.A==a10.A)))||(!(a9.B==a10.B))) (fun hb40=>?_) (fun hb40=>?_)
           ·refine Z (.bool ((((!(a9.Name==a10.Name))||(!(a9.A==a10.A)))||(!(a9.B==a10.B)))||(a9.From != a10.From))) J Ad<|B8 6 [(2,(.q ids 0 g)),(3,(.q ids 1 g1)),(15,(.I (j4:Int))),(16,(.q ids 8 g8)),(17,(.q ids 9 g9)),(320,(.bool (((((!(a9.Name==a10.Name))||(!(a9.A==a10.A)))||(!(a9.B==a10.B)))||(a9.From != a10.From))||(a9.To != a10.To))))] ?_ fun hJ21=>Bu ((((!(a9.Name==a10.Name))||(!(a9.A==a10.A)))||(!(a9.B==a10.B)))||(a9.From != a10.From)) (fun hb42=>?_) (fun hb42=>?_)
            ·refine Z (.bool (((((!(a9.Name==a10.Name))||(!(a9.A==a10.A)))||(!(a9.B==a10.B)))||(a9.From != a10.From))||(a9.To != a10.To))) J Ad<|Dk 7 ((fun(b6:Bool)=>(if b6 then R.ok true else(If a9.Segments a10.Segments).bind fun r7=>R.ok (!r7)).bind (fun(b7:Bool)=>if b7 then(.ok (.inr (false))) else(.ok (.inl ())))):Bool→R (Unit ⊕ Bool)) (fun(b6:Bool) (fr:Nat→AV) (h:Ae)=>fr=A2 [(2,(.q ids 0 g)),(3,(.q ids 1 g1)),(15,(.I (j4:Int))),(16,(.q ids 8 g8)),(17,(.q ids 9 g9)),(328,(.bool b6))]∧h=hp h0 ids [(some (.rows g 8 [(Av a)])),(some (.rows g1 8 [(Av b)])),none,none,none,none,none,none,(some (.rows g8 7 [(Bp a9)])),(some (.rows g9 7 [(Bp a10)])),none,none]) ?_ fun hJ22=>D7 (fun hb44=>?_) (fun hb44=>?_)
             ·rintro b6 fr h ⟨rfl,rfl⟩
              refine Z (.bool b6) J Ad<|Dk 7 ((fun(b7:Bool)=>if b7 then(.ok (.inr (false))) else(.ok (.inl ()))):Bool→R (Unit ⊕ Bool)) (fun(b7:Bool) (fr:Nat→AV) (h:Ae)=>fr=A2 [(2,(.q ids 0 g)),(3,(.q ids 1 g1)),(15,(.I (j4:Int))),(336,(.bool b7))]∧h=hp h0 ids [(some (.rows g 8 [(Av a)])),(some (.rows g1 8 [(Av b)])),none,none,none,none,none,none,(some (.rows g8 7 [(Bp a9)])),(some (.rows g9 7 [(Bp a10)])),none,none]) ?_ fun hJ23=>D7 (fun hb46=>?_) (fun hb46=>?_)
              ·rintro b7 fr h ⟨rfl,rfl⟩
               refine Aa<|Cd J (fun hc5=>?_) (fun hc5=>?_)
               ·refine Y<|O<|Z (.bool false) J Al<|Aa<|Fp<|Gx<|Bs (a:=false) (vs:=[(.bool false)]) Tryz.func12 hI J (.same _)
               refine Az<|Bn<|O<|Ab 3 [] [(15,(.I (IntKind.wrap .i64 ((j4:Int)+1))))] ?_
               refine Aa<|Eh [(some (.rows g 8 [(Av a)])),(some (.rows g1 8 [(Av b)])),none,none,none,none,none,none,none,none,none,none] hI J (.keep (.keep (.keep (.keep (.keep (.keep (.keep (.keep (.drop (.drop (.keep (.keep .nil))))))))))))<|Bo (Fr (hW4 () _ _ ⟨J,J⟩)) (.cons J (.cons J (.cons (D1 (A5 ha9) hlim9) .nil)))
              ·refine A4 (t:=329) hb46 J<|Ab 7 [] [(336,(.bool true)),(335,.und),(334,.und),(333,.und),(332,.und),(331,.und),(330,.und)] ?_
               refine Bj<|Ch [(2,(.q ids 0 g)),(3,(.q ids 1 g1)),(15,(.I (j4:Int))),(336,(.bool true))] (FI J)<|hJ23 true _ _ ⟨J,J⟩
              refine A4 (t:=329) hb46 J<|Ab 4 [8,9] [(333,(.sl 1 (List.map (rI .i64) a10.Segments))),(332,(.ptr (ix ids 9) g9 0 6)),(331,(.sl 1 (List.map (rI .i64) a9.Segments))),(330,(.ptr (ix ids 8) g8 0 6))] ?_
              refine Bz [(.sl 1 (List.map (rI .i64) a9.Segments)),(.sl 1 (List.map (rI .i64) a10.Segments))] J (Co (tj:=329) J J) J J ((Si a9.Segments a10.Segments) _) (fun v _=>Cj Tryz.func12 hI) fun r7 _=>Ab 2 [] [(336,(.bool (!r7))),(335,(.bool (!r7)))] ?_
              refine Bj<|Ch [(2,(.q ids 0 g)),(3,(.q ids 1 g1)),(15,(.I (j4:Int))),(336,(.bool (!r7)))] (FI J)<|hJ23 (!r7) _ _ ⟨J,J⟩
             ·refine A4 (t:=321) hb44 J<|Ab 7 [] [(328,(.bool true)),(327,.und),(326,.und),(325,.und),(324,.und),(323,.und),(322,.und)] ?_
              refine Bj<|Ch [(2,(.q ids 0 g)),(3,(.q ids 1 g1)),(15,(.I (j4:Int))),(16,(.q ids 8 g8)),(17,(.q ids 9 g9)),(328,(.bool true))] (FI J)<|hJ22 true _ _ ⟨J,J⟩
             refine A4 (t:=321) hb44 J<|Ab 4 [8,9] [(325,(.sl 1 (List.map rS a10.Names))),(324,(.ptr (ix ids 9) g9 0 5)),(323,(.sl 1 (List.map rS a9.Names))),(322,(.ptr (ix ids 8) g8 0 5))] ?_
             refine Bz [(.sl 1 (List.map rS a9.Names)),(.sl 1 (List.map rS a10.Names))] J (Co (tj:=321) J J) J J ((Rx a9.Names a10.Names) _) (fun v _=>Cj Tryz.func12 hI) fun r6 _=>Ab 2 [] [(328,(.bool (!r6))),(327,(.bool (!r6)))] ?_
             refine Bj<|Ch [(2,(.q ids 0 g)),(3,(.q ids 1 g1)),(15,(.I (j4:Int))),(16,(.q ids 8 g8)),(17,(.q ids 9 g9)),(328,(.bool (!r6)))] (FI J)<|hJ22 (!r6) _ _ ⟨J,J⟩
            ·refine A4 (t:=314) hb42 J<|Ab 6 [] [(320,(.bool true)),(319,.und),(318,.und),(317,.und),(316,.und),(315,.und)] ?_
             exact Bk hJ21 (.cons J (.cons J (.cons J (.cons J (.cons J (.cons (Fu hb42) .nil))))))
            refine A4 (t:=314) hb42 J<|Ab 6 [8,9] [(320,(.bool (a9.To != a10.To))),(319,(.bool (a9.To != a10.To))),(318,(.I a10.To)),(317,(.ptr (ix ids 9) g9 0 4)),(316,(.I a9.To)),(315,(.ptr (ix ids 8) g8 0 4))] ?_
            exact Bk hJ21 (.cons J (.cons J (.cons J (.cons J (.cons J (.cons (Fw hb42) .nil))))))
           ·refine A4 (t:=307) hb40 J<|Ab 6 [] [(313,(.bool true)),(312,.und),(311,.und),(310,.und),(309,.und),(308,.und)] ?_
            exact Bk hJ20 (.cons J (.cons J (.cons J (.cons J (.cons J (.cons (Fu hb40) .nil))))))
           refine A4 (t:=307) hb40 J<|Ab 6 [8,9] [(313,(.bool (a9.From != a10.From))),(312,(.bool (a9.From != a10.From))),(311,(.I a10.From)),(310,(.ptr (ix ids 9) g9 0 3)),(309,(.I a9.From)),(308,(.ptr (ix ids 8) g8 0 3))] ?_
           exact Bk hJ20 (.cons J (.cons J (.cons J (.cons J (.cons J (.cons (Fw hb40) .nil))))))
          ·refine A4 (t:=300) hb38 J<|Ab 6 [] [(306,(.bool true)),(305,.und),(304,.und),(303,.und),(302,.und),(301,.und)] ?_
           exact Bk hJ19 (.cons J (.cons J (.cons J (.cons J (.cons J (.cons (Fu hb38) .nil))))))
          refine A4 (t:=300) hb38 J<|Ab 6 [8,9] [(306,(.bool (!(a9.B==a10.B)))),(305,(.bool (!(a9.B==a10.B)))),(304,(.str a10.B)),(303,(.ptr (ix ids 9) g9 0 2)),(302,(.str a9.B)),(301,(.ptr (ix ids 8) g8 0 2))] ?_
          exact Bk hJ19 (.cons J (.cons J (.cons J (.cons J (.cons J (.cons (Fw hb38) .nil))))))
         ·refine A4 (t:=293) hb36 J<|Ab 6 [] [(299,(.bool true)),(298,.und),(297,.und),(296,.und),(295,.und),(294,.und)] ?_
          exact Bk hJ18 (.cons J (.cons J (.cons J (.cons J (.cons J (.cons (Fu hb36) .nil))))))
         refine A4 (t:=293) hb36 J<|Ab 6 [8,9] [(299,(.bool (!(a9.A==a10.A)))),(298,(.bool (!(a9.A==a10.A)))),(297,(.str a10.A)),(296,(.ptr (ix ids 9) g9 0 1)),(295,(.str a9.A)),(294,(.ptr (ix ids 8) g8 0 1))] ?_
         exact Bk hJ18 (.cons J (.cons J (.cons J (.cons J (.cons J (.cons (Fw hb36) .nil))))))
        rintro _ fr h ⟨rfl,rfl⟩
        refine Ak (F0 _ _ _)<|Y<|Y<|O<|Ab 3 [0] [(273,(.sl 7 (List.map Bp a.Routes))),(271,(.I (a.Routes.length:Int)))] ?_
        refine Z (.I (a.Routes.length:Int)) J (A0 (Bd K4))<|Z (.bool (decide ((a.Routes.length:Int)<(a.Routes.length:Int)))) J (Ba J J J)<|Aa<|C1 J (Int.lt_irrefl _)<|C7 J<|Y<|Y ?_
        refine O<|Z (.I 0) J Al<|Aa<|A8<|Ee [(2,(.q ids 0 g)),(3,(.q ids 1 g1)),(18,(.I 0))] (FI J)<|E2 (P:=Tryz.prog) a.Airports (fun j5 a11=>fun _=>I7 b j5 a11) ((Dz (fun _=>(each (fun j7 a15=>fun _=>H6 b j7 a15) 0 a.Classes ()).bind (Dz (fun _=>(each (fun j8 a17=>fun _=>G8 b j8 a17) 0 a.Rules ()).bind (Dz (fun _=>.ok true) (fun r=>.ok r))) (fun r=>.ok r))) (fun r=>.ok r)):(Unit ⊕ Bool)→R Bool) (fun j5=>fun _=>fun(fr:Nat→AV) (h:Ae)=>fr=A2 [(2,(.q ids 0 g)),(3,(.q ids 1 g1)),(18,(.I (j5:Int)))]∧h=hp h0 ids [(some (.rows g 8 [(Av a)])),(some (.rows g1 8 [(Av b)])),none,none,none,none,none,none,none,none,none,none]) () ?_ ?_ ?_
        ·exact⟨J,J⟩
        ·rintro j5 a11 ha11 W hW5 _ fr h ⟨rfl,rfl⟩
         refine Ak (m':=I7 b j5 a11) J (Ak (I7.eq_1 _ _ _) ?_)
         refine Y<|Y<|O<|Ab 3 [0] [(339,(.sl 2 (List.map A6 a.Airports))),(337,(.I (j5:Int)))] ?_
         refine Z (.I (a.Airports.length:Int)) J (A0 (Bd Oe))<|Z (.bool (decide ((j5:Int)<(a.Airports.length:Int)))) J (Ba J J J)<|Aa<|Eb (t:=339) (L:=a.Airports) J fun hlim11=>C0 J (Int.ofNat_lt.2 (A5 ha11))<|Az<|Y ?_
         refine A8<|Y<|O<|Ab 3 [0] [(346,(.I (j5:Int))),(345,(.sl 2 (List.map A6 a.Airports)))] ?_
         refine Z (.cp (A6 a11) 0) J (Bt (Dm Oe J3 J ha11))<|Z (.agg (A6 a11)) J (Au (Cp J3 J))<|Bc (j:=10) hI J J J J J3 J fun g10=>Aq (Ax (v:=(.agg (A6 a11))) hI J J J J J3 J J J J J)<|Aa<|Aj ?_
         refine Y<|O<|Ab 3 [1] [(351,(.I (j5:Int))),(350,(.sl 2 (List.map A6 b.Airports)))] ?_
         refine Ey fun a12 hz5 hx6=>Z (.cp (A6 a12) 0) J (Bt (Dy Oe J3 J hz5 hx6))<|Z (.agg (A6 a12)) J (Au (Cp J3 J))<|Bc (j:=11) hI J J J J J3 J fun g11=>Aq (Ax (v:=(.agg (A6 a12))) hI J J J J J3 J J J J J)<|Aa<|Aj ?_
         refine Y<|Y<|O<|Ab 6 [10,11] [(359,(.bool (!(a11.Name==a12.Name))))] ?_
         refine B8 8 [(2,(.q ids 0 g)),(3,(.q ids 1 g1)),(18,(.I (j5:Int))),(19,(.q ids 10 g10)),(20,(.q ids 11 g11)),(367,(.bool ((!(a11.Name==a12.Name))||((a11.Modes.length:Int) != (a12.Modes.length:Int)))))] ?_ fun hJ24=>Bu (!(a11.Name==a12.Name)) (fun hb48=>?_) (fun hb48=>?_)
         ·refine Aa<|Cd J (fun hc6=>?_) (fun hc6=>?_)
          ·refine Y<|O<|Z (.bool false) J Al<|Aa<|Fp<|Gx<|Bs (a:=false) (vs:=[(.bool false)]) Tryz.func12 hI J (.same _)
          refine Az<|Y<|O<|Z (.I 0) J Al<|Aa<|A8<|Ee [(2,(.q ids 0 g)),(3,(.q ids 1 g1)),(18,(.I (j5:Int))),(19,(.q ids 10 g10)),(20,(.q ids 11 g11)),(21,(.I 0))] (FI J) ?_
          refine E2 (P:=Tryz.prog) a11.Modes (fun j6 a13=>fun _=>Qi a12 j6 a13) ((Dz (fun _=>.ok (.inl ())) (fun r=>.ok (.inr (r)))):(Unit ⊕ Bool)→R (Unit ⊕ Bool)) (fun j6=>fun _=>fun(fr:Nat→AV) (h:Ae)=>fr=A2 [(2,(.q ids 0 g)),(3,(.q ids 1 g1)),(18,(.I (j5:Int))),(19,(.q ids 10 g10)),(20,(.q ids 11 g11)),(21,(.I (j6:Int)))]∧h=hp h0 ids [(some (.rows g 8 [(Av a)])),(some (.rows g1 8 [(Av b)])),none,none,none,none,none,none,none,none,(some (.rows g10 2 [(A6 a11)])),(some (.rows g11 2 [(A6 a12)]))]) () ?_ ?_ ?_
          ·exact⟨J,J⟩
          ·rintro j6 a13 ha13 W hW6 _ fr h ⟨rfl,rfl⟩
           refine Ak (m':=Qi a12 j6 a13) J (Ak (Qi.eq_1 _ _ _) ?_)
           refine Y<|Y<|O<|Ab 3 [10] [(370,(.sl 2 (List.map Dv a11.Modes))),(368,(.I (j6:Int)))] ?_
           refine Z (.I (a11.Modes.length:Int)) J (A0 (Bd Oc))<|Z (.bool (decide ((j6:Int)<(a11.Modes.length:Int)))) J (Ba J J J)<|Aa<|Eb (t:=370) (L:=a11.Modes) J fun hlim13=>C0 J (Int.ofNat_lt.2 (A5 ha13))<|Az<|Y ?_
           refine A8<|Y<|Di Gg [[],[0],[],[0,1,2],[0,1,2,3],[],[5],[],[5,6,7],[5,6,7,8],[0,1,2,3,4,5,6,7,8,9]] [(false,0),(false,1),(false,2),(false,3),(false,4),(false,5),(false,6),(false,7),(false,8),(false,9),(false,10)] (by kernel_rfl)<|Ag (.ptr (ix ids 10) g10 0 1) J J (B9 (By (c:=0) (off:=1) (i:=1) J3 J Oc J))<|Ag (.sl 2 (List.map Dv a11.Modes)) J J (Au (Be hI J J J Oc J))<|Ag (.I (j6:Int)) J J Ad<|Ag (.cp (Dv a13) 0) J J (Bt (Dm Oc Pu J ha13)) ?_
           refine Ag (.agg (Dv a13)) J J (Au (Cp Pu J))<|Ag (.ptr (ix ids 11) g11 0 1) J J (B9 (By (c:=0) (off:=1) (i:=1) J3 J Oc J))<|Ag (.sl 2 (List.map Dv a12.Modes)) J J (Au (Be hI J J J Oc J))<|Ag (.I (j6:Int)) J J Ad<|Px fun a14 hz6 hx7=>Ag (.cp (Dv a14) 0) J J (Bt (Dy Oc Pu J hz6 hx7))<|Ag (.agg (Dv a14)) J J (Au (Cp Pu J)) ?_
           refine Ag (.bool (!((a13.Name==a14.Name)&&(a13.Places==a14.Places)))) J J (Ba (Anm J J) J Anl)<|Ct<|Ei J (fun hc7=>?_) (fun hc7=>?_)
           ·refine Az<|Bn<|O<|Ab 3 [] [(21,(.I (IntKind.wrap .i64 ((j6:Int)+1))))] ?_
            refine Aa<|Bo (Fr (hW6 () _ _ ⟨J,J⟩)) (.cons J (.cons J (.cons J (.cons J (.cons J (.cons (D1 (A5 ha13) hlim13) .nil))))))
           refine Y<|O<|Z (.bool false) J Al<|Aa<|Fp<|Gx<|Fp ?_
           refine Gx<|Bs (a:=false) (vs:=[(.bool false)]) Tryz.func12 hI J (.same _)
          rintro _ fr h ⟨rfl,rfl⟩
          refine Ak (F0 _ _ _)<|Y<|Y<|O<|Ab 3 [10] [(370,(.sl 2 (List.map Dv a11.Modes))),(368,(.I (a11.Modes.length:Int)))] ?_
          refine Z (.I (a11.Modes.length:Int)) J (A0 (Bd Oc))<|Z (.bool (decide ((a11.Modes.length:Int)<(a11.Modes.length:Int)))) J (Ba J J J)<|Aa<|C1 J (Int.lt_irrefl _)<|C7 J<|Bn<|O ?_
          refine Ab 3 [] [(18,(.I (IntKind.wrap .i64 ((j5:Int)+1))))] ?_
          refine Aa<|Eh [(some (.rows g 8 [(Av a)])),(some (.rows g1 8 [(Av b)])),none,none,none,none,none,none,none,none,none,none] hI J (.keep (.keep (.keep (.keep (.keep (.keep (.keep (.keep (.keep (.keep (.drop (.drop .nil))))))))))))<|Bo (Fr (hW5 () _ _ ⟨J,J⟩)) (.cons J (.cons J (.cons (D1 (A5 ha11) hlim11) .nil)))
         ·refine A4 (t:=359) hb48 J<|Ab 8 [] [(367,(.bool true)),(366,.und),(365,.und),(364,.und),(363,.und),(362,.und),(361,.und),(360,.und)] ?_
          exact Bk hJ24 (.cons J (.cons J (.cons J (.cons J (.cons J (.cons (Fu hb48) .nil))))))
         refine A4 (t:=359) hb48 J<|Ab 2 [10] [(361,(.sl 2 (List.map Dv a11.Modes))),(360,(.ptr (ix ids 10) g10 0 1))] ?_
         refine B0 (tj:=359) (.I (a11.Modes.length:Int)) J J J (A0 (Bd Oc))<|Ab 2 [11] [(364,(.sl 2 (List.map Dv a12.Modes))),(363,(.ptr (ix ids 11) g11 0 1))] ?_
         refine B0 (tj:=359) (.I (a12.Modes.length:Int)) J J J (A0 (Bd Oc))<|Ab 2 [] [(367,(.bool ((a11.Modes.length:Int) != (a12.Modes.length:Int)))),(366,(.bool ((a11.Modes.length:Int) != (a12.Modes.length:Int))))] ?_
         exact Bk hJ24 (.cons J (.cons J (.cons J (.cons J (.cons J (.cons (Fw hb48) .nil))))))
        rintro _ fr h ⟨rfl,rfl⟩
        refine Ak (F0 _ _ _)<|Y<|Y<|O<|Ab 3 [0] [(339,(.sl 2 (List.map A6 a.Airports))),(337,(.I (a.Airports.length:Int)))] ?_
        refine Z (.I (a.Airports.length:Int)) J (A0 (Bd Oe))<|Z (.bool (decide ((a.Airports.length:Int)<(a.Airports.length:Int)))) J (Ba J J J)<|Aa<|C1 J (Int.lt_irrefl _)<|C7 J<|Y<|Y ?_
        refine O<|Z (.I 0) J Al<|Aa<|A8<|Ee [(2,(.q ids 0 g)),(3,(.q ids 1 g1)),(22,(.I 0))] (FI J)<|E2 (P:=Tryz.prog) a.Classes (fun j7 a15=>fun _=>H6 b j7 a15) ((Dz (fun _=>(each (fun j8 a17=>fun _=>G8 b j8 a17) 0 a.Rules ()).bind (Dz (fun _=>.ok true) (fun r=>.ok r))) (fun r=>.ok r)):(Unit ⊕ Bool)→R Bool) (fun j7=>fun _=>fun(fr:Nat→AV) (h:Ae)=>fr=A2 [(2,(.q ids 0 g)),(3,(.q ids 1 g1)),(22,(.I (j7:Int)))]∧h=hp h0 ids [(some (.rows g 8 [(Av a)])),(some (.rows g1 8 [(Av b)])),none,none,none,none,none,none,none,none,none,none]) () ?_ ?_ ?_
        ·exact⟨J,J⟩
        ·rintro j7 a15 ha15 W hW7 _ fr h ⟨rfl,rfl⟩
         refine Ak (m':=H6 b j7 a15) J (Ak (H6.eq_1 _ _ _) ?_)
         refine Y<|Y<|O<|Ab 3 [0] [(388,(.sl 4 (List.map Bx a.Classes))),(386,(.I (j7:Int)))] ?_
         refine Z (.I (a.Classes.length:Int)) J (A0 (Bd My))<|Z (.bool (decide ((j7:Int)<(a.Classes.length:Int)))) J (Ba J J J)<|Aa<|Eb (t:=388) (L:=a.Classes) J fun hlim15=>C0 J (Int.ofNat_lt.2 (A5 ha15))<|Az<|Y ?_
         refine A8<|Y<|Di Gg [[],[0],[],[0,1,2],[0,1,2,3],[],[5],[],[5,6,7],[5,6,7,8],[0,1,2,3,4,5,6,7,8,9]] [(false,0),(false,1),(false,2),(false,3),(false,4),(false,5),(false,6),(false,7),(false,8),(false,9),(false,10)] (by kernel_rfl)<|Ag (.ptr (ix ids 0) g 0 6) J J (B9 (By (c:=0) (off:=6) (i:=6) Ec J My J))<|Ag (.sl 4 (List.map Bx a.Classes)) J J (Au (Be hI J J J My J))<|Ag (.I (j7:Int)) J J Ad<|Ag (.cp (Bx a15) 0) J J (Bt (Dm My Na J ha15)) ?_
         refine Ag (.agg (Bx a15)) J J (Au (Cp Na J))<|Ag (.ptr (ix ids 1) g1 0 6) J J (B9 (By (c:=0) (off:=6) (i:=6) Ec J My J))<|Ag (.sl 4 (List.map Bx b.Classes)) J J (Au (Be hI J J J My J))<|Ag (.I (j7:Int)) J J Ad<|Px fun a16 hz7 hx8=>Ag (.cp (Bx a16) 0) J J (Bt (Dy My Na J hz7 hx8))<|Ag (.agg (Bx a16)) J J (Au (Cp Na J)) ?_
         refine Ag (.bool (!((a15.Name==a16.Name)&&((a15.Slow==a16.Slow)&&((a15.Fast==a16.Fast)&&(a15.Places==a16.Places)))))) J J (Ba (Amd J J) J Anj)<|Ct<|Ei J (fun hc8=>?_) (fun hc8=>?_)
         ·refine Az<|Bn<|O<|Ab 3 [] [(22,(.I (IntKind.wrap .i64 ((j7:Int)+1))))] ?_
          refine Aa<|Bo (Fr (hW7 () _ _ ⟨J,J⟩)) (.cons J (.cons J (.cons (D1 (A5 ha15) hlim15) .nil)))
         refine Y<|O<|Z (.bool false) J Al<|Aa<|Fp<|Gx<|Bs (a:=false) (vs:=[(.bool false)]) Tryz.func12 hI J (.same _)
        rintro _ fr h ⟨rfl,rfl⟩
        refine Ak (F0 _ _ _)<|Y<|Y<|O<|Ab 3 [0] [(388,(.sl 4 (List.map Bx a.Classes))),(386,(.I (a.Classes.length:Int)))] ?_
        refine Z (.I (a.Classes.length:Int)) J (A0 (Bd My))<|Z (.bool (decide ((a.Classes.length:Int)<(a.Classes.length:Int)))) J (Ba J J J)<|Aa<|C1 J (Int.lt_irrefl _)<|C7 J<|Y<|Y ?_
        refine O<|Z (.I 0) J Al<|Aa<|A8<|Ee [(2,(.q ids 0 g)),(3,(.q ids 1 g1)),(23,(.I 0))] (FI J)<|E2 (P:=Tryz.prog) a.Rules (fun j8 a17=>fun _=>G8 b j8 a17) ((Dz (fun _=>.ok true) (fun r=>.ok r)):(Unit ⊕ Bool)→R Bool) (fun j8=>fun _=>fun(fr:Nat→AV) (h:Ae)=>fr=A2 [(2,(.q ids 0 g)),(3,(.q ids 1 g1)),(23,(.I (j8:Int)))]∧h=hp h0 ids [(some (.rows g 8 [(Av a)])),(some (.rows g1 8 [(Av b)])),none,none,none,none,none,none,none,none,none,none]) () ?_ ?_ ?_
        ·exact⟨J,J⟩
        ·rintro j8 a17 ha17 W hW8 _ fr h ⟨rfl,rfl⟩
         refine Ak (m':=G8 b j8 a17) J (Ak (G8.eq_1 _ _ _) ?_)
         refine Y<|Y<|O<|Ab 3 [0] [(406,(.sl 8 (List.map A7 a.Rules))),(404,(.I (j8:Int)))] ?_
         refine Z (.I (a.Rules.length:Int)) J (A0 (Bd E1))<|Z (.bool (decide ((j8:Int)<(a.Rules.length:Int)))) J (Ba J J J)<|Aa<|Eb (t:=406) (L:=a.Rules) J fun hlim17=>C0 J (Int.ofNat_lt.2 (A5 ha17))<|Az<|Y ?_
         refine A8<|Y<|Di Gg [[],[0],[],[0,1,2],[0,1,2,3],[],[5],[],[5,6,7],[5,6,7,8],[0,1,2,3,4,5,6,7,8,9]] [(false,0),(false,1),(false,2),(false,3),(false,4),(false,5),(false,6),(false,7),(false,8),(false,9),(false,10)] (by kernel_rfl)<|Ag (.ptr (ix ids 0) g 0 7) J J (B9 (By (c:=0) (off:=7) (i:=7) Ec J E1 J))<|Ag (.sl 8 (List.map A7 a.Rules)) J J (Au (Be hI J J J E1 J))<|Ag (.I (j8:Int)) J J Ad<|Ag (.cp (A7 a17) 0) J J (Bt (Dm E1 Do J ha17)) ?_
         refine Ag (.agg (A7 a17)) J J (Au (Cp Do J))<|Ag (.ptr (ix ids 1) g1 0 7) J J (B9 (By (c:=0) (off:=7) (i:=7) Ec J E1 J))<|Ag (.sl 8 (List.map A7 b.Rules)) J J (Au (Be hI J J J E1 J))<|Ag (.I (j8:Int)) J J Ad<|Px fun a18 hz8 hx9=>Ag (.cp (A7 a18) 0) J J (Bt (Dy E1 Do J hz8 hx9))<|Ag (.agg (A7 a18)) J J (Au (Cp Do J)) ?_
         refine Ag (.bool (!((a17.Kind==a18.Kind)&&((a17.C==a18.C)&&((a17.A==a18.A)&&((a17.Class==a18.Class)&&((a17.Airport==a18.Airport)&&((a17.N==a18.N)&&((a17.Hours.From==a18.Hours.From)&&(a17.Hours.To==a18.Hours.To)))))))))) J J (Ba (Ahk J J) J Aht)<|Ct<|Ei J (fun hc9=>?_) (fun hc9=>?_)
         ·refine Az<|Bn<|O<|Ab 3 [] [(23,(.I (IntKind.wrap .i64 ((j8:Int)+1))))] ?_
          refine Aa<|Bo (Fr (hW8 () _ _ ⟨J,J⟩)) (.cons J (.cons J (.cons (D1 (A5 ha17) hlim17) .nil)))
         refine Y<|O<|Z (.bool false) J Al<|Aa<|Fp<|Gx<|Bs (a:=false) (vs:=[(.bool false)]) Tryz.func12 hI J (.same _)
        rintro _ fr h ⟨rfl,rfl⟩
        refine Ak (F0 _ _ _)<|Y<|Y<|O<|Ab 3 [0] [(406,(.sl 8 (List.map A7 a.Rules))),(404,(.I (a.Rules.length:Int)))] ?_
        refine Z (.I (a.Rules.length:Int)) J (A0 (Bd E1))<|Z (.bool (decide ((a.Rules.length:Int)<(a.Rules.length:Int)))) J (Ba J J J)<|Aa<|C1 J (Int.lt_irrefl _)<|C7 J<|Y<|O ?_
        refine Z (.bool true) J Al<|Aa<|Bs (a:=true) (vs:=[(.bool true)]) Tryz.func12 hI J (.same _)
       ·refine A4 (t:=85) hb13 J<|Ab 8 [] [(93,(.bool true))] ?_
        exact Bk hJ6 (.cons J (.cons J (.cons (Fu hb13) .nil)))
       refine A4 (t:=85) hb13 J<|Ab 2 [0] [(87,(.sl 8 (List.map A7 a.Rules)))] ?_
       refine B0 (tj:=85) (.I (a.Rules.length:Int)) J J J (A0 (Bd E1))<|Ab 2 [1] [(90,(.sl 8 (List.map A7 b.Rules)))] ?_
       refine B0 (tj:=85) (.I (b.Rules.length:Int)) J J J (A0 (Bd E1))<|Ab 2 [] [(93,(.bool ((a.Rules.length:Int) != (b.Rules.length:Int))))] ?_
       exact Bk hJ6 (.cons J (.cons J (.cons (Fw hb13) .nil)))
      ·refine A4 (t:=76) hb11 J<|Ab 8 [] [(84,(.bool true))] ?_
       exact Bk hJ5 (.cons J (.cons J (.cons (Fu hb11) .nil)))
      refine A4 (t:=76) hb11 J<|Ab 2 [0] [(78,(.sl 4 (List.map Bx a.Classes)))] ?_
      refine B0 (tj:=76) (.I (a.Classes.length:Int)) J J J (A0 (Bd My))<|Ab 2 [1] [(81,(.sl 4 (List.map Bx b.Classes)))] ?_
      refine B0 (tj:=76) (.I (b.Classes.length:Int)) J J J (A0 (Bd My))<|Ab 2 [] [(84,(.bool ((a.Classes.length:Int) != (b.Classes.length:Int))))] ?_
      exact Bk hJ5 (.cons J (.cons J (.cons (Fw hb11) .nil)))
     ·refine A4 (t:=67) hb9 J<|Ab 8 [] [(75,(.bool true))] ?_
      exact Bk hJ4 (.cons J (.cons J (.cons (Fu hb9) .nil)))
     refine A4 (t:=67) hb9 J<|Ab 2 [0] [(69,(.sl 2 (List.map A6 a.Airports)))] ?_
     refine B0 (tj:=67) (.I (a.Airports.length:Int)) J J J (A0 (Bd Oe))<|Ab 2 [1] [(72,(.sl 2 (List.map A6 b.Airports)))] ?_
     refine B0 (tj:=67) (.I (b.Airports.length:Int)) J J J (A0 (Bd Oe))<|Ab 2 [] [(75,(.bool ((a.Airports.length:Int) != (b.Airports.length:Int))))] ?_
     exact Bk hJ4 (.cons J (.cons J (.cons (Fw hb9) .nil)))
    ·refine A4 (t:=58) hb7 J<|Ab 8 [] [(66,(.bool true))] ?_
     exact Bk hJ3 (.cons J (.cons J (.cons (Fu hb7) .nil)))
    refine A4 (t:=58) hb7 J<|Ab 2 [0] [(60,(.sl 7 (List.map Bp a.Routes)))] ?_
    refine B0 (tj:=58) (.I (a.Routes.length:Int)) J J J (A0 (Bd K4))<|Ab 2 [1] [(63,(.sl 7 (List.map Bp b.Routes)))] ?_
    refine B0 (tj:=58) (.I (b.Routes.length:Int)) J J J (A0 (Bd K4))<|Ab 2 [] [(66,(.bool ((a.Routes.length:Int) != (b.Routes.length:Int))))] ?_
    exact Bk hJ3 (.cons J (.cons J (.cons (Fw hb7) .nil)))
   ·refine A4 (t:=49) hb5 J<|Ab 8 [] [(57,(.bool true))] ?_
    exact Bk hJ2 (.cons J (.cons J (.cons (Fu hb5) .nil)))
   refine A4 (t:=49) hb5 J<|Ab 2 [0] [(51,(.sl 5 (List.map A9 a.Segments)))] ?_
   refine B0 (tj:=49) (.I (a.Segments.length:Int)) J J J (A0 (Bd K3))<|Ab 2 [1] [(54,(.sl 5 (List.map A9 b.Segments)))] ?_
   refine B0 (tj:=49) (.I (b.Segments.length:Int)) J J J (A0 (Bd K3))<|Ab 2 [] [(57,(.bool ((a.Segments.length:Int) != (b.Segments.length:Int))))] ?_
   exact Bk hJ2 (.cons J (.cons J (.cons (Fw hb5) .nil)))
  ·refine A4 (t:=40) hb3 J<|Ab 8 [] [(48,(.bool true))] ?_
   exact Bk hJ1 (.cons J (.cons J (.cons (Fu hb3) .nil)))
  refine A4 (t:=40) hb3 J<|Ab 2 [0] [(42,(.sl 3 (List.map Bf a.Configs)))] ?_
  refine B0 (tj:=40) (.I (a.Configs.length:Int)) J J J (A0 (Bd K1))<|Ab 2 [1] [(45,(.sl 3 (List.map Bf b.Configs)))] ?_
  refine B0 (tj:=40) (.I (b.Configs.length:Int)) J J J (A0 (Bd K1))<|Ab 2 [] [(48,(.bool ((a.Configs.length:Int) != (b.Configs.length:Int))))] ?_
  exact Bk hJ1 (.cons J (.cons J (.cons (Fw hb3) .nil)))
 ·refine A4 (t:=31) hb1 J<|Ab 8 [] [(39,(.bool true))] ?_
  exact Bk hJ (.cons J (.cons J (.cons (Fu hb1) .nil)))
 refine A4 (t:=31) hb1 J<|Ab 2 [0] [(33,(.sl 5 (List.map A3 a.Sectors)))] ?_
 refine B0 (tj:=31) (.I (a.Sectors.length:Int)) J J J (A0 (Bd Ji))<|Ab 2 [1] [(36,(.sl 5 (List.map A3 b.Sectors)))] ?_
 refine B0 (tj:=31) (.I (b.Sectors.length:Int)) J J J (A0 (Bd Ji))<|Ab 2 [] [(39,(.bool ((a.Sectors.length:Int) != (b.Sectors.length:Int))))] ?_
 exact Bk hJ (.cons J (.cons J (.cons (Fw hb1) .nil)))
theorem Ts (s1:List Span)(s2:List Span):CP Tryz.prog 64 [(.sl 2 (List.map Cc s1)),(.sl 2 (List.map Cc s2))] (Pm s1 s2) (fun(x:Bool)=>(AV.bool x)):=by
 refine C3 (n:=26) 0 Tryz.func64 J (by decide) J J fun h0 ids hI=>Bm (Ak (Pm.eq_1 _ _) ?_)
 refine Y<|O<|Z (.bool false) J Al<|Aa<|Y<|Y<|O ?_
 refine Z (.sl 2 (List.map Cc s1)) J Ad<|Z (.I (s1.length:Int)) J (A0 (Bd Mw))<|Z (.sl 2 (List.map Cc s2)) J Ad<|Z (.I (s2.length:Int)) J (A0 (Bd Mw))<|Z (.bool ((s1.length:Int) != (s2.length:Int))) J (Ba J J J)<|Aa<|Cd J (fun hc=>?_) (fun hc=>?_)
 ·refine Y<|O<|Z (.bool false) J Al<|Aa<|Bs (a:=false) (vs:=[(.bool false)]) Tryz.func64 hI J (.same _)
 refine Az<|Y<|Y<|O<|Z (.sl 2 (List.map Cc s1)) J Ad<|Z (.I (s1.length:Int)) J (A0 (Bd Mw))<|Z (.I 0) J Ad ?_
 refine Aa<|A8<|Ee [(0,(.sl 2 (List.map Cc s1))),(1,(.sl 2 (List.map Cc s2))),(12,(.I (s1.length:Int))),(13,(.I 0))] (FI J)<|E2 (P:=Tryz.prog) s1 (fun j a=>fun _=>N6 s2 j a) ((Dz (fun _=>.ok true) (fun r=>.ok r)):(Unit ⊕ Bool)→R Bool) (fun j=>fun _=>fun(fr:Nat→AV) (h:Ae)=>fr=A2 [(0,(.sl 2 (List.map Cc s1))),(1,(.sl 2 (List.map Cc s2))),(12,(.I (s1.length:Int))),(13,(.I (j:Int)))]∧h=hp h0 ids []) () ?_ ?_ ?_
 ·exact⟨J,J⟩
 ·rintro j a ha W hW _ fr h ⟨rfl,rfl⟩
  refine Ak (m':=N6 s2 j a) J (Ak (N6.eq_1 _ _ _) ?_)
  refine Y<|O<|Z (.bool (decide ((j:Int)<(s1.length:Int)))) J (Ba J J J)<|Aa<|Y<|Eb (t:=0) (L:=s1) J fun hlim=>C0 J (Int.ofNat_lt.2 (A5 ha)) ?_
  refine Az<|Y<|A8<|Y<|O<|Ab 2 [] [(5,(.I (j:Int)))] ?_
  refine Aa<|Y<|Di Gg [[],[],[0,1],[0,1,2],[],[],[4,5],[4,5,6],[0,1,2,3,4,5,6,7]] [(false,0),(false,1),(false,2),(false,3),(false,4),(false,5),(false,6),(false,7),(false,8)] (by kernel_rfl)<|Ag (.sl 2 (List.map Cc s1)) J J Ad<|Ag (.I (j:Int)) J J Ad<|Ag (.cp (Cc a) 0) J J (Bt (Dm Mw Ly J ha))<|Ag (.agg (Cc a)) J J (Au (Cp Ly J)) ?_
  refine Ag (.sl 2 (List.map Cc s2)) J J Ad<|Ag (.I (j:Int)) J J Ad<|Px fun a1 hz hx1=>Ag (.cp (Cc a1) 0) J J (Bt (Dy Mw Ly J hz hx1))<|Ag (.agg (Cc a1)) J J (Au (Cp Ly J))<|Ag (.bool (!((a.From==a1.From)&&(a.To==a1.To)))) J J (Ba (Amn J J) J Al5)<|Ct ?_
  refine Ei J (fun hc1=>?_) (fun hc1=>?_)
  ·refine Az<|Bn<|O<|Ab 2 [] [(13,(.I (IntKind.wrap .i64 ((j:Int)+1))))] ?_
   refine Aa<|Bo (Fr (hW () _ _ ⟨J,J⟩)) (.cons J (.cons J (.cons J (.cons (D1 (A5 ha) hlim) .nil))))
  refine Y<|O<|Z (.bool false) J Al<|Aa<|Fp<|Gx<|Bs (a:=false) (vs:=[(.bool false)]) Tryz.func64 hI J (.same _)
 rintro _ fr h ⟨rfl,rfl⟩
 refine Ak (F0 _ _ _)<|Y<|O<|Z (.bool (decide ((s1.length:Int)<(s1.length:Int)))) J (Ba J J J)<|Aa<|Y<|C1 J (Int.lt_irrefl _) ?_
 refine C7 J<|Y<|O<|Z (.bool true) J Al<|Aa<|Bs (a:=true) (vs:=[(.bool true)]) Tryz.func64 hI J (.same _)
end Go.Am
namespace Go.Am
open Go Go.Proofs
set_option maxRecDepth 100000
set_option maxHeartbeats 4000000
set_option linter.unusedSimpArgs false
set_option linter.unusedVariables false
theorem Acs (a:Volume)(y:Volume):CP Tryz.prog 63 [(.agg (As a)),(.agg (As y))] (U7 a y) (fun(x:Bool)=>(AV.bool x)):=by
 refine C3 (n:=17) 2 Tryz.func63 J (by decide) J J fun h0 ids hI=>Bm (Ak (U7.eq_1 _ _) ?_)
 refine Y<|O<|Cv (v:=(.agg (As a))) (j:=0) hI J J J J J J J fun g=>Cv (v:=(.agg (As y))) (j:=1) hI J J J J J J J fun g1=>Z (.bool false) J Al<|Aa<|Aj ?_
 refine Y<|O<|Ab 6 [0,1] [(10,(.bool (a.Name==y.Name)))] ?_
 refine Dk 6 ((fun(b:Bool)=>.ok b):Bool→R Bool) (fun(b:Bool) (fr:Nat→AV) (h:Ae)=>fr=A2 [(16,(.bool b))]∧h=hp h0 ids [(some (.rows g 2 [(As a)])),(some (.rows g1 2 [(As y)]))]) ?_ fun hJ=>D7 (fun hb1=>?_) (fun hb1=>?_)
 ·rintro b fr h ⟨rfl,rfl⟩
  refine Z (.bool b) J Al<|Aa<|Bs (a:=b) (vs:=[(.bool b)]) Tryz.func63 hI J (.same _)
 ·refine A4 (t:=10) hb1 J<|Ab 4 [0,1] [(14,(.sl 2 (List.map Cc y.Closed))),(12,(.sl 2 (List.map Cc a.Closed)))] ?_
  refine Bz [(.sl 2 (List.map Cc a.Closed)),(.sl 2 (List.map Cc y.Closed))] J (Co (tj:=10) J J) J J ((Ts a.Closed y.Closed) _) (fun v _=>Cj Tryz.func63 hI) fun r _=>Z (.bool r) J (Ep (t:=true) J J)<|Bj<|Ch [(16,(.bool r))] (FI J)<|hJ r _ _ ⟨J,J⟩
 refine A4 (t:=10) hb1 J<|Ab 6 [] [(16,(.bool false))] ?_
 refine Bj<|Ch [(16,(.bool false))] (FI J)<|hJ false _ _ ⟨J,J⟩
theorem Mm (s1:List Volume)(s2:List Volume):CP Tryz.prog 62 [(.sl 2 (List.map As s1)),(.sl 2 (List.map As s2)),(.func (.func 63) [] [])] (Fk s1 s2) (fun(x:Bool)=>(AV.bool x)):=by
 refine C3 (n:=32) 2 Tryz.func62 J (by decide) J J fun h0 ids hI=>Bm (Ak (Fk.eq_1 _ _) ?_)
 refine Y<|O<|Z (.bool false) J Al<|Aa<|Y<|Y<|O ?_
 refine Z (.sl 2 (List.map As s1)) J Ad<|Z (.I (s1.length:Int)) J (A0 (Bd J2))<|Z (.sl 2 (List.map As s2)) J Ad<|Z (.I (s2.length:Int)) J (A0 (Bd J2))<|Z (.bool ((s1.length:Int) != (s2.length:Int))) J (Ba J J J)<|Aa<|Cd J (fun hc=>?_) (fun hc=>?_)
 ·refine Y<|O<|Z (.bool false) J Al<|Aa<|Bs (a:=false) (vs:=[(.bool false)]) Tryz.func62 hI J (.same _)
 refine Az<|Y<|Y<|O<|Z (.sl 2 (List.map As s1)) J Ad<|Z (.I (s1.length:Int)) J (A0 (Bd J2))<|Z (.I 0) J Ad ?_
 refine Aa<|A8<|Ee [(1,(.sl 2 (List.map As s2))),(2,(.func (.func 63) [] [])),(15,(.sl 2 (List.map As s1))),(16,(.I (s1.length:Int))),(17,(.I 0))] (FI J)<|E2 (P:=Tryz.prog) s1 (fun j a=>fun _=>Ea s2 j a) ((Dz (fun _=>.ok true) (fun r=>.ok r)):(Unit ⊕ Bool)→R Bool) (fun j=>fun _=>fun(fr:Nat→AV) (h:Ae)=>fr=A2 [(1,(.sl 2 (List.map As s2))),(2,(.func (.func 63) [] [])),(15,(.sl 2 (List.map As s1))),(16,(.I (s1.length:Int))),(17,(.I (j:Int)))]∧h=hp h0 ids [none,none]) () ?_ ?_ ?_
 ·exact⟨J,J⟩
 ·rintro j a ha W hW _ fr h ⟨rfl,rfl⟩
  refine Ak (m':=Ea s2 j a) J (Ak (Ea.eq_1 _ _ _) ?_)
  refine Y<|O<|Z (.bool (decide ((j:Int)<(s1.length:Int)))) J (Ba J J J)<|Aa<|Y<|Eb (t:=15) (L:=s1) J fun hlim=>C0 J (Int.ofNat_lt.2 (A5 ha)) ?_
  refine Az<|Y<|A8<|Y<|O<|Z (.I (j:Int)) J Ad<|Z (.cp (As a) 0) J (Bt (Dm J2 Ko J ha)) ?_
  refine Z (.agg (As a)) J (Au (Cp Ko J))<|Bc (j:=0) hI J J J J Ko J fun g=>Z (.I (j:Int)) J Al<|Aq (Ax (v:=(.agg (As a))) hI J J J J Ko J J J J J)<|Aa<|Aj ?_
  refine Y<|O<|Ab 2 [] [(23,(.I (j:Int))),(22,(.sl 2 (List.map As s2)))] ?_
  refine Ey fun a1 hz hx1=>Z (.cp (As a1) 0) J (Bt (Dy J2 Ko J hz hx1))<|Z (.agg (As a1)) J (Au (Cp Ko J))<|Bc (j:=1) hI J J J J Ko J fun g1=>Aq (Ax (v:=(.agg (As a1))) hI J J J J Ko J J J J J)<|Aa<|Aj ?_
  refine Y<|O<|Ab 3 [0,1] [(28,(.agg (As a1))),(27,(.agg (As a))),(26,(.func (.func 63) [] []))] ?_
  refine Bz [(.agg (As a)),(.agg (As a1))] J J J J ((Acs a a1) _) (fun v _=>Cj Tryz.func62 hI) fun r _=>Z (.bool (!r)) J (Q7 J)<|Aa<|Ei J (fun hc1=>?_) (fun hc1=>?_)
  ·refine Az<|Bn<|O<|Ab 2 [] [(17,(.I (IntKind.wrap .i64 ((j:Int)+1))))] ?_
   refine Aa<|Eh [none,none] hI J (.drop (.drop .nil))<|Bo (Fr (hW () _ _ ⟨J,J⟩)) (.cons J (.cons J (.cons J (.cons J (.cons (D1 (A5 ha) hlim) .nil)))))
  refine Y<|O<|Z (.bool false) J Al<|Aa<|Fp<|Gx<|Bs (a:=false) (vs:=[(.bool false)]) Tryz.func62 hI J (.same _)
 rintro _ fr h ⟨rfl,rfl⟩
 refine Ak (F0 _ _ _)<|Y<|O<|Z (.bool (decide ((s1.length:Int)<(s1.length:Int)))) J (Ba J J J)<|Aa<|Y<|C1 J (Int.lt_irrefl _) ?_
 refine C7 J<|Y<|O<|Z (.bool true) J Al<|Aa<|Bs (a:=true) (vs:=[(.bool true)]) Tryz.func62 hI J (.same _)
theorem Pc (s1:List Ar)(s2:List Ar):CP Tryz.prog 67 [(.sl 1 (List.map rS s1)),(.sl 1 (List.map rS s2))] (Mb s1 s2) (fun(x:Bool)=>(AV.bool x)):=by
 refine C3 (n:=26) 0 Tryz.func67 J (by decide) J J fun h0 ids hI=>Bm (Ak (Mb.eq_1 _ _) ?_)
 refine Y<|O<|Z (.bool false) J Al<|Aa<|Y<|Y<|O ?_
 refine Z (.sl 1 (List.map rS s1)) J Ad<|Z (.I (s1.length:Int)) J (A0 (Bd D5))<|Z (.sl 1 (List.map rS s2)) J Ad<|Z (.I (s2.length:Int)) J (A0 (Bd D5))<|Z (.bool ((s1.length:Int) != (s2.length:Int))) J (Ba J J J)<|Aa<|Cd J (fun hc=>?_) (fun hc=>?_)
 ·refine Y<|O<|Z (.bool false) J Al<|Aa<|Bs (a:=false) (vs:=[(.bool false)]) Tryz.func67 hI J (.same _)
 refine Az<|Y<|Y<|O<|Z (.sl 1 (List.map rS s1)) J Ad<|Z (.I (s1.length:Int)) J (A0 (Bd D5))<|Z (.I 0) J Ad ?_
 refine Aa<|A8<|Ee [(0,(.sl 1 (List.map rS s1))),(1,(.sl 1 (List.map rS s2))),(12,(.I (s1.length:Int))),(13,(.I 0))] (FI J)<|E2 (P:=Tryz.prog) s1 (fun j a=>fun _=>Mo s2 j a) ((Dz (fun _=>.ok true) (fun r=>.ok r)):(Unit ⊕ Bool)→R Bool) (fun j=>fun _=>fun(fr:Nat→AV) (h:Ae)=>fr=A2 [(0,(.sl 1 (List.map rS s1))),(1,(.sl 1 (List.map rS s2))),(12,(.I (s1.length:Int))),(13,(.I (j:Int)))]∧h=hp h0 ids []) () ?_ ?_ ?_
 ·exact⟨J,J⟩
 ·rintro j a ha W hW _ fr h ⟨rfl,rfl⟩
  refine Ak (m':=Mo s2 j a) J (Ak (Mo.eq_1 _ _ _) ?_)
  refine Y<|O<|Z (.bool (decide ((j:Int)<(s1.length:Int)))) J (Ba J J J)<|Aa<|Y<|Eb (t:=0) (L:=s1) J fun hlim=>C0 J (Int.ofNat_lt.2 (A5 ha)) ?_
  refine Az<|Y<|A8<|Y<|O<|Ab 2 [] [(5,(.I (j:Int)))] ?_
  refine Aa<|Y<|Di Gg [[],[],[0,1],[0,1,2],[],[],[4,5],[4,5,6],[0,1,2,3,4,5,6,7]] [(false,0),(false,1),(false,2),(false,3),(false,4),(false,5),(false,6),(false,7),(false,8)] (by kernel_rfl)<|Ag (.sl 1 (List.map rS s1)) J J Ad<|Ag (.I (j:Int)) J J Ad<|Ag (.cp [(.str a)] 0) J J (Bt (Dm D5 Cy J ha))<|Ag (.str a) J J (Au (Cp Cy J)) ?_
  refine Ag (.sl 1 (List.map rS s2)) J J Ad<|Ag (.I (j:Int)) J J Ad<|Px fun a1 hz hx1=>Ag (.cp [(.str a1)] 0) J J (Bt (Dy D5 Cy J hz hx1))<|Ag (.str a1) J J (Au (Cp Cy J))<|Ag (.bool (!(a==a1))) J J (Ba J J J)<|Ct ?_
  refine Ei J (fun hc1=>?_) (fun hc1=>?_)
  ·refine Az<|Bn<|O<|Ab 2 [] [(13,(.I (IntKind.wrap .i64 ((j:Int)+1))))] ?_
   refine Aa<|Bo (Fr (hW () _ _ ⟨J,J⟩)) (.cons J (.cons J (.cons J (.cons (D1 (A5 ha) hlim) .nil))))
  refine Y<|O<|Z (.bool false) J Al<|Aa<|Fp<|Gx<|Bs (a:=false) (vs:=[(.bool false)]) Tryz.func67 hI J (.same _)
 rintro _ fr h ⟨rfl,rfl⟩
 refine Ak (F0 _ _ _)<|Y<|O<|Z (.bool (decide ((s1.length:Int)<(s1.length:Int)))) J (Ba J J J)<|Aa<|Y<|C1 J (Int.lt_irrefl _) ?_
 refine C7 J<|Y<|O<|Z (.bool true) J Al<|Aa<|Bs (a:=true) (vs:=[(.bool true)]) Tryz.func67 hI J (.same _)
theorem Q3 (s1:List Int)(s2:List Int):CP Tryz.prog 68 [(.sl 1 (List.map (rI .i64) s1)),(.sl 1 (List.map (rI .i64) s2))] (I3 s1 s2) (fun(x:Bool)=>(AV.bool x)):=by
 refine C3 (n:=26) 0 Tryz.func68 J (by decide) J J fun h0 ids hI=>Bm (Ak (I3.eq_1 _ _) ?_)
 refine Y<|O<|Z (.bool false) J Al<|Aa<|Y<|Y<|O ?_
 refine Z (.sl 1 (List.map (rI .i64) s1)) J Ad<|Z (.I (s1.length:Int)) J (A0 (Bd Ok))<|Z (.sl 1 (List.map (rI .i64) s2)) J Ad<|Z (.I (s2.length:Int)) J (A0 (Bd Ok))<|Z (.bool ((s1.length:Int) != (s2.length:Int))) J (Ba J J J)<|Aa<|Cd J (fun hc=>?_) (fun hc=>?_)
 ·refine Y<|O<|Z (.bool false) J Al<|Aa<|Bs (a:=false) (vs:=[(.bool false)]) Tryz.func68 hI J (.same _)
 refine Az<|Y<|Y<|O<|Z (.sl 1 (List.map (rI .i64) s1)) J Ad<|Z (.I (s1.length:Int)) J (A0 (Bd Ok))<|Z (.I 0) J Ad ?_
 refine Aa<|A8<|Ee [(0,(.sl 1 (List.map (rI .i64) s1))),(1,(.sl 1 (List.map (rI .i64) s2))),(12,(.I (s1.length:Int))),(13,(.I 0))] (FI J)<|E2 (P:=Tryz.prog) s1 (fun j a=>fun _=>Ol s2 j a) ((Dz (fun _=>.ok true) (fun r=>.ok r)):(Unit ⊕ Bool)→R Bool) (fun j=>fun _=>fun(fr:Nat→AV) (h:Ae)=>fr=A2 [(0,(.sl 1 (List.map (rI .i64) s1))),(1,(.sl 1 (List.map (rI .i64) s2))),(12,(.I (s1.length:Int))),(13,(.I (j:Int)))]∧h=hp h0 ids []) () ?_ ?_ ?_
 ·exact⟨J,J⟩
 ·rintro j a ha W hW _ fr h ⟨rfl,rfl⟩
  refine Ak (m':=Ol s2 j a) J (Ak (Ol.eq_1 _ _ _) ?_)
  refine Y<|O<|Z (.bool (decide ((j:Int)<(s1.length:Int)))) J (Ba J J J)<|Aa<|Y<|Eb (t:=0) (L:=s1) J fun hlim=>C0 J (Int.ofNat_lt.2 (A5 ha)) ?_
  refine Az<|Y<|A8<|Y<|O<|Ab 2 [] [(5,(.I (j:Int)))] ?_
  refine Aa<|Y<|Di Gg [[],[],[0,1],[0,1,2],[],[],[4,5],[4,5,6],[0,1,2,3,4,5,6,7]] [(false,0),(false,1),(false,2),(false,3),(false,4),(false,5),(false,6),(false,7),(false,8)] (by kernel_rfl)<|Ag (.sl 1 (List.map (rI .i64) s1)) J J Ad<|Ag (.I (j:Int)) J J Ad<|Ag (.cp [(.I a)] 0) J J (Bt (Dm Ok Ds J ha))<|Ag (.I a) J J (Au (Cp Ds J)) ?_
  refine Ag (.sl 1 (List.map (rI .i64) s2)) J J Ad<|Ag (.I (j:Int)) J J Ad<|Px fun a1 hz hx1=>Ag (.cp [(.I a1)] 0) J J (Bt (Dy Ok Ds J hz hx1))<|Ag (.I a1) J J (Au (Cp Ds J))<|Ag (.bool (a != a1)) J J (Ba J J J)<|Ct ?_
  refine Cd J (fun hc1=>?_) (fun hc1=>?_)
  ·refine Y<|O<|Z (.bool false) J Al<|Aa<|Fp<|Gx<|Bs (a:=false) (vs:=[(.bool false)]) Tryz.func68 hI J (.same _)
  refine Az<|Bn<|O<|Ab 2 [] [(13,(.I (IntKind.wrap .i64 ((j:Int)+1))))] ?_
  refine Aa<|Bo (Fr (hW () _ _ ⟨J,J⟩)) (.cons J (.cons J (.cons J (.cons (D1 (A5 ha) hlim) .nil))))
 rintro _ fr h ⟨rfl,rfl⟩
 refine Ak (F0 _ _ _)<|Y<|O<|Z (.bool (decide ((s1.length:Int)<(s1.length:Int)))) J (Ba J J J)<|Aa<|Y<|C1 J (Int.lt_irrefl _) ?_
 refine C7 J<|Y<|O<|Z (.bool true) J Al<|Aa<|Bs (a:=true) (vs:=[(.bool true)]) Tryz.func68 hI J (.same _)
theorem Acr (a:Sector)(y:Sector):CP Tryz.prog 66 [(.agg (A3 a)),(.agg (A3 y))] (U3 a y) (fun(x:Bool)=>(AV.bool x)):=by
 refine C3 (n:=38) 2 Tryz.func66 J (by decide) J J fun h0 ids hI=>Bm (Ak (U3.eq_1 _ _) ?_)
 refine Y<|O<|Cv (v:=(.agg (A3 a))) (j:=0) hI J J J J J J J fun g=>Cv (v:=(.agg (A3 y))) (j:=1) hI J J J J J J J fun g1=>Z (.bool false) J Al<|Aa<|Aj ?_
 refine Y<|O<|Ab 6 [0,1] [(10,(.bool (a.Name==y.Name)))] ?_
 refine Dk 6 ((fun(b:Bool)=>(if b then(I3 a.Volumes y.Volumes).bind fun r1=>R.ok r1 else R.ok false).bind (fun(b1:Bool)=>.ok ((b1&&(a.Radar==y.Radar))&&(a.Procedural==y.Procedural)))):Bool→R Bool) (fun(b:Bool) (fr:Nat→AV) (h:Ae)=>fr=A2 [(2,(.q ids 0 g)),(3,(.q ids 1 g1)),(16,(.bool b))]∧h=hp h0 ids [(some (.rows g 5 [(A3 a)])),(some (.rows g1 5 [(A3 y)]))]) ?_ fun hJ=>D7 (fun hb1=>?_) (fun hb1=>?_)
 ·rintro b fr h ⟨rfl,rfl⟩
  refine Z (.bool b) J Ad<|Dk 6 ((fun(b1:Bool)=>.ok ((b1&&(a.Radar==y.Radar))&&(a.Procedural==y.Procedural))):Bool→R Bool) (fun(b1:Bool) (fr:Nat→AV) (h:Ae)=>fr=A2 [(2,(.q ids 0 g)),(3,(.q ids 1 g1)),(23,(.bool b1))]∧h=hp h0 ids [(some (.rows g 5 [(A3 a)])),(some (.rows g1 5 [(A3 y)]))]) ?_ fun hJ1=>D7 (fun hb3=>?_) (fun hb3=>?_)
  ·rintro b1 fr h ⟨rfl,rfl⟩
   refine Z (.bool b1) J Ad<|B8 6 [(2,(.q ids 0 g)),(3,(.q ids 1 g1)),(30,(.bool (b1&&(a.Radar==y.Radar))))] ?_ fun hJ2=>Bu b1 (fun hb5=>?_) (fun hb5=>?_)
   ·refine Z (.bool (b1&&(a.Radar==y.Radar))) J Ad<|B8 6 [(37,(.bool ((b1&&(a.Radar==y.Radar))&&(a.Procedural==y.Procedural))))] ?_ fun hJ3=>Bu (b1&&(a.Radar==y.Radar)) (fun hb7=>?_) (fun hb7=>?_)
    ·refine Z (.bool ((b1&&(a.Radar==y.Radar))&&(a.Procedural==y.Procedural))) J Al<|Aa<|Bs (a:=((b1&&(a.Radar==y.Radar))&&(a.Procedural==y.Procedural))) (vs:=[(.bool ((b1&&(a.Radar==y.Radar))&&(a.Procedural==y.Procedural)))]) Tryz.func66 hI J (.same _)
    ·refine A4 (t:=31) hb7 J<|Ab 6 [0,1] [(37,(.bool (a.Procedural==y.Procedural)))] ?_
     exact Bk hJ3 (.cons (Lf hb7) .nil)
    refine A4 (t:=31) hb7 J<|Ab 6 [] [(37,(.bool false))] ?_
    exact Bk hJ3 (.cons (Li hb7) .nil)
   ·refine A4 (t:=24) hb5 J<|Ab 6 [0,1] [(30,(.bool (a.Radar==y.Radar)))] ?_
    exact Bk hJ2 (.cons J (.cons J (.cons (Lf hb5) .nil)))
   refine A4 (t:=24) hb5 J<|Ab 6 [] [(30,(.bool false))] ?_
   exact Bk hJ2 (.cons J (.cons J (.cons (Li hb5) .nil)))
  ·refine A4 (t:=17) hb3 J<|Ab 4 [0,1] [(21,(.sl 1 (List.map (rI .i64) y.Volumes))),(19,(.sl 1 (List.map (rI .i64) a.Volumes)))] ?_
   refine Bz [(.sl 1 (List.map (rI .i64) a.Volumes)),(.sl 1 (List.map (rI .i64) y.Volumes))] J (Co (tj:=17) J J) J J ((Q3 a.Volumes y.Volumes) _) (fun v _=>Cj Tryz.func66 hI) fun r1 _=>Z (.bool r1) J (Ep (t:=true) J J)<|Bj<|Ch [(2,(.q ids 0 g)),(3,(.q ids 1 g1)),(23,(.bool r1))] (FI J)<|hJ1 r1 _ _ ⟨J,J⟩
  refine A4 (t:=17) hb3 J<|Ab 6 [] [(23,(.bool false))] ?_
  refine Bj<|Ch [(2,(.q ids 0 g)),(3,(.q ids 1 g1)),(23,(.bool false))] (FI J)<|hJ1 false _ _ ⟨J,J⟩
 ·refine A4 (t:=10) hb1 J<|Ab 4 [0,1] [(14,(.sl 1 (List.map rS y.Names))),(12,(.sl 1 (List.map rS a.Names)))] ?_
  refine Bz [(.sl 1 (List.map rS a.Names)),(.sl 1 (List.map rS y.Names))] J (Co (tj:=10) J J) J J ((Pc a.Names y.Names) _) (fun v _=>Cj Tryz.func66 hI) fun r _=>Z (.bool r) J (Ep (t:=true) J J)<|Bj<|Ch [(2,(.q ids 0 g)),(3,(.q ids 1 g1)),(16,(.bool r))] (FI J)<|hJ r _ _ ⟨J,J⟩
 refine A4 (t:=10) hb1 J<|Ab 6 [] [(16,(.bool false))] ?_
 refine Bj<|Ch [(2,(.q ids 0 g)),(3,(.q ids 1 g1)),(16,(.bool false))] (FI J)<|hJ false _ _ ⟨J,J⟩
theorem Mp (s1:List Sector)(s2:List Sector):CP Tryz.prog 65 [(.sl 5 (List.map A3 s1)),(.sl 5 (List.map A3 s2)),(.func (.func 66) [] [])] (Fh s1 s2) (fun(x:Bool)=>(AV.bool x)):=by
 refine C3 (n:=32) 2 Tryz.func65 J (by decide) J J fun h0 ids hI=>Bm (Ak (Fh.eq_1 _ _) ?_)
 refine Y<|O<|Z (.bool false) J Al<|Aa<|Y<|Y<|O ?_
 refine Z (.sl 5 (List.map A3 s1)) J Ad<|Z (.I (s1.length:Int)) J (A0 (Bd Ji))<|Z (.sl 5 (List.map A3 s2)) J Ad<|Z (.I (s2.length:Int)) J (A0 (Bd Ji))<|Z (.bool ((s1.length:Int) != (s2.length:Int))) J (Ba J J J)<|Aa<|Cd J (fun hc=>?_) (fun hc=>?_)
 ·refine Y<|O<|Z (.bool false) J Al<|Aa<|Bs (a:=false) (vs:=[(.bool false)]) Tryz.func65 hI J (.same _)
 refine Az<|Y<|Y<|O<|Z (.sl 5 (List.map A3 s1)) J Ad<|Z (.I (s1.length:Int)) J (A0 (Bd Ji))<|Z (.I 0) J Ad ?_
 refine Aa<|A8<|Ee [(1,(.sl 5 (List.map A3 s2))),(2,(.func (.func 66) [] [])),(15,(.sl 5 (List.map A3 s1))),(16,(.I (s1.length:Int))),(17,(.I 0))] (FI J)<|E2 (P:=Tryz.prog) s1 (fun j a=>fun _=>D9 s2 j a) ((Dz (fun _=>.ok true) (fun r=>.ok r)):(Unit ⊕ Bool)→R Bool) (fun j=>fun _=>fun(fr:Nat→AV) (h:Ae)=>fr=A2 [(1,(.sl 5 (List.map A3 s2))),(2,(.func (.func 66) [] [])),(15,(.sl 5 (List.map A3 s1))),(16,(.I (s1.length:Int))),(17,(.I (j:Int)))]∧h=hp h0 ids [none,none]) () ?_ ?_ ?_
 ·exact⟨J,J⟩
 ·rintro j a ha W hW _ fr h ⟨rfl,rfl⟩
  refine Ak (m':=D9 s2 j a) J (Ak (D9.eq_1 _ _ _) ?_)
  refine Y<|O<|Z (.bool (decide ((j:Int)<(s1.length:Int)))) J (Ba J J J)<|Aa<|Y<|Eb (t:=15) (L:=s1) J fun hlim=>C0 J (Int.ofNat_lt.2 (A5 ha)) ?_
  refine Az<|Y<|A8<|Y<|O<|Z (.I (j:Int)) J Ad<|Z (.cp (A3 a) 0) J (Bt (Dm Ji Gp J ha)) ?_
  refine Z (.agg (A3 a)) J (Au (Cp Gp J))<|Bc (j:=0) hI J J J J Gp J fun g=>Z (.I (j:Int)) J Al<|Aq (Ax (v:=(.agg (A3 a))) hI J J J J Gp J J J J J)<|Aa<|Aj ?_
  refine Y<|O<|Ab 2 [] [(23,(.I (j:Int))),(22,(.sl 5 (List.map A3 s2)))] ?_
  refine Ey fun a1 hz hx1=>Z (.cp (A3 a1) 0) J (Bt (Dy Ji Gp J hz hx1))<|Z (.agg (A3 a1)) J (Au (Cp Gp J))<|Bc (j:=1) hI J J J J Gp J fun g1=>Aq (Ax (v:=(.agg (A3 a1))) hI J J J J Gp J J J J J)<|Aa<|Aj ?_
  refine Y<|O<|Ab 3 [0,1] [(28,(.agg (A3 a1))),(27,(.agg (A3 a))),(26,(.func (.func 66) [] []))] ?_
  refine Bz [(.agg (A3 a)),(.agg (A3 a1))] J J J J ((Acr a a1) _) (fun v _=>Cj Tryz.func65 hI) fun r _=>Z (.bool (!r)) J (Q7 J)<|Aa<|Ei J (fun hc1=>?_) (fun hc1=>?_)
  ·refine Az<|Bn<|O<|Ab 2 [] [(17,(.I (IntKind.wrap .i64 ((j:Int)+1))))] ?_
   refine Aa<|Eh [none,none] hI J (.drop (.drop .nil))<|Bo (Fr (hW () _ _ ⟨J,J⟩)) (.cons J (.cons J (.cons J (.cons J (.cons (D1 (A5 ha) hlim) .nil)))))
  refine Y<|O<|Z (.bool false) J Al<|Aa<|Fp<|Gx<|Bs (a:=false) (vs:=[(.bool false)]) Tryz.func65 hI J (.same _)
 rintro _ fr h ⟨rfl,rfl⟩
 refine Ak (F0 _ _ _)<|Y<|O<|Z (.bool (decide ((s1.length:Int)<(s1.length:Int)))) J (Ba J J J)<|Aa<|Y<|C1 J (Int.lt_irrefl _) ?_
 refine C7 J<|Y<|O<|Z (.bool true) J Al<|Aa<|Bs (a:=true) (vs:=[(.bool true)]) Tryz.func65 hI J (.same _)
theorem Acv (a:Config)(y:Config):CP Tryz.prog 70 [(.agg (Bf a)),(.agg (Bf y))] (Uu a y) (fun(x:Bool)=>(AV.bool x)):=by
 refine C3 (n:=24) 2 Tryz.func70 J (by decide) J J fun h0 ids hI=>Bm (Ak (Uu.eq_1 _ _) ?_)
 refine Y<|O<|Cv (v:=(.agg (Bf a))) (j:=0) hI J J J J J J J fun g=>Cv (v:=(.agg (Bf y))) (j:=1) hI J J J J J J J fun g1=>Z (.bool false) J Al<|Aa<|Aj ?_
 refine Y<|O<|Ab 6 [0,1] [(10,(.bool (a.Name==y.Name)))] ?_
 refine Dk 6 ((fun(b:Bool)=>(if b then(I3 a.Sectors y.Sectors).bind fun r1=>R.ok r1 else R.ok false).bind (fun(b1:Bool)=>.ok b1)):Bool→R Bool) (fun(b:Bool) (fr:Nat→AV) (h:Ae)=>fr=A2 [(2,(.q ids 0 g)),(3,(.q ids 1 g1)),(16,(.bool b))]∧h=hp h0 ids [(some (.rows g 3 [(Bf a)])),(some (.rows g1 3 [(Bf y)]))]) ?_ fun hJ=>D7 (fun hb1=>?_) (fun hb1=>?_)
 ·rintro b fr h ⟨rfl,rfl⟩
  refine Z (.bool b) J Ad<|Dk 6 ((fun(b1:Bool)=>.ok b1):Bool→R Bool) (fun(b1:Bool) (fr:Nat→AV) (h:Ae)=>fr=A2 [(23,(.bool b1))]∧h=hp h0 ids [(some (.rows g 3 [(Bf a)])),(some (.rows g1 3 [(Bf y)]))]) ?_ fun hJ1=>D7 (fun hb3=>?_) (fun hb3=>?_)
  ·rintro b1 fr h ⟨rfl,rfl⟩
   refine Z (.bool b1) J Al<|Aa<|Bs (a:=b1) (vs:=[(.bool b1)]) Tryz.func70 hI J (.same _)
  ·refine A4 (t:=17) hb3 J<|Ab 4 [0,1] [(21,(.sl 1 (List.map (rI .i64) y.Sectors))),(19,(.sl 1 (List.map (rI .i64) a.Sectors)))] ?_
   refine Bz [(.sl 1 (List.map (rI .i64) a.Sectors)),(.sl 1 (List.map (rI .i64) y.Sectors))] J (Co (tj:=17) J J) J J ((Q3 a.Sectors y.Sectors) _) (fun v _=>Cj Tryz.func70 hI) fun r1 _=>Z (.bool r1) J (Ep (t:=true) J J)<|Bj<|Ch [(23,(.bool r1))] (FI J)<|hJ1 r1 _ _ ⟨J,J⟩
  refine A4 (t:=17) hb3 J<|Ab 6 [] [(23,(.bool false))] ?_
  refine Bj<|Ch [(23,(.bool false))] (FI J)<|hJ1 false _ _ ⟨J,J⟩
 ·refine A4 (t:=10) hb1 J<|Ab 4 [0,1] [(14,(.sl 1 (List.map rS y.Names))),(12,(.sl 1 (List.map rS a.Names)))] ?_
  refine Bz [(.sl 1 (List.map rS a.Names)),(.sl 1 (List.map rS y.Names))] J (Co (tj:=10) J J) J J ((Pc a.Names y.Names) _) (fun v _=>Cj Tryz.func70 hI) fun r _=>Z (.bool r) J (Ep (t:=true) J J)<|Bj<|Ch [(2,(.q ids 0 g)),(3,(.q ids 1 g1)),(16,(.bool r))] (FI J)<|hJ r _ _ ⟨J,J⟩
 refine A4 (t:=10) hb1 J<|Ab 6 [] [(16,(.bool false))] ?_
 refine Bj<|Ch [(2,(.q ids 0 g)),(3,(.q ids 1 g1)),(16,(.bool false))] (FI J)<|hJ false _ _ ⟨J,J⟩
theorem Mn (s1:List Config)(s2:List Config):CP Tryz.prog 69 [(.sl 3 (List.map Bf s1)),(.sl 3 (List.map Bf s2)),(.func (.func 70) [] [])] (Eg s1 s2) (fun(x:Bool)=>(AV.bool x)):=by
 refine C3 (n:=32) 2 Tryz.func69 J (by decide) J J fun h0 ids hI=>Bm (Ak (Eg.eq_1 _ _) ?_)
 refine Y<|O<|Z (.bool false) J Al<|Aa<|Y<|Y<|O ?_
 refine Z (.sl 3 (List.map Bf s1)) J Ad<|Z (.I (s1.length:Int)) J (A0 (Bd K1))<|Z (.sl 3 (List.map Bf s2)) J Ad<|Z (.I (s2.length:Int)) J (A0 (Bd K1))<|Z (.bool ((s1.length:Int) != (s2.length:Int))) J (Ba J J J)<|Aa<|Cd J (fun hc=>?_) (fun hc=>?_)
 ·refine Y<|O<|Z (.bool false) J Al<|Aa<|Bs (a:=false) (vs:=[(.bool false)]) Tryz.func69 hI J (.same _)
 refine Az<|Y<|Y<|O<|Z (.sl 3 (List.map Bf s1)) J Ad<|Z (.I (s1.length:Int)) J (A0 (Bd K1))<|Z (.I 0) J Ad ?_
 refine Aa<|A8<|Ee [(1,(.sl 3 (List.map Bf s2))),(2,(.func (.func 70) [] [])),(15,(.sl 3 (List.map Bf s1))),(16,(.I (s1.length:Int))),(17,(.I 0))] (FI J)<|E2 (P:=Tryz.prog) s1 (fun j a=>fun _=>D8 s2 j a) ((Dz (fun _=>.ok true) (fun r=>.ok r)):(Unit ⊕ Bool)→R Bool) (fun j=>fun _=>fun(fr:Nat→AV) (h:Ae)=>fr=A2 [(1,(.sl 3 (List.map Bf s2))),(2,(.func (.func 70) [] [])),(15,(.sl 3 (List.map Bf s1))),(16,(.I (s1.length:Int))),(17,(.I (j:Int)))]∧h=hp h0 ids [none,none]) () ?_ ?_ ?_
 ·exact⟨J,J⟩
 ·rintro j a ha W hW _ fr h ⟨rfl,rfl⟩
  refine Ak (m':=D8 s2 j a) J (Ak (D8.eq_1 _ _ _) ?_)
  refine Y<|O<|Z (.bool (decide ((j:Int)<(s1.length:Int)))) J (Ba J J J)<|Aa<|Y<|Eb (t:=15) (L:=s1) J fun hlim=>C0 J (Int.ofNat_lt.2 (A5 ha)) ?_
  refine Az<|Y<|A8<|Y<|O<|Z (.I (j:Int)) J Ad<|Z (.cp (Bf a) 0) J (Bt (Dm K1 Iu J ha)) ?_
  refine Z (.agg (Bf a)) J (Au (Cp Iu J))<|Bc (j:=0) hI J J J J Iu J fun g=>Z (.I (j:Int)) J Al<|Aq (Ax (v:=(.agg (Bf a))) hI J J J J Iu J J J J J)<|Aa<|Aj ?_
  refine Y<|O<|Ab 2 [] [(23,(.I (j:Int))),(22,(.sl 3 (List.map Bf s2)))] ?_
  refine Ey fun a1 hz hx1=>Z (.cp (Bf a1) 0) J (Bt (Dy K1 Iu J hz hx1))<|Z (.agg (Bf a1)) J (Au (Cp Iu J))<|Bc (j:=1) hI J J J J Iu J fun g1=>Aq (Ax (v:=(.agg (Bf a1))) hI J J J J Iu J J J J J)<|Aa<|Aj ?_
  refine Y<|O<|Ab 3 [0,1] [(28,(.agg (Bf a1))),(27,(.agg (Bf a))),(26,(.func (.func 70) [] []))] ?_
  refine Bz [(.agg (Bf a)),(.agg (Bf a1))] J J J J ((Acv a a1) _) (fun v _=>Cj Tryz.func69 hI) fun r _=>Z (.bool (!r)) J (Q7 J)<|Aa<|Ei J (fun hc1=>?_) (fun hc1=>?_)
  ·refine Az<|Bn<|O<|Ab 2 [] [(17,(.I (IntKind.wrap .i64 ((j:Int)+1))))] ?_
   refine Aa<|Eh [none,none] hI J (.drop (.drop .nil))<|Bo (Fr (hW () _ _ ⟨J,J⟩)) (.cons J (.cons J (.cons J (.cons J (.cons (D1 (A5 ha) hlim) .nil)))))
  refine Y<|O<|Z (.bool false) J Al<|Aa<|Fp<|Gx<|Bs (a:=false) (vs:=[(.bool false)]) Tryz.func69 hI J (.same _)
 rintro _ fr h ⟨rfl,rfl⟩
 refine Ak (F0 _ _ _)<|Y<|O<|Z (.bool (decide ((s1.length:Int)<(s1.length:Int)))) J (Ba J J J)<|Aa<|Y<|C1 J (Int.lt_irrefl _) ?_
 refine C7 J<|Y<|O<|Z (.bool true) J Al<|Aa<|Bs (a:=true) (vs:=[(.bool true)]) Tryz.func69 hI J (.same _)
theorem Acx (a:Segment)(y:Segment):CP Tryz.prog 72 [(.agg (A9 a)),(.agg (A9 y))] (U0 a y) (fun(x:Bool)=>(AV.bool x)):=by
 refine C3 (n:=38) 2 Tryz.func72 J (by decide) J J fun h0 ids hI=>Bm (Ak (U0.eq_1 _ _) ?_)
 refine Y<|O<|Cv (v:=(.agg (A9 a))) (j:=0) hI J J J J J J J fun g=>Cv (v:=(.agg (A9 y))) (j:=1) hI J J J J J J J fun g1=>Z (.bool false) J Al<|Aa<|Aj ?_
 refine Y<|O<|Ab 6 [0,1] [(10,(.bool (a.Name==y.Name)))] ?_
 refine B8 6 [(2,(.q ids 0 g)),(3,(.q ids 1 g1)),(16,(.bool ((a.Name==y.Name)&&(a.In==y.In))))] ?_ fun hJ=>Bu (a.Name==y.Name) (fun hb1=>?_) (fun hb1=>?_)
 ·refine Z (.bool ((a.Name==y.Name)&&(a.In==y.In))) J Ad<|B8 6 [(2,(.q ids 0 g)),(3,(.q ids 1 g1)),(23,(.bool (((a.Name==y.Name)&&(a.In==y.In))&&(a.Volume==y.Volume))))] ?_ fun hJ1=>Bu ((a.Name==y.Name)&&(a.In==y.In)) (fun hb3=>?_) (fun hb3=>?_)
  ·refine Z (.bool (((a.Name==y.Name)&&(a.In==y.In))&&(a.Volume==y.Volume))) J Ad<|B8 6 [(2,(.q ids 0 g)),(3,(.q ids 1 g1)),(30,(.bool ((((a.Name==y.Name)&&(a.In==y.In))&&(a.Volume==y.Volume))&&(a.Length==y.Length))))] ?_ fun hJ2=>Bu (((a.Name==y.Name)&&(a.In==y.In))&&(a.Volume==y.Volume)) (fun hb5=>?_) (fun hb5=>?_)
   ·refine Z (.bool ((((a.Name==y.Name)&&(a.In==y.In))&&(a.Volume==y.Volume))&&(a.Length==y.Length))) J Ad<|Dk 6 ((fun(b:Bool)=>.ok b):Bool→R Bool) (fun(b:Bool) (fr:Nat→AV) (h:Ae)=>fr=A2 [(37,(.bool b))]∧h=hp h0 ids [(some (.rows g 5 [(A9 a)])),(some (.rows g1 5 [(A9 y)]))]) ?_ fun hJ3=>D7 (fun hb7=>?_) (fun hb7=>?_)
    ·rintro b fr h ⟨rfl,rfl⟩
     refine Z (.bool b) J Al<|Aa<|Bs (a:=b) (vs:=[(.bool b)]) Tryz.func72 hI J (.same _)
    ·refine A4 (t:=31) hb7 J<|Ab 4 [0,1] [(35,(.sl 2 (List.map Cc y.Open))),(33,(.sl 2 (List.map Cc a.Open)))] ?_
     refine Bz [(.sl 2 (List.map Cc a.Open)),(.sl 2 (List.map Cc y.Open))] J (Co (tj:=31) J J) J J ((Ts a.Open y.Open) _) (fun v _=>Cj Tryz.func72 hI) fun r _=>Z (.bool r) J (Ep (t:=true) J J)<|Bj<|Ch [(37,(.bool r))] (FI J)<|hJ3 r _ _ ⟨J,J⟩
    refine A4 (t:=31) hb7 J<|Ab 6 [] [(37,(.bool false))] ?_
    refine Bj<|Ch [(37,(.bool false))] (FI J)<|hJ3 false _ _ ⟨J,J⟩
   ·refine A4 (t:=24) hb5 J<|Ab 6 [0,1] [(30,(.bool (a.Length==y.Length)))] ?_
    exact Bk hJ2 (.cons J (.cons J (.cons (Lf hb5) .nil)))
   refine A4 (t:=24) hb5 J<|Ab 6 [] [(30,(.bool false))] ?_
   exact Bk hJ2 (.cons J (.cons J (.cons (Li hb5) .nil)))
  ·refine A4 (t:=17) hb3 J<|Ab 6 [0,1] [(23,(.bool (a.Volume==y.Volume)))] ?_
   exact Bk hJ1 (.cons J (.cons J (.cons (Lf hb3) .nil)))
  refine A4 (t:=17) hb3 J<|Ab 6 [] [(23,(.bool false))] ?_
  exact Bk hJ1 (.cons J (.cons J (.cons (Li hb3) .nil)))
 ·refine A4 (t:=10) hb1 J<|Ab 6 [0,1] [(16,(.bool (a.In==y.In)))] ?_
  exact Bk hJ (.cons J (.cons J (.cons (Lf hb1) .nil)))
 refine A4 (t:=10) hb1 J<|Ab 6 [] [(16,(.bool false))] ?_
 exact Bk hJ (.cons J (.cons J (.cons (Li hb1) .nil)))
theorem Lw (s1:List Segment)(s2:List Segment):CP Tryz.prog 71 [(.sl 5 (List.map A9 s1)),(.sl 5 (List.map A9 s2)),(.func (.func 72) [] [])] (Dg s1 s2) (fun(x:Bool)=>(AV.bool x)):=by
 refine C3 (n:=32) 2 Tryz.func71 J (by decide) J J fun h0 ids hI=>Bm (Ak (Dg.eq_1 _ _) ?_)
 refine Y<|O<|Z (.bool false) J Al<|Aa<|Y<|Y<|O ?_
 refine Z (.sl 5 (List.map A9 s1)) J Ad<|Z (.I (s1.length:Int)) J (A0 (Bd K3))<|Z (.sl 5 (List.map A9 s2)) J Ad<|Z (.I (s2.length:Int)) J (A0 (Bd K3))<|Z (.bool ((s1.length:Int) != (s2.length:Int))) J (Ba J J J)<|Aa<|Cd J (fun hc=>?_) (fun hc=>?_)
 ·refine Y<|O<|Z (.bool false) J Al<|Aa<|Bs (a:=false) (vs:=[(.bool false)]) Tryz.func71 hI J (.same _)
 refine Az<|Y<|Y<|O<|Z (.sl 5 (List.map A9 s1)) J Ad<|Z (.I (s1.length:Int)) J (A0 (Bd K3))<|Z (.I 0) J Ad ?_
 refine Aa<|A8<|Ee [(1,(.sl 5 (List.map A9 s2))),(2,(.func (.func 72) [] [])),(15,(.sl 5 (List.map A9 s1))),(16,(.I (s1.length:Int))),(17,(.I 0))] (FI J)<|E2 (P:=Tryz.prog) s1 (fun j a=>fun _=>Dw s2 j a) ((Dz (fun _=>.ok true) (fun r=>.ok r)):(Unit ⊕ Bool)→R Bool) (fun j=>fun _=>fun(fr:Nat→AV) (h:Ae)=>fr=A2 [(1,(.sl 5 (List.map A9 s2))),(2,(.func (.func 72) [] [])),(15,(.sl 5 (List.map A9 s1))),(16,(.I (s1.length:Int))),(17,(.I (j:Int)))]∧h=hp h0 ids [none,none]) () ?_ ?_ ?_
 ·exact⟨J,J⟩
 ·rintro j a ha W hW _ fr h ⟨rfl,rfl⟩
  refine Ak (m':=Dw s2 j a) J (Ak (Dw.eq_1 _ _ _) ?_)
  refine Y<|O<|Z (.bool (decide ((j:Int)<(s1.length:Int)))) J (Ba J J J)<|Aa<|Y<|Eb (t:=15) (L:=s1) J fun hlim=>C0 J (Int.ofNat_lt.2 (A5 ha)) ?_
  refine Az<|Y<|A8<|Y<|O<|Z (.I (j:Int)) J Ad<|Z (.cp (A9 a) 0) J (Bt (Dm K3 Hn J ha)) ?_
  refine Z (.agg (A9 a)) J (Au (Cp Hn J))<|Bc (j:=0) hI J J J J Hn J fun g=>Z (.I (j:Int)) J Al<|Aq (Ax (v:=(.agg (A9 a))) hI J J J J Hn J J J J J)<|Aa<|Aj ?_
  refine Y<|O<|Ab 2 [] [(23,(.I (j:Int))),(22,(.sl 5 (List.map A9 s2)))] ?_
  refine Ey fun a1 hz hx1=>Z (.cp (A9 a1) 0) J (Bt (Dy K3 Hn J hz hx1))<|Z (.agg (A9 a1)) J (Au (Cp Hn J))<|Bc (j:=1) hI J J J J Hn J fun g1=>Aq (Ax (v:=(.agg (A9 a1))) hI J J J J Hn J J J J J)<|Aa<|Aj ?_
  refine Y<|O<|Ab 3 [0,1] [(28,(.agg (A9 a1))),(27,(.agg (A9 a))),(26,(.func (.func 72) [] []))] ?_
  refine Bz [(.agg (A9 a)),(.agg (A9 a1))] J J J J ((Acx a a1) _) (fun v _=>Cj Tryz.func71 hI) fun r _=>Z (.bool (!r)) J (Q7 J)<|Aa<|Ei J (fun hc1=>?_) (fun hc1=>?_)
  ·refine Az<|Bn<|O<|Ab 2 [] [(17,(.I (IntKind.wrap .i64 ((j:Int)+1))))] ?_
   refine Aa<|Eh [none,none] hI J (.drop (.drop .nil))<|Bo (Fr (hW () _ _ ⟨J,J⟩)) (.cons J (.cons J (.cons J (.cons J (.cons (D1 (A5 ha) hlim) .nil)))))
  refine Y<|O<|Z (.bool false) J Al<|Aa<|Fp<|Gx<|Bs (a:=false) (vs:=[(.bool false)]) Tryz.func71 hI J (.same _)
 rintro _ fr h ⟨rfl,rfl⟩
 refine Ak (F0 _ _ _)<|Y<|O<|Z (.bool (decide ((s1.length:Int)<(s1.length:Int)))) J (Ba J J J)<|Aa<|Y<|C1 J (Int.lt_irrefl _) ?_
 refine C7 J<|Y<|O<|Z (.bool true) J Al<|Aa<|Bs (a:=true) (vs:=[(.bool true)]) Tryz.func71 hI J (.same _)
theorem Acu (a:Route)(y:Route):CP Tryz.prog 74 [(.agg (Bp a)),(.agg (Bp y))] (U4 a y) (fun(x:Bool)=>(AV.bool x)):=by
 refine C3 (n:=52) 2 Tryz.func74 J (by decide) J J fun h0 ids hI=>Bm (Ak (U4.eq_1 _ _) ?_)
 refine Y<|O<|Cv (v:=(.agg (Bp a))) (j:=0) hI J J J J J J J fun g=>Cv (v:=(.agg (Bp y))) (j:=1) hI J J J J J J J fun g1=>Z (.bool false) J Al<|Aa<|Aj ?_
 refine Y<|O<|Ab 6 [0,1] [(10,(.bool (a.Name==y.Name)))] ?_
 refine B8 6 [(2,(.q ids 0 g)),(3,(.q ids 1 g1)),(16,(.bool ((a.Name==y.Name)&&(a.A==y.A))))] ?_ fun hJ=>Bu (a.Name==y.Name) (fun hb1=>?_) (fun hb1=>?_)
 ·refine Z (.bool ((a.Name==y.Name)&&(a.A==y.A))) J Ad<|B8 6 [(2,(.q ids 0 g)),(3,(.q ids 1 g1)),(23,(.bool (((a.Name==y.Name)&&(a.A==y.A))&&(a.B==y.B))))] ?_ fun hJ1=>Bu ((a.Name==y.Name)&&(a.A==y.A)) (fun hb3=>?_) (fun hb3=>?_)
  ·refine Z (.bool (((a.Name==y.Name)&&(a.A==y.A))&&(a.B==y.B))) J Ad<|B8 6 [(2,(.q ids 0 g)),(3,(.q ids 1 g1)),(30,(.bool ((((a.Name==y.Name)&&(a.A==y.A))&&(a.B==y.B))&&(a.From==y.From))))] ?_ fun hJ2=>Bu (((a.Name==y.Name)&&(a.A==y.A))&&(a.B==y.B)) (fun hb5=>?_) (fun hb5=>?_)
   ·refine Z (.bool ((((a.Name==y.Name)&&(a.A==y.A))&&(a.B==y.B))&&(a.From==y.From))) J Ad<|B8 6 [(2,(.q ids 0 g)),(3,(.q ids 1 g1)),(37,(.bool (((((a.Name==y.Name)&&(a.A==y.A))&&(a.B==y.B))&&(a.From==y.From))&&(a.To==y.To))))] ?_ fun hJ3=>Bu ((((a.Name==y.Name)&&(a.A==y.A))&&(a.B==y.B))&&(a.From==y.From)) (fun hb7=>?_) (fun hb7=>?_)
    ·refine Z (.bool (((((a.Name==y.Name)&&(a.A==y.A))&&(a.B==y.B))&&(a.From==y.From))&&(a.To==y.To))) J Ad<|Dk 6 ((fun(b:Bool)=>(if b then(I3 a.Segments y.Segments).bind fun r1=>R.ok r1 else R.ok false).bind (fun(b1:Bool)=>.ok b1)):Bool→R Bool) (fun(b:Bool) (fr:Nat→AV) (h:Ae)=>fr=A2 [(2,(.q ids 0 g)),(3,(.q ids 1 g1)),(44,(.bool b))]∧h=hp h0 ids [(some (.rows g 7 [(Bp a)])),(some (.rows g1 7 [(Bp y)]))]) ?_ fun hJ4=>D7 (fun hb9=>?_) (fun hb9=>?_)
     ·rintro b fr h ⟨rfl,rfl⟩
      refine Z (.bool b) J Ad<|Dk 6 ((fun(b1:Bool)=>.ok b1):Bool→R Bool) (fun(b1:Bool) (fr:Nat→AV) (h:Ae)=>fr=A2 [(51,(.bool b1))]∧h=hp h0 ids [(some (.rows g 7 [(Bp a)])),(some (.rows g1 7 [(Bp y)]))]) ?_ fun hJ5=>D7 (fun hb11=>?_) (fun hb11=>?_)
      ·rintro b1 fr h ⟨rfl,rfl⟩
       refine Z (.bool b1) J Al<|Aa<|Bs (a:=b1) (vs:=[(.bool b1)]) Tryz.func74 hI J (.same _)
      ·refine A4 (t:=45) hb11 J<|Ab 4 [0,1] [(49,(.sl 1 (List.map (rI .i64) y.Segments))),(47,(.sl 1 (List.map (rI .i64) a.Segments)))] ?_
       refine Bz [(.sl 1 (List.map (rI .i64) a.Segments)),(.sl 1 (List.map (rI .i64) y.Segments))] J (Co (tj:=45) J J) J J ((Q3 a.Segments y.Segments) _) (fun v _=>Cj Tryz.func74 hI) fun r1 _=>Z (.bool r1) J (Ep (t:=true) J J)<|Bj<|Ch [(51,(.bool r1))] (FI J)<|hJ5 r1 _ _ ⟨J,J⟩
      refine A4 (t:=45) hb11 J<|Ab 6 [] [(51,(.bool false))] ?_
      refine Bj<|Ch [(51,(.bool false))] (FI J)<|hJ5 false _ _ ⟨J,J⟩
     ·refine A4 (t:=38) hb9 J<|Ab 4 [0,1] [(42,(.sl 1 (List.map rS y.Names))),(40,(.sl 1 (List.map rS a.Names)))] ?_
      refine Bz [(.sl 1 (List.map rS a.Names)),(.sl 1 (List.map rS y.Names))] J (Co (tj:=38) J J) J J ((Pc a.Names y.Names) _) (fun v _=>Cj Tryz.func74 hI) fun r _=>Z (.bool r) J (Ep (t:=true) J J)<|Bj<|Ch [(2,(.q ids 0 g)),(3,(.q ids 1 g1)),(44,(.bool r))] (FI J)<|hJ4 r _ _ ⟨J,J⟩
     refine A4 (t:=38) hb9 J<|Ab 6 [] [(44,(.bool false))] ?_
     refine Bj<|Ch [(2,(.q ids 0 g)),(3,(.q ids 1 g1)),(44,(.bool false))] (FI J)<|hJ4 false _ _ ⟨J,J⟩
    ·refine A4 (t:=31) hb7 J<|Ab 6 [0,1] [(37,(.bool (a.To==y.To)))] ?_
     exact Bk hJ3 (.cons J (.cons J (.cons (Lf hb7) .nil)))
    refine A4 (t:=31) hb7 J<|Ab 6 [] [(37,(.bool false))] ?_
    exact Bk hJ3 (.cons J (.cons J (.cons (Li hb7) .nil)))
   ·refine A4 (t:=24) hb5 J<|Ab 6 [0,1] [(30,(.bool (a.From==y.From)))] ?_
    exact Bk hJ2 (.cons J (.cons J (.cons (Lf hb5) .nil)))
   refine A4 (t:=24) hb5 J<|Ab 6 [] [(30,(.bool false))] ?_
   exact Bk hJ2 (.cons J (.cons J (.cons (Li hb5) .nil)))
  ·refine A4 (t:=17) hb3 J<|Ab 6 [0,1] [(23,(.bool (a.B==y.B)))] ?_
   exact Bk hJ1 (.cons J (.cons J (.cons (Lf hb3) .nil)))
  refine A4 (t:=17) hb3 J<|Ab 6 [] [(23,(.bool false))] ?_
  exact Bk hJ1 (.cons J (.cons J (.cons (Li hb3) .nil)))
 ·refine A4 (t:=10) hb1 J<|Ab 6 [0,1] [(16,(.bool (a.A==y.A)))] ?_
  exact Bk hJ (.cons J (.cons J (.cons (Lf hb1) .nil)))
 refine A4 (t:=10) hb1 J<|Ab 6 [] [(16,(.bool false))] ?_
 exact Bk hJ (.cons J (.cons J (.cons (Li hb1) .nil)))
theorem Nl (s1:List Route)(s2:List Route):CP Tryz.prog 73 [(.sl 7 (List.map Bp s1)),(.sl 7 (List.map Bp s2)),(.func (.func 74) [] [])] (C8 s1 s2) (fun(x:Bool)=>(AV.bool x)):=by
 refine C3 (n:=32) 2 Tryz.func73 J (by decide) J J fun h0 ids hI=>Bm (Ak (C8.eq_1 _ _) ?_)
 refine Y<|O<|Z (.bool false) J Al<|Aa<|Y<|Y<|O ?_
 refine Z (.sl 7 (List.map Bp s1)) J Ad<|Z (.I (s1.length:Int)) J (A0 (Bd K4))<|Z (.sl 7 (List.map Bp s2)) J Ad<|Z (.I (s2.length:Int)) J (A0 (Bd K4))<|Z (.bool ((s1.length:Int) != (s2.length:Int))) J (Ba J J J)<|Aa<|Cd J (fun hc=>?_) (fun hc=>?_)
 ·refine Y<|O<|Z (.bool false) J Al<|Aa<|Bs (a:=false) (vs:=[(.bool false)]) Tryz.func73 hI J (.same _)
 refine Az<|Y<|Y<|O<|Z (.sl 7 (List.map Bp s1)) J Ad<|Z (.I (s1.length:Int)) J (A0 (Bd K4))<|Z (.I 0) J Ad ?_
 refine Aa<|A8<|Ee [(1,(.sl 7 (List.map Bp s2))),(2,(.func (.func 74) [] [])),(15,(.sl 7 (List.map Bp s1))),(16,(.I (s1.length:Int))),(17,(.I 0))] (FI J)<|E2 (P:=Tryz.prog) s1 (fun j a=>fun _=>Ef s2 j a) ((Dz (fun _=>.ok true) (fun r=>.ok r)):(Unit ⊕ Bool)→R Bool) (fun j=>fun _=>fun(fr:Nat→AV) (h:Ae)=>fr=A2 [(1,(.sl 7 (List.map Bp s2))),(2,(.func (.func 74) [] [])),(15,(.sl 7 (List.map Bp s1))),(16,(.I (s1.length:Int))),(17,(.I (j:Int)))]∧h=hp h0 ids [none,none]) () ?_ ?_ ?_
 ·exact⟨J,J⟩
 ·rintro j a ha W hW _ fr h ⟨rfl,rfl⟩
  refine Ak (m':=Ef s2 j a) J (Ak (Ef.eq_1 _ _ _) ?_)
  refine Y<|O<|Z (.bool (decide ((j:Int)<(s1.length:Int)))) J (Ba J J J)<|Aa<|Y<|Eb (t:=15) (L:=s1) J fun hlim=>C0 J (Int.ofNat_lt.2 (A5 ha)) ?_
  refine Az<|Y<|A8<|Y<|O<|Z (.I (j:Int)) J Ad<|Z (.cp (Bp a) 0) J (Bt (Dm K4 Gz J ha)) ?_
  refine Z (.agg (Bp a)) J (Au (Cp Gz J))<|Bc (j:=0) hI J J J J Gz J fun g=>Z (.I (j:Int)) J Al<|Aq (Ax (v:=(.agg (Bp a))) hI J J J J Gz J J J J J)<|Aa<|Aj ?_
  refine Y<|O<|Ab 2 [] [(23,(.I (j:Int))),(22,(.sl 7 (List.map Bp s2)))] ?_
  refine Ey fun a1 hz hx1=>Z (.cp (Bp a1) 0) J (Bt (Dy K4 Gz J hz hx1))<|Z (.agg (Bp a1)) J (Au (Cp Gz J))<|Bc (j:=1) hI J J J J Gz J fun g1=>Aq (Ax (v:=(.agg (Bp a1))) hI J J J J Gz J J J J J)<|Aa<|Aj ?_
  refine Y<|O<|Ab 3 [0,1] [(28,(.agg (Bp a1))),(27,(.agg (Bp a))),(26,(.func (.func 74) [] []))] ?_
  refine Bz [(.agg (Bp a)),(.agg (Bp a1))] J J J J ((Acu a a1) _) (fun v _=>Cj Tryz.func73 hI) fun r _=>Z (.bool (!r)) J (Q7 J)<|Aa<|Ei J (fun hc1=>?_) (fun hc1=>?_)
  ·refine Az<|Bn<|O<|Ab 2 [] [(17,(.I (IntKind.wrap .i64 ((j:Int)+1))))] ?_
   refine Aa<|Eh [none,none] hI J (.drop (.drop .nil))<|Bo (Fr (hW () _ _ ⟨J,J⟩)) (.cons J (.cons J (.cons J (.cons J (.cons (D1 (A5 ha) hlim) .nil)))))
  refine Y<|O<|Z (.bool false) J Al<|Aa<|Fp<|Gx<|Bs (a:=false) (vs:=[(.bool false)]) Tryz.func73 hI J (.same _)
 rintro _ fr h ⟨rfl,rfl⟩
 refine Ak (F0 _ _ _)<|Y<|O<|Z (.bool (decide ((s1.length:Int)<(s1.length:Int)))) J (Ba J J J)<|Aa<|Y<|C1 J (Int.lt_irrefl _) ?_
 refine C7 J<|Y<|O<|Z (.bool true) J Al<|Aa<|Bs (a:=true) (vs:=[(.bool true)]) Tryz.func73 hI J (.same _)
theorem Aat (s1:List Mode)(s2:List Mode):CP Tryz.prog 77 [(.sl 2 (List.map Dv s1)),(.sl 2 (List.map Dv s2))] (Sj s1 s2) (fun(x:Bool)=>(AV.bool x)):=by
 refine C3 (n:=26) 0 Tryz.func77 J (by decide) J J fun h0 ids hI=>Bm (Ak (Sj.eq_1 _ _) ?_)
 refine Y<|O<|Z (.bool false) J Al<|Aa<|Y<|Y<|O ?_
 refine Z (.sl 2 (List.map Dv s1)) J Ad<|Z (.I (s1.length:Int)) J (A0 (Bd Oc))<|Z (.sl 2 (List.map Dv s2)) J Ad<|Z (.I (s2.length:Int)) J (A0 (Bd Oc))<|Z (.bool ((s1.length:Int) != (s2.length:Int))) J (Ba J J J)<|Aa<|Cd J (fun hc=>?_) (fun hc=>?_)
 ·refine Y<|O<|Z (.bool false) J Al<|Aa<|Bs (a:=false) (vs:=[(.bool false)]) Tryz.func77 hI J (.same _)
 refine Az<|Y<|Y<|O<|Z (.sl 2 (List.map Dv s1)) J Ad<|Z (.I (s1.length:Int)) J (A0 (Bd Oc))<|Z (.I 0) J Ad ?_
 refine Aa<|A8<|Ee [(0,(.sl 2 (List.map Dv s1))),(1,(.sl 2 (List.map Dv s2))),(12,(.I (s1.length:Int))),(13,(.I 0))] (FI J)<|E2 (P:=Tryz.prog) s1 (fun j a=>fun _=>N3 s2 j a) ((Dz (fun _=>.ok true) (fun r=>.ok r)):(Unit ⊕ Bool)→R Bool) (fun j=>fun _=>fun(fr:Nat→AV) (h:Ae)=>fr=A2 [(0,(.sl 2 (List.map Dv s1))),(1,(.sl 2 (List.map Dv s2))),(12,(.I (s1.length:Int))),(13,(.I (j:Int)))]∧h=hp h0 ids []) () ?_ ?_ ?_
 ·exact⟨J,J⟩
 ·rintro j a ha W hW _ fr h ⟨rfl,rfl⟩
  refine Ak (m':=N3 s2 j a) J (Ak (N3.eq_1 _ _ _) ?_)
  refine Y<|O<|Z (.bool (decide ((j:Int)<(s1.length:Int)))) J (Ba J J J)<|Aa<|Y<|Eb (t:=0) (L:=s1) J fun hlim=>C0 J (Int.ofNat_lt.2 (A5 ha)) ?_
  refine Az<|Y<|A8<|Y<|O<|Ab 2 [] [(5,(.I (j:Int)))] ?_
  refine Aa<|Y<|Di Gg [[],[],[0,1],[0,1,2],[],[],[4,5],[4,5,6],[0,1,2,3,4,5,6,7]] [(false,0),(false,1),(false,2),(false,3),(false,4),(false,5),(false,6),(false,7),(false,8)] (by kernel_rfl)<|Ag (.sl 2 (List.map Dv s1)) J J Ad<|Ag (.I (j:Int)) J J Ad<|Ag (.cp (Dv a) 0) J J (Bt (Dm Oc Pu J ha))<|Ag (.agg (Dv a)) J J (Au (Cp Pu J)) ?_
  refine Ag (.sl 2 (List.map Dv s2)) J J Ad<|Ag (.I (j:Int)) J J Ad<|Px fun a1 hz hx1=>Ag (.cp (Dv a1) 0) J J (Bt (Dy Oc Pu J hz hx1))<|Ag (.agg (Dv a1)) J J (Au (Cp Pu J))<|Ag (.bool (!((a.Name==a1.Name)&&(a.Places==a1.Places)))) J J (Ba (Anm J J) J Anl)<|Ct ?_
  refine Ei J (fun hc1=>?_) (fun hc1=>?_)
  ·refine Az<|Bn<|O<|Ab 2 [] [(13,(.I (IntKind.wrap .i64 ((j:Int)+1))))] ?_
   refine Aa<|Bo (Fr (hW () _ _ ⟨J,J⟩)) (.cons J (.cons J (.cons J (.cons (D1 (A5 ha) hlim) .nil))))
  refine Y<|O<|Z (.bool false) J Al<|Aa<|Fp<|Gx<|Bs (a:=false) (vs:=[(.bool false)]) Tryz.func77 hI J (.same _)
 rintro _ fr h ⟨rfl,rfl⟩
 refine Ak (F0 _ _ _)<|Y<|O<|Z (.bool (decide ((s1.length:Int)<(s1.length:Int)))) J (Ba J J J)<|Aa<|Y<|C1 J (Int.lt_irrefl _) ?_
 refine C7 J<|Y<|O<|Z (.bool true) J Al<|Aa<|Bs (a:=true) (vs:=[(.bool true)]) Tryz.func77 hI J (.same _)
theorem Acw (a:Airport)(y:Airport):CP Tryz.prog 76 [(.agg (A6 a)),(.agg (A6 y))] (Um a y) (fun(x:Bool)=>(AV.bool x)):=by
 refine C3 (n:=17) 2 Tryz.func76 J (by decide) J J fun h0 ids hI=>Bm (Ak (Um.eq_1 _ _) ?_)
 refine Y<|O<|Cv (v:=(.agg (A6 a))) (j:=0) hI J J J J J J J fun g=>Cv (v:=(.agg (A6 y))) (j:=1) hI J J J J J J J fun g1=>Z (.bool false) J Al<|Aa<|Aj ?_
 refine Y<|O<|Ab 6 [0,1] [(10,(.bool (a.Name==y.Name)))] ?_
 refine Dk 6 ((fun(b:Bool)=>.ok b):Bool→R Bool) (fun(b:Bool) (fr:Nat→AV) (h:Ae)=>fr=A2 [(16,(.bool b))]∧h=hp h0 ids [(some (.rows g 2 [(A6 a)])),(some (.rows g1 2 [(A6 y)]))]) ?_ fun hJ=>D7 (fun hb1=>?_) (fun hb1=>?_)
 ·rintro b fr h ⟨rfl,rfl⟩
  refine Z (.bool b) J Al<|Aa<|Bs (a:=b) (vs:=[(.bool b)]) Tryz.func76 hI J (.same _)
 ·refine A4 (t:=10) hb1 J<|Ab 4 [0,1] [(14,(.sl 2 (List.map Dv y.Modes))),(12,(.sl 2 (List.map Dv a.Modes)))] ?_
  refine Bz [(.sl 2 (List.map Dv a.Modes)),(.sl 2 (List.map Dv y.Modes))] J (Co (tj:=10) J J) J J ((Aat a.Modes y.Modes) _) (fun v _=>Cj Tryz.func76 hI) fun r _=>Z (.bool r) J (Ep (t:=true) J J)<|Bj<|Ch [(16,(.bool r))] (FI J)<|hJ r _ _ ⟨J,J⟩
 refine A4 (t:=10) hb1 J<|Ab 6 [] [(16,(.bool false))] ?_
 refine Bj<|Ch [(16,(.bool false))] (FI J)<|hJ false _ _ ⟨J,J⟩
theorem Lz (s1:List Airport)(s2:List Airport):CP Tryz.prog 75 [(.sl 2 (List.map A6 s1)),(.sl 2 (List.map A6 s2)),(.func (.func 76) [] [])] (Cl s1 s2) (fun(x:Bool)=>(AV.bool x)):=by
 refine C3 (n:=32) 2 Tryz.func75 J (by decide) J J fun h0 ids hI=>Bm (Ak (Cl.eq_1 _ _) ?_)
 refine Y<|O<|Z (.bool false) J Al<|Aa<|Y<|Y<|O ?_
 refine Z (.sl 2 (List.map A6 s1)) J Ad<|Z (.I (s1.length:Int)) J (A0 (Bd Oe))<|Z (.sl 2 (List.map A6 s2)) J Ad<|Z (.I (s2.length:Int)) J (A0 (Bd Oe))<|Z (.bool ((s1.length:Int) != (s2.length:Int))) J (Ba J J J)<|Aa<|Cd J (fun hc=>?_) (fun hc=>?_)
 ·refine Y<|O<|Z (.bool false) J Al<|Aa<|Bs (a:=false) (vs:=[(.bool false)]) Tryz.func75 hI J (.same _)
 refine Az<|Y<|Y<|O<|Z (.sl 2 (List.map A6 s1)) J Ad<|Z (.I (s1.length:Int)) J (A0 (Bd Oe))<|Z (.I 0) J Ad ?_
 refine Aa<|A8<|Ee [(1,(.sl 2 (List.map A6 s2))),(2,(.func (.func 76) [] [])),(15,(.sl 2 (List.map A6 s1))),(16,(.I (s1.length:Int))),(17,(.I 0))] (FI J)<|E2 (P:=Tryz.prog) s1 (fun j a=>fun _=>Dx s2 j a) ((Dz (fun _=>.ok true) (fun r=>.ok r)):(Unit ⊕ Bool)→R Bool) (fun j=>fun _=>fun(fr:Nat→AV) (h:Ae)=>fr=A2 [(1,(.sl 2 (List.map A6 s2))),(2,(.func (.func 76) [] [])),(15,(.sl 2 (List.map A6 s1))),(16,(.I (s1.length:Int))),(17,(.I (j:Int)))]∧h=hp h0 ids [none,none]) () ?_ ?_ ?_
 ·exact⟨J,J⟩
 ·rintro j a ha W hW _ fr h ⟨rfl,rfl⟩
  refine Ak (m':=Dx s2 j a) J (Ak (Dx.eq_1 _ _ _) ?_)
  refine Y<|O<|Z (.bool (decide ((j:Int)<(s1.length:Int)))) J (Ba J J J)<|Aa<|Y<|Eb (t:=15) (L:=s1) J fun hlim=>C0 J (Int.ofNat_lt.2 (A5 ha)) ?_
  refine Az<|Y<|A8<|Y<|O<|Z (.I (j:Int)) J Ad<|Z (.cp (A6 a) 0) J (Bt (Dm Oe J3 J ha)) ?_
  refine Z (.agg (A6 a)) J (Au (Cp J3 J))<|Bc (j:=0) hI J J J J J3 J fun g=>Z (.I (j:Int)) J Al<|Aq (Ax (v:=(.agg (A6 a))) hI J J J J J3 J J J J J)<|Aa<|Aj ?_
  refine Y<|O<|Ab 2 [] [(23,(.I (j:Int))),(22,(.sl 2 (List.map A6 s2)))] ?_
  refine Ey fun a1 hz hx1=>Z (.cp (A6 a1) 0) J (Bt (Dy Oe J3 J hz hx1))<|Z (.agg (A6 a1)) J (Au (Cp J3 J))<|Bc (j:=1) hI J J J J J3 J fun g1=>Aq (Ax (v:=(.agg (A6 a1))) hI J J J J J3 J J J J J)<|Aa<|Aj ?_
  refine Y<|O<|Ab 3 [0,1] [(28,(.agg (A6 a1))),(27,(.agg (A6 a))),(26,(.func (.func 76) [] []))] ?_
  refine Bz [(.agg (A6 a)),(.agg (A6 a1))] J J J J ((Acw a a1) _) (fun v _=>Cj Tryz.func75 hI) fun r _=>Z (.bool (!r)) J (Q7 J)<|Aa<|Ei J (fun hc1=>?_) (fun hc1=>?_)
  ·refine Az<|Bn<|O<|Ab 2 [] [(17,(.I (IntKind.wrap .i64 ((j:Int)+1))))] ?_
   refine Aa<|Eh [none,none] hI J (.drop (.drop .nil))<|Bo (Fr (hW () _ _ ⟨J,J⟩)) (.cons J (.cons J (.cons J (.cons J (.cons (D1 (A5 ha) hlim) .nil)))))
  refine Y<|O<|Z (.bool false) J Al<|Aa<|Fp<|Gx<|Bs (a:=false) (vs:=[(.bool false)]) Tryz.func75 hI J (.same _)
 rintro _ fr h ⟨rfl,rfl⟩
 refine Ak (F0 _ _ _)<|Y<|O<|Z (.bool (decide ((s1.length:Int)<(s1.length:Int)))) J (Ba J J J)<|Aa<|Y<|C1 J (Int.lt_irrefl _) ?_
 refine C7 J<|Y<|O<|Z (.bool true) J Al<|Aa<|Bs (a:=true) (vs:=[(.bool true)]) Tryz.func75 hI J (.same _)
theorem Zn (s1:List Class)(s2:List Class):CP Tryz.prog 78 [(.sl 4 (List.map Bx s1)),(.sl 4 (List.map Bx s2))] (Ho s1 s2) (fun(x:Bool)=>(AV.bool x)):=by
 refine C3 (n:=26) 0 Tryz.func78 J (by decide) J J fun h0 ids hI=>Bm (Ak (Ho.eq_1 _ _) ?_)
 refine Y<|O<|Z (.bool false) J Al<|Aa<|Y<|Y<|O ?_
 refine Z (.sl 4 (List.map Bx s1)) J Ad<|Z (.I (s1.length:Int)) J (A0 (Bd My))<|Z (.sl 4 (List.map Bx s2)) J Ad<|Z (.I (s2.length:Int)) J (A0 (Bd My))<|Z (.bool ((s1.length:Int) != (s2.length:Int))) J (Ba J J J)<|Aa<|Cd J (fun hc=>?_) (fun hc=>?_)
 ·refine Y<|O<|Z (.bool false) J Al<|Aa<|Bs (a:=false) (vs:=[(.bool false)]) Tryz.func78 hI J (.same _)
 refine Az<|Y<|Y<|O<|Z (.sl 4 (List.map Bx s1)) J Ad<|Z (.I (s1.length:Int)) J (A0 (Bd My))<|Z (.I 0) J Ad ?_
 refine Aa<|A8<|Ee [(0,(.sl 4 (List.map Bx s1))),(1,(.sl 4 (List.map Bx s2))),(12,(.I (s1.length:Int))),(13,(.I 0))] (FI J)<|E2 (P:=Tryz.prog) s1 (fun j a=>fun _=>Nh s2 j a) ((Dz (fun _=>.ok true) (fun r=>.ok r)):(Unit ⊕ Bool)→R Bool) (fun j=>fun _=>fun(fr:Nat→AV) (h:Ae)=>fr=A2 [(0,(.sl 4 (List.map Bx s1))),(1,(.sl 4 (List.map Bx s2))),(12,(.I (s1.length:Int))),(13,(.I (j:Int)))]∧h=hp h0 ids []) () ?_ ?_ ?_
 ·exact⟨J,J⟩
 ·rintro j a ha W hW _ fr h ⟨rfl,rfl⟩
  refine Ak (m':=Nh s2 j a) J (Ak (Nh.eq_1 _ _ _) ?_)
  refine Y<|O<|Z (.bool (decide ((j:Int)<(s1.length:Int)))) J (Ba J J J)<|Aa<|Y<|Eb (t:=0) (L:=s1) J fun hlim=>C0 J (Int.ofNat_lt.2 (A5 ha)) ?_
  refine Az<|Y<|A8<|Y<|O<|Ab 2 [] [(5,(.I (j:Int)))] ?_
  refine Aa<|Y<|Di Gg [[],[],[0,1],[0,1,2],[],[],[4,5],[4,5,6],[0,1,2,3,4,5,6,7]] [(false,0),(false,1),(false,2),(false,3),(false,4),(false,5),(false,6),(false,7),(false,8)] (by kernel_rfl)<|Ag (.sl 4 (List.map Bx s1)) J J Ad<|Ag (.I (j:Int)) J J Ad<|Ag (.cp (Bx a) 0) J J (Bt (Dm My Na J ha))<|Ag (.agg (Bx a)) J J (Au (Cp Na J)) ?_
  refine Ag (.sl 4 (List.map Bx s2)) J J Ad<|Ag (.I (j:Int)) J J Ad<|Px fun a1 hz hx1=>Ag (.cp (Bx a1) 0) J J (Bt (Dy My Na J hz hx1))<|Ag (.agg (Bx a1)) J J (Au (Cp Na J))<|Ag (.bool (!((a.Name==a1.Name)&&((a.Slow==a1.Slow)&&((a.Fast==a1.Fast)&&(a.Places==a1.Places)))))) J J (Ba (Amd J J) J Anj)<|Ct ?_
  refine Ei J (fun hc1=>?_) (fun hc1=>?_)
  ·refine Az<|Bn<|O<|Ab 2 [] [(13,(.I (IntKind.wrap .i64 ((j:Int)+1))))] ?_
   refine Aa<|Bo (Fr (hW () _ _ ⟨J,J⟩)) (.cons J (.cons J (.cons J (.cons (D1 (A5 ha) hlim) .nil))))
  refine Y<|O<|Z (.bool false) J Al<|Aa<|Fp<|Gx<|Bs (a:=false) (vs:=[(.bool false)]) Tryz.func78 hI J (.same _)
 rintro _ fr h ⟨rfl,rfl⟩
 refine Ak (F0 _ _ _)<|Y<|O<|Z (.bool (decide ((s1.length:Int)<(s1.length:Int)))) J (Ba J J J)<|Aa<|Y<|C1 J (Int.lt_irrefl _) ?_
 refine C7 J<|Y<|O<|Z (.bool true) J Al<|Aa<|Bs (a:=true) (vs:=[(.bool true)]) Tryz.func78 hI J (.same _)
theorem Aag (s1:List Rule)(s2:List Rule):CP Tryz.prog 79 [(.sl 8 (List.map A7 s1)),(.sl 8 (List.map A7 s2))] (G6 s1 s2) (fun(x:Bool)=>(AV.bool x)):=by
 refine C3 (n:=26) 0 Tryz.func79 J (by decide) J J fun h0 ids hI=>Bm (Ak (G6.eq_1 _ _) ?_)
 refine Y<|O<|Z (.bool false) J Al<|Aa<|Y<|Y<|O ?_
 refine Z (.sl 8 (List.map A7 s1)) J Ad<|Z (.I (s1.length:Int)) J (A0 (Bd E1))<|Z (.sl 8 (List.map A7 s2)) J Ad<|Z (.I (s2.length:Int)) J (A0 (Bd E1))<|Z (.bool ((s1.length:Int) != (s2.length:Int))) J (Ba J J J)<|Aa<|Cd J (fun hc=>?_) (fun hc=>?_)
 ·refine Y<|O<|Z (.bool false) J Al<|Aa<|Bs (a:=false) (vs:=[(.bool false)]) Tryz.func79 hI J (.same _)
 refine Az<|Y<|Y<|O<|Z (.sl 8 (List.map A7 s1)) J Ad<|Z (.I (s1.length:Int)) J (A0 (Bd E1))<|Z (.I 0) J Ad ?_
 refine Aa<|A8<|Ee [(0,(.sl 8 (List.map A7 s1))),(1,(.sl 8 (List.map A7 s2))),(12,(.I (s1.length:Int))),(13,(.I 0))] (FI J)<|E2 (P:=Tryz.prog) s1 (fun j a=>fun _=>N5 s2 j a) ((Dz (fun _=>.ok true) (fun r=>.ok r)):(Unit ⊕ Bool)→R Bool) (fun j=>fun _=>fun(fr:Nat→AV) (h:Ae)=>fr=A2 [(0,(.sl 8 (List.map A7 s1))),(1,(.sl 8 (List.map A7 s2))),(12,(.I (s1.length:Int))),(13,(.I (j:Int)))]∧h=hp h0 ids []) () ?_ ?_ ?_
 ·exact⟨J,J⟩
 ·rintro j a ha W hW _ fr h ⟨rfl,rfl⟩
  refine Ak (m':=N5 s2 j a) J (Ak (N5.eq_1 _ _ _) ?_)
  refine Y<|O<|Z (.bool (decide ((j:Int)<(s1.length:Int)))) J (Ba J J J)<|Aa<|Y<|Eb (t:=0) (L:=s1) J fun hlim=>C0 J (Int.ofNat_lt.2 (A5 ha)) ?_
  refine Az<|Y<|A8<|Y<|O<|Ab 2 [] [(5,(.I (j:Int)))] ?_
  refine Aa<|Y<|Di Gg [[],[],[0,1],[0,1,2],[],[],[4,5],[4,5,6],[0,1,2,3,4,5,6,7]] [(false,0),(false,1),(false,2),(false,3),(false,4),(false,5),(false,6),(false,7),(false,8)] (by kernel_rfl)<|Ag (.sl 8 (List.map A7 s1)) J J Ad<|Ag (.I (j:Int)) J J Ad<|Ag (.cp (A7 a) 0) J J (Bt (Dm E1 Do J ha))<|Ag (.agg (A7 a)) J J (Au (Cp Do J)) ?_
  refine Ag (.sl 8 (List.map A7 s2)) J J Ad<|Ag (.I (j:Int)) J J Ad<|Px fun a1 hz hx1=>Ag (.cp (A7 a1) 0) J J (Bt (Dy E1 Do J hz hx1))<|Ag (.agg (A7 a1)) J J (Au (Cp Do J))<|Ag (.bool (!((a.Kind==a1.Kind)&&((a.C==a1.C)&&((a.A==a1.A)&&((a.Class==a1.Class)&&((a.Airport==a1.Airport)&&((a.N==a1.N)&&((a.Hours.From==a1.Hours.From)&&(a.Hours.To==a1.Hours.To)))))))))) J J (Ba (Ahk J J) J Aht)<|Ct ?_
  refine Ei J (fun hc1=>?_) (fun hc1=>?_)
  ·refine Az<|Bn<|O<|Ab 2 [] [(13,(.I (IntKind.wrap .i64 ((j:Int)+1))))] ?_
   refine Aa<|Bo (Fr (hW () _ _ ⟨J,J⟩)) (.cons J (.cons J (.cons J (.cons (D1 (A5 ha) hlim) .nil))))
  refine Y<|O<|Z (.bool false) J Al<|Aa<|Fp<|Gx<|Bs (a:=false) (vs:=[(.bool false)]) Tryz.func79 hI J (.same _)
 rintro _ fr h ⟨rfl,rfl⟩
 refine Ak (F0 _ _ _)<|Y<|O<|Z (.bool (decide ((s1.length:Int)<(s1.length:Int)))) J (Ba J J J)<|Aa<|Y<|C1 J (Int.lt_irrefl _) ?_
 refine C7 J<|Y<|O<|Z (.bool true) J Al<|Aa<|Bs (a:=true) (vs:=[(.bool true)]) Tryz.func79 hI J (.same _)
theorem Zu (a:Airspace)(b:Airspace):CP Tryz.prog 19 [(.agg (Av a)),(.agg (Av b))] (Pe a b) (fun(x:Bool)=>(AV.bool x)):=by
 refine C3 (n:=59) 2 Tryz.func19 J (by decide) J J fun h0 ids hI=>Bm (Ak (Pe.eq_1 _ _) ?_)
 refine Y<|O<|Cv (v:=(.agg (Av a))) (j:=0) hI J J J J J J J fun g=>Cv (v:=(.agg (Av b))) (j:=1) hI J J J J J J J fun g1=>Z (.bool false) J Al<|Aa<|Aj ?_
 refine Y<|O<|Ab 4 [0,1] [(8,(.sl 2 (List.map As b.Volumes))),(6,(.sl 2 (List.map As a.Volumes)))] ?_
 refine Bz [(.sl 2 (List.map As a.Volumes)),(.sl 2 (List.map As b.Volumes)),(.func (.func 63) [] [])] J J J J ((Mm a.Volumes b.Volumes) _) (fun v _=>Cj Tryz.func19 hI) fun r _=>Z (.bool r) J Ad<|Dk 6 ((fun(b1:Bool)=>(if b1 then(Eg a.Configs b.Configs).bind fun r2=>R.ok r2 else R.ok false).bind (fun(b2:Bool)=>(if b2 then(Dg a.Segments b.Segments).bind fun r3=>R.ok r3 else R.ok false).bind (fun(b3:Bool)=>(if b3 then(C8 a.Routes b.Routes).bind fun r4=>R.ok r4 else R.ok false).bind (fun(b4:Bool)=>(if b4 then(Cl a.Airports b.Airports).bind fun r5=>R.ok r5 else R.ok false).bind (fun(b5:Bool)=>(if b5 then(Ho a.Classes b.Classes).bind fun r6=>R.ok r6 else R.ok false).bind (fun(b6:Bool)=>(if b6 then(G6 a.Rules b.Rules).bind fun r7=>R.ok r7 else R.ok false).bind (fun(b7:Bool)=>.ok b7))))))):Bool→R Bool) (fun(b1:Bool) (fr:Nat→AV) (h:Ae)=>fr=A2 [(2,(.q ids 0 g)),(3,(.q ids 1 g1)),(16,(.bool b1))]∧h=hp h0 ids [(some (.rows g 8 [(Av a)])),(some (.rows g1 8 [(Av b)]))]) ?_ fun hJ=>D7 (fun hb1=>?_) (fun hb1=>?_)
 ·rintro b1 fr h ⟨rfl,rfl⟩
  refine Z (.bool b1) J Ad<|Dk 6 ((fun(b2:Bool)=>(if b2 then(Dg a.Segments b.Segments).bind fun r3=>R.ok r3 else R.ok false).bind (fun(b3:Bool)=>(if b3 then(C8 a.Routes b.Routes).bind fun r4=>R.ok r4 else R.ok false).bind (fun(b4:Bool)=>(if b4 then(Cl a.Airports b.Airports).bind fun r5=>R.ok r5 else R.ok false).bind (fun(b5:Bool)=>(if b5 then(Ho a.Classes b.Classes).bind fun r6=>R.ok r6 else R.ok false).bind (fun(b6:Bool)=>(if b6 then(G6 a.Rules b.Rules).bind fun r7=>R.ok r7 else R.ok false).bind (fun(b7:Bool)=>.ok b7)))))):Bool→R Bool) (fun(b2:Bool) (fr:Nat→AV) (h:Ae)=>fr=A2 [(2,(.q ids 0 g)),(3,(.q ids 1 g1)),(23,(.bool b2))]∧h=hp h0 ids [(some (.rows g 8 [(Av a)])),(some (.rows g1 8 [(Av b)]))]) ?_ fun hJ1=>D7 (fun hb3=>?_) (fun hb3=>?_)
  ·rintro b2 fr h ⟨rfl,rfl⟩
   refine Z (.bool b2) J Ad<|Dk 6 ((fun(b3:Bool)=>(if b3 then(C8 a.Routes b.Routes).bind fun r4=>R.ok r4 else R.ok false).bind (fun(b4:Bool)=>(if b4 then(Cl a.Airports b.Airports).bind fun r5=>R.ok r5 else R.ok false).bind (fun(b5:Bool)=>(if b5 then(Ho a.Classes b.Classes).bind fun r6=>R.ok r6 else R.ok false).bind (fun(b6:Bool)=>(if b6 then(G6 a.Rules b.Rules).bind fun r7=>R.ok r7 else R.ok false).bind (fun(b7:Bool)=>.ok b7))))):Bool→R Bool) (fun(b3:Bool) (fr:Nat→AV) (h:Ae)=>fr=A2 [(2,(.q ids 0 g)),(3,(.q ids 1 g1)),(30,(.bool b3))]∧h=hp h0 ids [(some (.rows g 8 [(Av a)])),(some (.rows g1 8 [(Av b)]))]) ?_ fun hJ2=>D7 (fun hb5=>?_) (fun hb5=>?_)
   ·rintro b3 fr h ⟨rfl,rfl⟩
    refine Z (.bool b3) J Ad<|Dk 6 ((fun(b4:Bool)=>(if b4 then(Cl a.Airports b.Airports).bind fun r5=>R.ok r5 else R.ok false).bind (fun(b5:Bool)=>(if b5 then(Ho a.Classes b.Classes).bind fun r6=>R.ok r6 else R.ok false).bind (fun(b6:Bool)=>(if b6 then(G6 a.Rules b.Rules).bind fun r7=>R.ok r7 else R.ok false).bind (fun(b7:Bool)=>.ok b7)))):Bool→R Bool) (fun(b4:Bool) (fr:Nat→AV) (h:Ae)=>fr=A2 [(2,(.q ids 0 g)),(3,(.q ids 1 g1)),(37,(.bool b4))]∧h=hp h0 ids [(some (.rows g 8 [(Av a)])),(some (.rows g1 8 [(Av b)]))]) ?_ fun hJ3=>D7 (fun hb7=>?_) (fun hb7=>?_)
    ·rintro b4 fr h ⟨rfl,rfl⟩
     refine Z (.bool b4) J Ad<|Dk 6 ((fun(b5:Bool)=>(if b5 then(Ho a.Classes b.Classes).bind fun r6=>R.ok r6 else R.ok false).bind (fun(b6:Bool)=>(if b6 then(G6 a.Rules b.Rules).bind fun r7=>R.ok r7 else R.ok false).bind (fun(b7:Bool)=>.ok b7))):Bool→R Bool) (fun(b5:Bool) (fr:Nat→AV) (h:Ae)=>fr=A2 [(2,(.q ids 0 g)),(3,(.q ids 1 g1)),(44,(.bool b5))]∧h=hp h0 ids [(some (.rows g 8 [(Av a)])),(some (.rows g1 8 [(Av b)]))]) ?_ fun hJ4=>D7 (fun hb9=>?_) (fun hb9=>?_)
     ·rintro b5 fr h ⟨rfl,rfl⟩
      refine Z (.bool b5) J Ad<|Dk 6 ((fun(b6:Bool)=>(if b6 then(G6 a.Rules b.Rules).bind fun r7=>R.ok r7 else R.ok false).bind (fun(b7:Bool)=>.ok b7)):Bool→R Bool) (fun(b6:Bool) (fr:Nat→AV) (h:Ae)=>fr=A2 [(2,(.q ids 0 g)),(3,(.q ids 1 g1)),(51,(.bool b6))]∧h=hp h0 ids [(some (.rows g 8 [(Av a)])),(some (.rows g1 8 [(Av b)]))]) ?_ fun hJ5=>D7 (fun hb11=>?_) (fun hb11=>?_)
      ·rintro b6 fr h ⟨rfl,rfl⟩
       refine Z (.bool b6) J Ad<|Dk 6 ((fun(b7:Bool)=>.ok b7):Bool→R Bool) (fun(b7:Bool) (fr:Nat→AV) (h:Ae)=>fr=A2 [(58,(.bool b7))]∧h=hp h0 ids [(some (.rows g 8 [(Av a)])),(some (.rows g1 8 [(Av b)]))]) ?_ fun hJ6=>D7 (fun hb13=>?_) (fun hb13=>?_)
       ·rintro b7 fr h ⟨rfl,rfl⟩
        refine Z (.bool b7) J Al<|Aa<|Bs (a:=b7) (vs:=[(.bool b7)]) Tryz.func19 hI J (.same _)
       ·refine A4 (t:=52) hb13 J<|Ab 4 [0,1] [(56,(.sl 8 (List.map A7 b.Rules))),(54,(.sl 8 (List.map A7 a.Rules)))] ?_
        refine Bz [(.sl 8 (List.map A7 a.Rules)),(.sl 8 (List.map A7 b.Rules))] J (Co (tj:=52) J J) J J ((Aag a.Rules b.Rules) _) (fun v _=>Cj Tryz.func19 hI) fun r7 _=>Z (.bool r7) J (Ep (t:=true) J J)<|Bj<|Ch [(58,(.bool r7))] (FI J)<|hJ6 r7 _ _ ⟨J,J⟩
       refine A4 (t:=52) hb13 J<|Ab 6 [] [(58,(.bool false))] ?_
       refine Bj<|Ch [(58,(.bool false))] (FI J)<|hJ6 false _ _ ⟨J,J⟩
      ·refine A4 (t:=45) hb11 J<|Ab 4 [0,1] [(49,(.sl 4 (List.map Bx b.Classes))),(47,(.sl 4 (List.map Bx a.Classes)))] ?_
       refine Bz [(.sl 4 (List.map Bx a.Classes)),(.sl 4 (List.map Bx b.Classes))] J (Co (tj:=45) J J) J J ((Zn a.Classes b.Classes) _) (fun v _=>Cj Tryz.func19 hI) fun r6 _=>Z (.bool r6) J (Ep (t:=true) J J)<|Bj<|Ch [(2,(.q ids 0 g)),(3,(.q ids 1 g1)),(51,(.bool r6))] (FI J)<|hJ5 r6 _ _ ⟨J,J⟩
      refine A4 (t:=45) hb11 J<|Ab 6 [] [(51,(.bool false))] ?_
      refine Bj<|Ch [(2,(.q ids 0 g)),(3,(.q ids 1 g1)),(51,(.bool false))] (FI J)<|hJ5 false _ _ ⟨J,J⟩
     ·refine A4 (t:=38) hb9 J<|Ab 4 [0,1] [(42,(.sl 2 (List.map A6 b.Airports))),(40,(.sl 2 (List.map A6 a.Airports)))] ?_
      refine Bz [(.sl 2 (List.map A6 a.Airports)),(.sl 2 (List.map A6 b.Airports)),(.func (.func 76) [] [])] J (Co (tj:=38) J J) J J ((Lz a.Airports b.Airports) _) (fun v _=>Cj Tryz.func19 hI) fun r5 _=>Z (.bool r5) J (Ep (t:=true) J J)<|Bj<|Ch [(2,(.q ids 0 g)),(3,(.q ids 1 g1)),(44,(.bool r5))] (FI J)<|hJ4 r5 _ _ ⟨J,J⟩
     refine A4 (t:=38) hb9 J<|Ab 6 [] [(44,(.bool false))] ?_
     refine Bj<|Ch [(2,(.q ids 0 g)),(3,(.q ids 1 g1)),(44,(.bool false))] (FI J)<|hJ4 false _ _ ⟨J,J⟩
    ·refine A4 (t:=31) hb7 J<|Ab 4 [0,1] [(35,(.sl 7 (List.map Bp b.Routes))),(33,(.sl 7 (List.map Bp a.Routes)))] ?_
     refine Bz [(.sl 7 (List.map Bp a.Routes)),(.sl 7 (List.map Bp b.Routes)),(.func (.func 74) [] [])] J (Co (tj:=31) J J) J J ((Nl a.Routes b.Routes) _) (fun v _=>Cj Tryz.func19 hI) fun r4 _=>Z (.bool r4) J (Ep (t:=true) J J)<|Bj<|Ch [(2,(.q ids 0 g)),(3,(.q ids 1 g1)),(37,(.bool r4))] (FI J)<|hJ3 r4 _ _ ⟨J,J⟩
    refine A4 (t:=31) hb7 J<|Ab 6 [] [(37,(.bool false))] ?_
    refine Bj<|Ch [(2,(.q ids 0 g)),(3,(.q ids 1 g1)),(37,(.bool false))] (FI J)<|hJ3 false _ _ ⟨J,J⟩
   ·refine A4 (t:=24) hb5 J<|Ab 4 [0,1] [(28,(.sl 5 (List.map A9 b.Segments))),(26,(.sl 5 (List.map A9 a.Segments)))] ?_
    refine Bz [(.sl 5 (List.map A9 a.Segments)),(.sl 5 (List.map A9 b.Segments)),(.func (.func 72) [] [])] J (Co (tj:=24) J J) J J ((Lw a.Segments b.Segments) _) (fun v _=>Cj Tryz.func19 hI) fun r3 _=>Z (.bool r3) J (Ep (t:=true) J J)<|Bj<|Ch [(2,(.q ids 0 g)),(3,(.q ids 1 g1)),(30,(.bool r3))] (FI J)<|hJ2 r3 _ _ ⟨J,J⟩
   refine A4 (t:=24) hb5 J<|Ab 6 [] [(30,(.bool false))] ?_
   refine Bj<|Ch [(2,(.q ids 0 g)),(3,(.q ids 1 g1)),(30,(.bool false))] (FI J)<|hJ2 false _ _ ⟨J,J⟩
  ·refine A4 (t:=17) hb3 J<|Ab 4 [0,1] [(21,(.sl 3 (List.map Bf b.Configs))),(19,(.sl 3 (List.map Bf a.Configs)))] ?_
   refine Bz [(.sl 3 (List.map Bf a.Configs)),(.sl 3 (List.map Bf b.Configs)),(.func (.func 70) [] [])] J (Co (tj:=17) J J) J J ((Mn a.Configs b.Configs) _) (fun v _=>Cj Tryz.func19 hI) fun r2 _=>Z (.bool r2) J (Ep (t:=true) J J)<|Bj<|Ch [(2,(.q ids 0 g)),(3,(.q ids 1 g1)),(23,(.bool r2))] (FI J)<|hJ1 r2 _ _ ⟨J,J⟩
  refine A4 (t:=17) hb3 J<|Ab 6 [] [(23,(.bool false))] ?_
  refine Bj<|Ch [(2,(.q ids 0 g)),(3,(.q ids 1 g1)),(23,(.bool false))] (FI J)<|hJ1 false _ _ ⟨J,J⟩
 ·refine A4 (t:=10) hb1 J<|Ab 4 [0,1] [(14,(.sl 5 (List.map A3 b.Sectors))),(12,(.sl 5 (List.map A3 a.Sectors)))] ?_
  refine Bz [(.sl 5 (List.map A3 a.Sectors)),(.sl 5 (List.map A3 b.Sectors)),(.func (.func 66) [] [])] J (Co (tj:=10) J J) J J ((Mp a.Sectors b.Sectors) _) (fun v _=>Cj Tryz.func19 hI) fun r1 _=>Z (.bool r1) J (Ep (t:=true) J J)<|Bj<|Ch [(2,(.q ids 0 g)),(3,(.q ids 1 g1)),(16,(.bool r1))] (FI J)<|hJ r1 _ _ ⟨J,J⟩
 refine A4 (t:=10) hb1 J<|Ab 6 [] [(16,(.bool false))] ?_
 refine Bj<|Ch [(2,(.q ids 0 g)),(3,(.q ids 1 g1)),(16,(.bool false))] (FI J)<|hJ false _ _ ⟨J,J⟩
theorem Agk:CP Tryz.prog 9 [] (Tw) (fun(x:Bool)=>(AV.bool x)):=by
 refine C3 (n:=158) 7 Tryz.func9 J (by decide) J J fun h0 ids hI=>Bm (Ak (Tw.eq_1) ?_)
 refine Y<|O<|Z (.bool false) J Al<|Aa<|Y<|O<|Bz [(.str [])] J J J J ((K9 []) _) (fun v _=>Cj Tryz.func9 hI) fun r _=>?_
 refine Ab 4 [] [(28,(.I r.2.2)),(27,(.I r.2.1)),(26,(.agg (Av r.1)))] ?_
 refine Bc (j:=0) hI J J J J Ec J fun g=>Aq (Ax (v:=(.agg (Av r.1))) hI J J J J Ec J J J J J)<|Ab 2 [] [(3,(.I r.2.2)),(2,(.I r.2.1))] ?_
 refine Aa<|Aj ?_
 refine Y<|O<|Bz [(.str [118,111,108,117,109,101,32,97,32,99,108,111,115,101,100,32,54,48,32,116,111,32,54,48,59])] J J J J ((K9 [118,111,108,117,109,101,32,97,32,99,108,111,115,101,100,32,54,48,32,116,111,32,54,48,59]) _) (fun v _=>Cj Tryz.func9 hI) fun r1 _=>Ab 4 [] [(33,(.I r1.2.2)),(32,(.I r1.2.1)),(31,(.agg (Av r1.1)))] ?_
 refine Bc (j:=1) hI J J J J Ec J fun g1=>Aq (Ax (v:=(.agg (Av r1.1))) hI J J J J Ec J J J J J)<|Ab 2 [] [(6,(.I r1.2.2)),(5,(.I r1.2.1))] ?_
 refine Aa<|Aj ?_
 refine Y<|O<|Bz [(.str [101,120,101,109,112,116,32,104,101,97,118,121])] J J J J ((K9 [101,120,101,109,112,116,32,104,101,97,118,121]) _) (fun v _=>Cj Tryz.func9 hI) fun r2 _=>Ab 4 [] [(38,(.I r2.2.2)),(37,(.I r2.2.1)),(36,(.agg (Av r2.1)))] ?_
 refine Bc (j:=2) hI J J J J Ec J fun g2=>Aq (Ax (v:=(.agg (Av r2.1))) hI J J J J Ec J J J J J)<|Ab 2 [] [(9,(.I r2.2.2)),(8,(.I r2.2.1))] ?_
 refine Aa<|Aj ?_
 refine Y<|O<|Bz [(.str [108,111,110,103,101,115,116,32,104,101,97,118,121,32,51,53,59])] J J J J ((K9 [108,111,110,103,101,115,116,32,104,101,97,118,121,32,51,53,59]) _) (fun v _=>Cj Tryz.func9 hI) fun r3 _=>Ab 4 [] [(43,(.I r3.2.2)),(42,(.I r3.2.1)),(41,(.agg (Av r3.1)))] ?_
 refine Bc (j:=3) hI J J J J Ec J fun g3=>Aq (Ax (v:=(.agg (Av r3.1))) hI J J J J Ec J J J J J)<|Ab 2 [] [(12,(.I r3.2.2)),(11,(.I r3.2.1))] ?_
 refine Aa<|Aj ?_
 refine Y<|O<|Z (.agg [(.str [120]),.emp]) J (Mf (R1 J3 At1 J))<|Dh (e:=A6) (L:=[({ Name:=[120],Modes:=[] }:Airport)]) (st:=2) (rows:=[[(.str [120]),.emp]]) J Oe J3 J J J J J (.cons (.cons (.same _) (.cons (.emp _) .nil)) .nil) (fun x=>Ww x) J J<|Z (.agg [.emp,.emp,.emp,.emp,.emp,(.sl 2 (List.map A6 [({ Name:=[120],Modes:=[] }:Airport)])),.emp,.emp]) J (Mf (R1 Ec Alp J))<|Bz [(.agg [.emp,.emp,.emp,.emp,.emp,(.sl 2 (List.map A6 [({ Name:=[120],Modes:=[] }:Airport)])),.emp,.emp])] J J J J (fun hb=>Bh.weak (.cons (.aggL (.cons (.emp _) (.cons (.emp _) (.cons (.emp _) (.cons (.emp _) (.cons (.emp _) (.cons (.same _) (.cons (.emp _) (.cons (.emp _) .nil))))))))) .nil) ((Q5 ({ Volumes:=[],Sectors:=[],Configs:=[],Segments:=[],Routes:=[],Airports:=[({ Name:=[120],Modes:=[] }:Airport)],Classes:=[],Rules:=[] }:Airspace)) _ hb)) (fun v _=>Cj Tryz.func9 hI) fun r4 _=>Ab 5 [] [(14,(.I r4.2))] ?_
 refine Aa<|Y<|O<|Z (.agg [(.str [97]),.emp]) J (Mf (R1 Ko At8 J))<|Dh (e:=As) (L:=[({ Name:=[97],Closed:=[] }:Volume)]) (st:=2) (rows:=[[(.str [97]),.emp]]) J J2 Ko J J J J J (.cons (.cons (.same _) (.cons (.emp _) .nil)) .nil) (fun x=>Ye x) J J<|Z (.agg [(.sl 2 (List.map As [({ Name:=[97],Closed:=[] }:Volume)])),.emp,.emp,.emp,.emp,.emp,.emp,.emp]) J (Mf (R1 Ec Alp J))<|Bz [(.agg [(.sl 2 (List.map As [({ Name:=[97],Closed:=[] }:Volume)])),.emp,.emp,.emp,.emp,.emp,.emp,.emp])] J J J J (fun hb=>Bh.weak (.cons (.aggL (.cons (.same _) (.cons (.emp _) (.cons (.emp _) (.cons (.emp _) (.cons (.emp _) (.cons (.emp _) (.cons (.emp _) (.cons (.emp _) .nil))))))))) .nil) ((Q5 ({ Volumes:=[({ Name:=[97],Closed:=[] }:Volume)],Sectors:=[],Configs:=[],Segments:=[],Routes:=[],Airports:=[],Classes:=[],Rules:=[] }:Airspace)) _ hb)) (fun v _=>Cj Tryz.func9 hI) fun r5 _=>?_
 refine Ab 5 [] [(16,(.I r5.2)),(15,(.str r5.1))] ?_
 refine Aa<|Y<|O<|Bz [(.str [99,117,114,102,101,119,32,104,101,97,118,121,32,97,116,32,120,32,48,32,116,111,32,51,48,48,59,32,115,101,99,116,111,114,32,115,32,61,32,97,44,32,98,32,114,97,100,97,114,32,57,32,112,114,111,99,101,100,117,114,97,108,32,52,59])] J J J J ((K9 [99,117,114,102,101,119,32,104,101,97,118,121,32,97,116,32,120,32,48,32,116,111,32,51,48,48,59,32,115,101,99,116,111,114,32,115,32,61,32,97,44,32,98,32,114,97,100,97,114,32,57,32,112,114,111,99,101,100,117,114,97,108,32,52,59]) _) (fun v _=>Cj Tryz.func9 hI) fun r6 _=>Ab 4 [] [(62,(.I r6.2.2)),(61,(.I r6.2.1)),(60,(.agg (Av r6.1)))] ?_
 refine Bc (j:=4) hI J J J J Ec J fun g4=>Aq (Ax (v:=(.agg (Av r6.1))) hI J J J J Ec J J J J J)<|Ab 2 [] [(19,(.I r6.2.2)),(18,(.I r6.2.1))] ?_
 refine Aa<|Aj ?_
 refine Y<|O<|Dh (e:=rS) (L:=[[97],[98]]) (st:=1) (rows:=[[(.str [97])],[(.str [98])]]) J D5 Cy J J J J J (.cons (RowSim.refl _) (.cons (RowSim.refl _) .nil)) (fun x=>Hd x) J J<|Z (.agg [(.str [115]),(.sl 1 (List.map rS [[97],[98]])),.emp,(.I 9),(.I 4)]) J (Mf (R1 Gp Atw J))<|Dh (e:=A3) (L:=[({ Name:=[115],Names:=[[97],[98]],Volumes:=[],Radar:=9,Procedural:=4 }:Sector)]) (st:=5) (rows:=[[(.str [115]),(.sl 1 (List.map rS [[97],[98]])),.emp,(.I 9),(.I 4)]]) J Ji Gp J J J J J (.cons (.cons (.same _) (.cons (.same _) (.cons (.emp _) (.cons (.same _) (.cons (.same _) .nil))))) .nil) (fun x=>Rn x) J J<|Ab 2 [] [(67,(.agg [(.I 1),(.str [104,101,97,118,121]),(.str [120]),(.I 0),(.I 0),(.I 0),(.I 0),(.I 300)]))] ?_
 refine Dh (e:=A7) (L:=[({ Kind:=1,C:=[104,101,97,118,121],A:=[120],Class:=0,Airport:=0,N:=0,Hours:=({ From:=0,To:=300 }:Span) }:Rule)]) (st:=8) (rows:=[[(.I 1),(.str [104,101,97,118,121]),(.str [120]),(.I 0),(.I 0),(.I 0),(.I 0),(.I 300)]]) J E1 Do J J J J J (.cons (.cons (.same _) (.cons (.same _) (.cons (.same _) (.cons (.same _) (.cons (.same _) (.cons (.same _) (.cons (.same _) (.cons (.same _) .nil)))))))) .nil) (fun x=>Se x) J J<|Z (.agg [.emp,(.sl 5 (List.map A3 [({ Name:=[115],Names:=[[97],[98]],Volumes:=[],Radar:=9,Procedural:=4 }:Sector)])),.emp,.emp,.emp,.emp,.emp,(.sl 8 (List.map A7 [({ Kind:=1,C:=[104,101,97,118,121],A:=[120],Class:=0,Airport:=0,N:=0,Hours:=({ From:=0,To:=300 }:Span) }:Rule)]))]) J (Mf (R1 Ec Alp J))<|Bc (j:=5) hI J J J J Ec J fun g5=>Aq (Ax (v:=(.agg [.emp,(.sl 5 (List.map A3 [({ Name:=[115],Names:=[[97],[98]],Volumes:=[],Radar:=9,Procedural:=4 }:Sector)])),.emp,.emp,.emp,.emp,.emp,(.sl 8 (List.map A7 [({ Kind:=1,C:=[104,101,97,118,121],A:=[120],Class:=0,Airport:=0,N:=0,Hours:=({ From:=0,To:=300 }:Span) }:Rule)]))])) hI J J J J Ec J J J J J)<|Aa<|Aj ?_
 refine Y<|O<|Ab 1 [5] [(70,(.agg [.emp,(.sl 5 (List.map A3 [({ Name:=[115],Names:=[[97],[98]],Volumes:=[],Radar:=9,Procedural:=4 }:Sector)])),.emp,.emp,.emp,.emp,.emp,(.sl 8 (List.map A7 [({ Kind:=1,C:=[104,101,97,118,121],A:=[120],Class:=0,Airport:=0,N:=0,Hours:=({ From:=0,To:=300 }:Span) }:Rule)]))]))] ?_
 refine Bc (j:=6) hI J J J J Ec J fun g6=>Aq (Ax (v:=(.agg [.emp,(.sl 5 (List.map A3 [({ Name:=[115],Names:=[[97],[98]],Volumes:=[],Radar:=9,Procedural:=4 }:Sector)])),.emp,.emp,.emp,.emp,.emp,(.sl 8 (List.map A7 [({ Kind:=1,C:=[104,101,97,118,121],A:=[120],Class:=0,Airport:=0,N:=0,Hours:=({ From:=0,To:=300 }:Span) }:Rule)]))])) hI J J J J Ec J J J J J)<|Aa<|Aj ?_
 refine Y<|O<|Dh (e:=rS) (L:=[[97],[98]]) (st:=1) (rows:=[[(.str [97])],[(.str [98])]]) J D5 Cy J J J J J (.cons (RowSim.refl _) (.cons (RowSim.refl _) .nil)) (fun x=>Hd x) J J<|Dh (e:=(rI .i64)) (L:=[0,1]) (st:=1) (rows:=[[(.I 0)],[(.I 1)]]) J Ok Ds J J J J J (.cons (RowSim.refl _) (.cons (RowSim.refl _) .nil)) (fun x=>Alr x) J J<|Z (.agg [(.str [115]),(.sl 1 (List.map rS [[97],[98]])),(.sl 1 (List.map (rI .i64) [0,1])),(.I 9),(.I 4)]) J (Mf (R1 Gp Atw J))<|Dh (e:=A3) (L:=[({ Name:=[115],Names:=[[97],[98]],Volumes:=[0,1],Radar:=9,Procedural:=4 }:Sector)]) (st:=5) (rows:=[[(.str [115]),(.sl 1 (List.map rS [[97],[98]])),(.sl 1 (List.map (rI .i64) [0,1])),(.I 9),(.I 4)]]) J Ji Gp J J J J J (.cons (.cons (.same _) (.cons (.same _) (.cons (.same _) (.cons (.same _) (.cons (.same _) .nil))))) .nil) (fun x=>Rn x) J J<|Z (.ptr (ix ids 6) g6 0 1) J (B9 (By (c:=0) (off:=1) (i:=1) Ec J Ji J)) ?_
 refine Aq (Ax (v:=(.sl 5 (List.map A3 [({ Name:=[115],Names:=[[97],[98]],Volumes:=[0,1],Radar:=9,Procedural:=4 }:Sector)]))) hI J J J J Ji J J J J J)<|Aa<|Aj ?_
 refine Y<|O<|Ab 1 [6] [(77,(.agg [.emp,(.sl 5 (List.map A3 [({ Name:=[115],Names:=[[97],[98]],Volumes:=[0,1],Radar:=9,Procedural:=4 }:Sector)])),.emp,.emp,.emp,.emp,.emp,(.sl 8 (List.map A7 [({ Kind:=1,C:=[104,101,97,118,121],A:=[120],Class:=0,Airport:=0,N:=0,Hours:=({ From:=0,To:=300 }:Span) }:Rule)]))]))] ?_
 refine Bz [(.agg [.emp,(.sl 5 (List.map A3 [({ Name:=[115],Names:=[[97],[98]],Volumes:=[0,1],Radar:=9,Procedural:=4 }:Sector)])),.emp,.emp,.emp,.emp,.emp,(.sl 8 (List.map A7 [({ Kind:=1,C:=[104,101,97,118,121],A:=[120],Class:=0,Airport:=0,N:=0,Hours:=({ From:=0,To:=300 }:Span) }:Rule)]))])] J J J J (fun hb=>Bh.weak (.cons (.aggL (.cons (.emp _) (.cons (.same _) (.cons (.emp _) (.cons (.emp _) (.cons (.emp _) (.cons (.emp _) (.cons (.emp _) (.cons (.same _) .nil))))))))) .nil) ((Q5 ({ Volumes:=[],Sectors:=[({ Name:=[115],Names:=[[97],[98]],Volumes:=[0,1],Radar:=9,Procedural:=4 }:Sector)],Configs:=[],Segments:=[],Routes:=[],Airports:=[],Classes:=[],Rules:=[({ Kind:=1,C:=[104,101,97,118,121],A:=[120],Class:=0,Airport:=0,N:=0,Hours:=({ From:=0,To:=300 }:Span) }:Rule)] }:Airspace)) _ hb)) (fun v _=>Cj Tryz.func9 hI) fun r7 _=>Ab 5 [] [(23,(.I r7.2)),(22,(.str r7.1))] ?_
 refine Aa<|Y<|Y<|O<|Ab 3 [] [(83,(.bool (r.2.2 != 0)))] ?_
 refine B8 3 [(1,(.q ids 0 g)),(2,(.I r.2.1)),(5,(.I r1.2.1)),(8,(.I r2.2.1)),(9,(.I r2.2.2)),(11,(.I r3.2.1)),(12,(.I r3.2.2)),(14,(.I r4.2)),(15,(.str r5.1)),(16,(.I r5.2)),(17,(.q ids 4 g4)),(18,(.I r6.2.1)),(19,(.I r6.2.2)),(20,(.q ids 5 g5)),(21,(.q ids 6 g6)),(22,(.str r7.1)),(23,(.I r7.2)),(86,(.bool ((r.2.2 != 0)||(r1.2.2 != 80))))] ?_ fun hJ=>Bu (r.2.2 != 0) (fun hb1=>?_) (fun hb1=>?_)
 ·refine Z (.bool ((r.2.2 != 0)||(r1.2.2 != 80))) J Ad<|B8 3 [(1,(.q ids 0 g)),(2,(.I r.2.1)),(5,(.I r1.2.1)),(8,(.I r2.2.1)),(11,(.I r3.2.1)),(12,(.I r3.2.2)),(14,(.I r4.2)),(15,(.str r5.1)),(16,(.I r5.2)),(17,(.q ids 4 g4)),(18,(.I r6.2.1)),(19,(.I r6.2.2)),(20,(.q ids 5 g5)),(21,(.q ids 6 g6)),(22,(.str r7.1)),(23,(.I r7.2)),(90,(.bool (((r.2.2 != 0)||(r1.2.2 != 80))||(r2.2.2 != 80))))] ?_ fun hJ1=>Bu ((r.2.2 != 0)||(r1.2.2 != 80)) (fun hb3=>?_) (fun hb3=>?_)
  ·refine Z (.bool (((r.2.2 != 0)||(r1.2.2 != 80))||(r2.2.2 != 80))) J Ad<|B8 3 [(1,(.q ids 0 g)),(2,(.I r.2.1)),(5,(.I r1.2.1)),(8,(.I r2.2.1)),(11,(.I r3.2.1)),(14,(.I r4.2)),(15,(.str r5.1)),(16,(.I r5.2)),(17,(.q ids 4 g4)),(18,(.I r6.2.1)),(19,(.I r6.2.2)),(20,(.q ids 5 g5)),(21,(.q ids 6 g6)),(22,(.str r7.1)),(23,(.I r7.2)),(94,(.bool ((((r.2.2 != 0)||(r1.2.2 != 80))||(r2.2.2 != 80))||(r3.2.2 != 80))))] ?_ fun hJ2=>Bu (((r.2.2 != 0)||(r1.2.2 != 80))||(r2.2.2 != 80)) (fun hb5=>?_) (fun hb5=>?_)
   ·refine Z (.bool ((((r.2.2 != 0)||(r1.2.2 != 80))||(r2.2.2 != 80))||(r3.2.2 != 80))) J Ad<|B8 3 [(1,(.q ids 0 g)),(2,(.I r.2.1)),(5,(.I r1.2.1)),(8,(.I r2.2.1)),(11,(.I r3.2.1)),(15,(.str r5.1)),(16,(.I r5.2)),(17,(.q ids 4 g4)),(18,(.I r6.2.1)),(19,(.I r6.2.2)),(20,(.q ids 5 g5)),(21,(.q ids 6 g6)),(22,(.str r7.1)),(23,(.I r7.2)),(98,(.bool (((((r.2.2 != 0)||(r1.2.2 != 80))||(r2.2.2 != 80))||(r3.2.2 != 80))||(r4.2 != 80))))] ?_ fun hJ3=>Bu ((((r.2.2 != 0)||(r1.2.2 != 80))||(r2.2.2 != 80))||(r3.2.2 != 80)) (fun hb7=>?_) (fun hb7=>?_)
    ·refine Z (.bool (((((r.2.2 != 0)||(r1.2.2 != 80))||(r2.2.2 != 80))||(r3.2.2 != 80))||(r4.2 != 80))) J Ad<|B8 3 [(1,(.q ids 0 g)),(2,(.I r.2.1)),(5,(.I r1.2.1)),(8,(.I r2.2.1)),(11,(.I r3.2.1)),(15,(.str r5.1)),(17,(.q ids 4 g4)),(18,(.I r6.2.1)),(19,(.I r6.2.2)),(20,(.q ids 5 g5)),(21,(.q ids 6 g6)),(22,(.str r7.1)),(23,(.I r7.2)),(102,(.bool ((((((r.2.2 != 0)||(r1.2.2 != 80))||(r2.2.2 != 80))||(r3.2.2 != 80))||(r4.2 != 80))||(r5.2 != 0))))] ?_ fun hJ4=>Bu (((((r.2.2 != 0)||(r1.2.2 != 80))||(r2.2.2 != 80))||(r3.2.2 != 80))||(r4.2 != 80)) (fun hb9=>?_) (fun hb9=>?_)
     ·refine Z (.bool ((((((r.2.2 != 0)||(r1.2.2 != 80))||(r2.2.2 != 80))||(r3.2.2 != 80))||(r4.2 != 80))||(r5.2 != 0))) J Ad<|B8 3 [(1,(.q ids 0 g)),(2,(.I r.2.1)),(5,(.I r1.2.1)),(8,(.I r2.2.1)),(11,(.I r3.2.1)),(15,(.str r5.1)),(17,(.q ids 4 g4)),(18,(.I r6.2.1)),(20,(.q ids 5 g5)),(21,(.q ids 6 g6)),(22,(.str r7.1)),(23,(.I r7.2)),(106,(.bool (((((((r.2.2 != 0)||(r1.2.2 != 80))||(r2.2.2 != 80))||(r3.2.2 != 80))||(r4.2 != 80))||(r5.2 != 0))||(r6.2.2 != 0))))] ?_ fun hJ5=>Bu ((((((r.2.2 != 0)||(r1.2.2 != 80))||(r2.2.2 != 80))||(r3.2.2 != 80))||(r4.2 != 80))||(r5.2 != 0)) (fun hb11=>?_) (fun hb11=>?_)
      ·refine Z (.bool (((((((r.2.2 != 0)||(r1.2.2 != 80))||(r2.2.2 != 80))||(r3.2.2 != 80))||(r4.2 != 80))||(r5.2 != 0))||(r6.2.2 != 0))) J Ad<|B8 3 [(1,(.q ids 0 g)),(2,(.I r.2.1)),(5,(.I r1.2.1)),(8,(.I r2.2.1)),(11,(.I r3.2.1)),(15,(.str r5.1)),(17,(.q ids 4 g4)),(18,(.I r6.2.1)),(20,(.q ids 5 g5)),(21,(.q ids 6 g6)),(22,(.str r7.1)),(110,(.bool ((((((((r.2.2 != 0)||(r1.2.2 != 80))||(r2.2.2 != 80))||(r3.2.2 != 80))||(r4.2 != 80))||(r5.2 != 0))||(r6.2.2 != 0))||(r7.2 != 0))))] ?_ fun hJ6=>Bu (((((((r.2.2 != 0)||(r1.2.2 != 80))||(r2.2.2 != 80))||(r3.2.2 != 80))||(r4.2 != 80))||(r5.2 != 0))||(r6.2.2 != 0)) (fun hb13=>?_) (fun hb13=>?_)
       ·refine Z (.bool ((((((((r.2.2 != 0)||(r1.2.2 != 80))||(r2.2.2 != 80))||(r3.2.2 != 80))||(r4.2 != 80))||(r5.2 != 0))||(r6.2.2 != 0))||(r7.2 != 0))) J Ad<|B8 3 [(1,(.q ids 0 g)),(5,(.I r1.2.1)),(8,(.I r2.2.1)),(11,(.I r3.2.1)),(15,(.str r5.1)),(17,(.q ids 4 g4)),(18,(.I r6.2.1)),(20,(.q ids 5 g5)),(21,(.q ids 6 g6)),(22,(.str r7.1)),(114,(.bool (((((((((r.2.2 != 0)||(r1.2.2 != 80))||(r2.2.2 != 80))||(r3.2.2 != 80))||(r4.2 != 80))||(r5.2 != 0))||(r6.2.2 != 0))||(r7.2 != 0))||(r.2.1 != 0))))] ?_ fun hJ7=>Bu ((((((((r.2.2 != 0)||(r1.2.2 != 80))||(r2.2.2 != 80))||(r3.2.2 != 80))||(r4.2 != 80))||(r5.2 != 0))||(r6.2.2 != 0))||(r7.2 != 0)) (fun hb15=>?_) (fun hb15=>?_)
        ·refine Z (.bool (((((((((r.2.2 != 0)||(r1.2.2 != 80))||(r2.2.2 != 80))||(r3.2.2 != 80))||(r4.2 != 80))||(r5.2 != 0))||(r6.2.2 != 0))||(r7.2 != 0))||(r.2.1 != 0))) J Ad<|B8 3 [(1,(.q ids 0 g)),(8,(.I r2.2.1)),(11,(.I r3.2.1)),(15,(.str r5.1)),(17,(.q ids 4 g4)),(18,(.I r6.2.1)),(20,(.q ids 5 g5)),(21,(.q ids 6 g6)),(22,(.str r7.1)),(118,(.bool ((((((((((r.2.2 != 0)||(r1.2.2 != 80))||(r2.2.2 != 80))||(r3.2.2 != 80))||(r4.2 != 80))||(r5.2 != 0))||(r6.2.2 != 0))||(r7.2 != 0))||(r.2.1 != 0))||(r1.2.1 != 22))))] ?_ fun hJ8=>Bu (((((((((r.2.2 != 0)||(r1.2.2 != 80))||(r2.2.2 != 80))||(r3.2.2 != 80))||(r4.2 != 80))||(r5.2 != 0))||(r6.2.2 != 0))||(r7.2 != 0))||(r.2.1 != 0)) (fun hb17=>?_) (fun hb17=>?_)
         ·refine Z (.bool ((((((((((r.2.2 != 0)||(r1.2.2 != 80))||(r2.2.2 != 80))||(r3.2.2 != 80))||(r4.2 != 80))||(r5.2 != 0))||(r6.2.2 != 0))||(r7.2 != 0))||(r.2.1 != 0))||(r1.2.1 != 22))) J Ad<|B8 3 [(1,(.q ids 0 g)),(11,(.I r3.2.1)),(15,(.str r5.1)),(17,(.q ids 4 g4)),(18,(.I r6.2.1)),(20,(.q ids 5 g5)),(21,(.q ids 6 g6)),(22,(.str r7.1)),(122,(.bool (((((((((((r.2.2 != 0)||(r1.2.2 != 80))||(r2.2.2 != 80))||(r3.2.2 != 80))||(r4.2 != 80))||(r5.2 != 0))||(r6.2.2 != 0))||(r7.2 != 0))||(r.2.1 != 0))||(r1.2.1 != 22))||(r2.2.1 != 12))))] ?_ fun hJ9=>Bu ((((((((((r.2.2 != 0)||(r1.2.2 != 80))||(r2.2.2 != 80))||(r3.2.2 != 80))||(r4.2 != 80))||(r5.2 != 0))||(r6.2.2 != 0))||(r7.2 != 0))||(r.2.1 != 0))||(r1.2.1 != 22)) (fun hb19=>?_) (fun hb19=>?_)
          ·refine Z (.bool (((((((((((r.2.2 != 0)||(r1.2.2 != 80))||(r2.2.2 != 80))||(r3.2.2 != 80))||(r4.2 != 80))||(r5.2 != 0))||(r6.2.2 != 0))||(r7.2 != 0))||(r.2.1 != 0))||(r1.2.1 != 22))||(r2.2.1 != 12))) J Ad<|B8 3 [(1,(.q ids 0 g)),(15,(.str r5.1)),(17,(.q ids 4 g4)),(18,(.I r6.2.1)),(20,(.q ids 5 g5)),(21,(.q ids 6 g6)),(22,(.str r7.1)),(126,(.bool ((((((((((((r.2.2 != 0)||(r1.2.2 != 80))||(r2.2.2 != 80))||(r3.2.2 != 80))||(r4.2 != 80))||(r5.2 != 0))||(r6.2.2 != 0))||(r7.2 != 0))||(r.2.1 != 0))||(r1.2.1 != 22))||(r2.2.1 != 12))||(r3.2.1 != 14))))] ?_ fun hJ10=>Bu (((((((((((r.2.2 != 0)||(r1.2.2 != 80))||(r2.2.2 != 80))||(r3.2.2 != 80))||(r4.2 != 80))||(r5.2 != 0))||(r6.2.2 != 0))||(r7.2 != 0))||(r.2.1 != 0))||(r1.2.1 != 22))||(r2.2.1 != 12)) (fun hb21=>?_) (fun hb21=>?_)
           ·refine Z (.bool ((((((((((((r.2.2 != 0)||(r1.2.2 != 80))||(r2.2.2 != 80))||(r3.2.2 != 80))||(r4.2 != 80))||(r5.2 != 0))||(r6.2.2 != 0))||(r7.2 != 0))||(r.2.1 != 0))||(r1.2.1 != 22))||(r2.2.1 != 12))||(r3.2.1 != 14))) J Ad<|B8 3 [(1,(.q ids 0 g)),(15,(.str r5.1)),(17,(.q ids 4 g4)),(20,(.q ids 5 g5)),(21,(.q ids 6 g6)),(22,(.str r7.1)),(130,(.bool (((((((((((((r.2.2 != 0)||(r1.2.2 != 80))||(r2.2.2 != 80))||(r3.2.2 != 80))||(r4.2 != 80))||(r5.2 != 0))||(r6.2.2 != 0))||(r7.2 != 0))||(r.2.1 != 0))||(r1.2.1 != 22))||(r2.2.1 != 12))||(r3.2.1 != 14))||(r6.2.1 != 0))))] ?_ fun hJ11=>Bu ((((((((((((r.2.2 != 0)||(r1.2.2 != 80))||(r2.2.2 != 80))||(r3.2.2 != 80))||(r4.2 != 80))||(r5.2 != 0))||(r6.2.2 != 0))||(r7.2 != 0))||(r.2.1 != 0))||(r1.2.1 != 22))||(r2.2.1 != 12))||(r3.2.1 != 14)) (fun hb23=>?_) (fun hb23=>?_)
            ·refine Aa<|Cd J (fun hc=>?_) (fun hc=>?_)
             ·refine Y<|O<|Z (.bool false) J Al<|Aa<|Bs (a:=false) (vs:=[(.bool false)]) Tryz.func9 hI J (.same _)
             refine Az<|Y<|O<|Ab 2 [0] [(132,(.agg [.emp,.emp,.emp,.emp,.emp,.emp,.emp,.emp])),(131,(.agg (Av r.1)))] ?_
             refine Bz [(.agg (Av r.1)),(.agg [.emp,.emp,.emp,.emp,.emp,.emp,.emp,.emp])] J J J J (fun hb=>Bh.weak (.cons (.same _) (.cons (.aggL (.cons (.emp _) (.cons (.emp _) (.cons (.emp _) (.cons (.emp _) (.cons (.emp _) (.cons (.emp _) (.cons (.emp _) (.cons (.emp _) .nil))))))))) .nil)) ((Qp r.1 ({ Volumes:=[],Sectors:=[],Configs:=[],Segments:=[],Routes:=[],Airports:=[],Classes:=[],Rules:=[] }:Airspace)) _ hb)) (fun v _=>Cj Tryz.func9 hI) fun r8 _=>Z (.bool r8) J Ad<|B8 3 [(17,(.q ids 4 g4)),(20,(.q ids 5 g5)),(21,(.q ids 6 g6)),(22,(.str r7.1)),(137,(.bool (r8&&(r5.1==[118,111,108,117,109,101,32,97,32,59]))))] ?_ fun hJ12=>Bu r8 (fun hb25=>?_) (fun hb25=>?_)
             ·refine Z (.bool (r8&&(r5.1==[118,111,108,117,109,101,32,97,32,59]))) J Ad<|Dk 4 ((fun(b:Bool)=>(if(b&&(r7.1==[115,101,99,116,111,114,32,115,32,61,32,97,32,44,32,98,32,114,97,100,97,114,32,57,32,112,114,111,99,101,100,117,114,97,108,32,52,32,59,32,99,117,114,102,101,119,32,104,101,97,118,121,32,97,116,32,120,32,48,32,116,111,32,51,48,48,32,59])) then(Pe r6.1 ({ Volumes:=[],Sectors:=[({ Name:=[115],Names:=[[97],[98]],Volumes:=[],Radar:=9,Procedural:=4 }:Sector)],Configs:=[],Segments:=[],Routes:=[],Airports:=[],Classes:=[],Rules:=[({ Kind:=1,C:=[104,101,97,118,121],A:=[120],Class:=0,Airport:=0,N:=0,Hours:=({ From:=0,To:=300 }:Span) }:Rule)] }:Airspace)).bind fun r10=>R.ok r10 else R.ok false).bind (fun(b1:Bool)=>(if b1 then(Pe r6.1 ({ Volumes:=[],Sectors:=[({ Name:=[115],Names:=[[97],[98]],Volumes:=[0,1],Radar:=9,Procedural:=4 }:Sector)],Configs:=[],Segments:=[],Routes:=[],Airports:=[],Classes:=[],Rules:=[({ Kind:=1,C:=[104,101,97,118,121],A:=[120],Class:=0,Airport:=0,N:=0,Hours:=({ From:=0,To:=300 }:Span) }:Rule)] }:Airspace)).bind fun r11=>R.ok (!r11) else R.ok false).bind (fun(b2:Bool)=>.ok b2))):Bool→R Bool) (fun(b:Bool) (fr:Nat→AV) (h:Ae)=>fr=A2 [(17,(.q ids 4 g4)),(20,(.q ids 5 g5)),(21,(.q ids 6 g6)),(22,(.str r7.1)),(142,(.bool b))]∧h=hp h0 ids [(some (.rows g 8 [(Av r.1)])),(some (.rows g1 8 [(Av r1.1)])),(some (.rows g2 8 [(Av r2.1)])),(some (.rows g3 8 [(Av r3.1)])),(some (.rows g4 8 [(Av r6.1)])),(some (.rows g5 8 [[.emp,(.sl 5 (List.map A3 [({ Name:=[115],Names:=[[97],[98]],Volumes:=[],Radar:=9,Procedural:=4 }:Sector)])),.emp,.emp,.emp,.emp,.emp,(.sl 8 (List.map A7 [({ Kind:=1,C:=[104,101,97,118,121],A:=[120],Class:=0,Airport:=0,N:=0,Hours:=({ From:=0,To:=300 }:Span) }:Rule)]))]])),(some (.rows g6 8 [[.emp,(.sl 5 (List.map A3 [({ Name:=[115],Names:=[[97],[98]],Volumes:=[0,1],Radar:=9,Procedural:=4 }:Sector)])),.emp,.emp,.emp,.emp,.emp,(.sl 8 (List.map A7 [({ Kind:=1,C:=[104,101,97,118,121],A:=[120],Class:=0,Airport:=0,N:=0,Hours:=({ From:=0,To:=300 }:Span) }:Rule)]))]]))]) ?_ fun hJ13=>D7 (fun hb27=>?_) (fun hb27=>?_)
              ·rintro b fr h ⟨rfl,rfl⟩
               refine Z (.bool b) J Ad<|B8 3 [(17,(.q ids 4 g4)),(20,(.q ids 5 g5)),(21,(.q ids 6 g6)),(146,(.bool (b&&(r7.1==[115,101,99,116,111,114,32,115,32,61,32,97,32,44,32,98,32,114,97,100,97,114,32,57,32,112,114,111,99,101,100,117,114,97,108,32,52,32,59,32,99,117,114,102,101,119,32,104,101,97,118,121,32,97,116,32,120,32,48,32,116,111,32,51,48,48,32,59]))))] ?_ fun hJ14=>Bu b (fun hb29=>?_) (fun hb29=>?_)
               ·refine Z (.bool (b&&(r7.1==[115,101,99,116,111,114,32,115,32,61,32,97,32,44,32,98,32,114,97,100,97,114,32,57,32,112,114,111,99,101,100,117,114,97,108,32,52,32,59,32,99,117,114,102,101,119,32,104,101,97,118,121,32,97,116,32,120,32,48,32,116,111,32,51,48,48,32,59]))) J Ad<|Dk 4 ((fun(b1:Bool)=>(if b1 then(Pe r6.1 ({ Volumes:=[],Sectors:=[({ Name:=[115],Names:=[[97],[98]],Volumes:=[0,1],Radar:=9,Procedural:=4 }:Sector)],Configs:=[],Segments:=[],Routes:=[],Airports:=[],Classes:=[],Rules:=[({ Kind:=1,C:=[104,101,97,118,121],A:=[120],Class:=0,Airport:=0,N:=0,Hours:=({ From:=0,To:=300 }:Span) }:Rule)] }:Airspace)).bind fun r11=>R.ok (!r11) else R.ok false).bind (fun(b2:Bool)=>.ok b2)):Bool→R Bool) (fun(b1:Bool) (fr:Nat→AV) (h:Ae)=>fr=A2 [(17,(.q ids 4 g4)),(21,(.q ids 6 g6)),(151,(.bool b1))]∧h=hp h0 ids [(some (.rows g 8 [(Av r.1)])),(some (.rows g1 8 [(Av r1.1)])),(some (.rows g2 8 [(Av r2.1)])),(some (.rows g3 8 [(Av r3.1)])),(some (.rows g4 8 [(Av r6.1)])),(some (.rows g5 8 [[.emp,(.sl 5 (List.map A3 [({ Name:=[115],Names:=[[97],[98]],Volumes:=[],Radar:=9,Procedural:=4 }:Sector)])),.emp,.emp,.emp,.emp,.emp,(.sl 8 (List.map A7 [({ Kind:=1,C:=[104,101,97,118,121],A:=[120],Class:=0,Airport:=0,N:=0,Hours:=({ From:=0,To:=300 }:Span) }:Rule)]))]])),(some (.rows g6 8 [[.emp,(.sl 5 (List.map A3 [({ Name:=[115],Names:=[[97],[98]],Volumes:=[0,1],Radar:=9,Procedural:=4 }:Sector)])),.emp,.emp,.emp,.emp,.emp,(.sl 8 (List.map A7 [({ Kind:=1,C:=[104,101,97,118,121],A:=[120],Class:=0,Airport:=0,N:=0,Hours:=({ From:=0,To:=300 }:Span) }:Rule)]))]]))]) ?_ fun hJ15=>D7 (fun hb31=>?_) (fun hb31=>?_)
                ·rintro b1 fr h ⟨rfl,rfl⟩
                 refine Z (.bool b1) J Ad<|Dk 5 ((fun(b2:Bool)=>.ok b2):Bool→R Bool) (fun(b2:Bool) (fr:Nat→AV) (h:Ae)=>fr=A2 [(157,(.bool b2))]∧h=hp h0 ids [(some (.rows g 8 [(Av r.1)])),(some (.rows g1 8 [(Av r1.1)])),(some (.rows g2 8 [(Av r2.1)])),(some (.rows g3 8 [(Av r3.1)])),(some (.rows g4 8 [(Av r6.1)])),(some (.rows g5 8 [[.emp,(.sl 5 (List.map A3 [({ Name:=[115],Names:=[[97],[98]],Volumes:=[],Radar:=9,Procedural:=4 }:Sector)])),.emp,.emp,.emp,.emp,.emp,(.sl 8 (List.map A7 [({ Kind:=1,C:=[104,101,97,118,121],A:=[120],Class:=0,Airport:=0,N:=0,Hours:=({ From:=0,To:=300 }:Span) }:Rule)]))]])),(some (.rows g6 8 [[.emp,(.sl 5 (List.map A3 [({ Name:=[115],Names:=[[97],[98]],Volumes:=[0,1],Radar:=9,Procedural:=4 }:Sector)])),.emp,.emp,.emp,.emp,.emp,(.sl 8 (List.map A7 [({ Kind:=1,C:=[104,101,97,118,121],A:=[120],Class:=0,Airport:=0,N:=0,Hours:=({ From:=0,To:=300 }:Span) }:Rule)]))]]))]) ?_ fun hJ16=>D7 (fun hb33=>?_) (fun hb33=>?_)
                 ·rintro b2 fr h ⟨rfl,rfl⟩
                  refine Z (.bool b2) J Al<|Aa<|Bs (a:=b2) (vs:=[(.bool b2)]) Tryz.func9 hI J (.same _)
                 ·refine A4 (t:=152) hb33 J<|Ab 2 [4,6] [(154,(.agg [.emp,(.sl 5 (List.map A3 [({ Name:=[115],Names:=[[97],[98]],Volumes:=[0,1],Radar:=9,Procedural:=4 }:Sector)])),.emp,.emp,.emp,.emp,.emp,(.sl 8 (List.map A7 [({ Kind:=1,C:=[104,101,97,118,121],A:=[120],Class:=0,Airport:=0,N:=0,Hours:=({ From:=0,To:=300 }:Span) }:Rule)]))])),(153,(.agg (Av r6.1)))] ?_
                  refine Bz [(.agg (Av r6.1)),(.agg [.emp,(.sl 5 (List.map A3 [({ Name:=[115],Names:=[[97],[98]],Volumes:=[0,1],Radar:=9,Procedural:=4 }:Sector)])),.emp,.emp,.emp,.emp,.emp,(.sl 8 (List.map A7 [({ Kind:=1,C:=[104,101,97,118,121],A:=[120],Class:=0,Airport:=0,N:=0,Hours:=({ From:=0,To:=300 }:Span) }:Rule)]))])] J (Co (tj:=152) J J) J J (fun hb=>Bh.weak (.cons (.same _) (.cons (.aggL (.cons (.emp _) (.cons (.same _) (.cons (.emp _) (.cons (.emp _) (.cons (.emp _) (.cons (.emp _) (.cons (.emp _) (.cons (.same _) .nil))))))))) .nil)) ((Zu r6.1 ({ Volumes:=[],Sectors:=[({ Name:=[115],Names:=[[97],[98]],Volumes:=[0,1],Radar:=9,Procedural:=4 }:Sector)],Configs:=[],Segments:=[],Routes:=[],Airports:=[],Classes:=[],Rules:=[({ Kind:=1,C:=[104,101,97,118,121],A:=[120],Class:=0,Airport:=0,N:=0,Hours:=({ From:=0,To:=300 }:Span) }:Rule)] }:Airspace)) _ hb)) (fun v _=>Cj Tryz.func9 hI) fun r11 _=>Ab 2 [] [(157,(.bool (!r11)))] ?_
                  refine Bj<|Ch [(157,(.bool (!r11)))] (FI J)<|hJ16 (!r11) _ _ ⟨J,J⟩
                 refine A4 (t:=152) hb33 J<|Ab 5 [] [(157,(.bool false))] ?_
                 refine Bj<|Ch [(157,(.bool false))] (FI J)<|hJ16 false _ _ ⟨J,J⟩
                ·refine A4 (t:=147) hb31 J<|Ab 2 [4,5] [(149,(.agg [.emp,(.sl 5 (List.map A3 [({ Name:=[115],Names:=[[97],[98]],Volumes:=[],Radar:=9,Procedural:=4 }:Sector)])),.emp,.emp,.emp,.emp,.emp,(.sl 8 (List.map A7 [({ Kind:=1,C:=[104,101,97,118,121],A:=[120],Class:=0,Airport:=0,N:=0,Hours:=({ From:=0,To:=300 }:Span) }:Rule)]))])),(148,(.agg (Av r6.1)))] ?_
                 refine Bz [(.agg (Av r6.1)),(.agg [.emp,(.sl 5 (List.map A3 [({ Name:=[115],Names:=[[97],[98]],Volumes:=[],Radar:=9,Procedural:=4 }:Sector)])),.emp,.emp,.emp,.emp,.emp,(.sl 8 (List.map A7 [({ Kind:=1,C:=[104,101,97,118,121],A:=[120],Class:=0,Airport:=0,N:=0,Hours:=({ From:=0,To:=300 }:Span) }:Rule)]))])] J (Co (tj:=147) J J) J J (fun hb=>Bh.weak (.cons (.same _) (.cons (.aggL (.cons (.emp _) (.cons (.same _) (.cons (.emp _) (.cons (.emp _) (.cons (.emp _) (.cons (.emp _) (.cons (.emp _) (.cons (.same _) .nil))))))))) .nil)) ((Zu r6.1 ({ Volumes:=[],Sectors:=[({ Name:=[115],Names:=[[97],[98]],Volumes:=[],Radar:=9,Procedural:=4 }:Sector)],Configs:=[],Segments:=[],Routes:=[],Airports:=[],Classes:=[],Rules:=[({ Kind:=1,C:=[104,101,97,118,121],A:=[120],Class:=0,Airport:=0,N:=0,Hours:=({ From:=0,To:=300 }:Span) }:Rule)] }:Airspace)) _ hb)) (fun v _=>Cj Tryz.func9 hI) fun r10 _=>Z (.bool r10) J (Ep (t:=true) J J)<|Bj<|Ch [(17,(.q ids 4 g4)),(21,(.q ids 6 g6)),(151,(.bool r10))] (FI J)<|hJ15 r10 _ _ ⟨J,J⟩
                refine A4 (t:=147) hb31 J<|Ab 4 [] [(151,(.bool false))] ?_
                refine Bj<|Ch [(17,(.q ids 4 g4)),(21,(.q ids 6 g6)),(151,(.bool false))] (FI J)<|hJ15 false _ _ ⟨J,J⟩
               ·refine A4 (t:=143) hb29 J<|Ab 3 [] [(146,(.bool (r7.1==[115,101,99,116,111,114,32,115,32,61,32,97,32,44,32,98,32,114,97,100,97,114,32,57,32,112,114,111,99,101,100,117,114,97,108,32,52,32,59,32,99,117,114,102,101,119,32,104,101,97,118,121,32,97,116,32,120,32,48,32,116,111,32,51,48,48,32,59])))] ?_
                exact Bk hJ14 (.cons J (.cons J (.cons J (.cons (Lf hb29) .nil))))
               refine A4 (t:=143) hb29 J<|Ab 3 [] [(146,(.bool false))] ?_
               exact Bk hJ14 (.cons J (.cons J (.cons J (.cons (Li hb29) .nil))))
              ·refine A4 (t:=138) hb27 J<|Ab 2 [4,5] [(140,(.agg [.emp,(.sl 5 (List.map A3 [({ Name:=[115],Names:=[[97],[98]],Volumes:=[],Radar:=9,Procedural:=4 }:Sector)])),.emp,.emp,.emp,.emp,.emp,(.sl 8 (List.map A7 [({ Kind:=1,C:=[104,101,97,118,121],A:=[120],Class:=0,Airport:=0,N:=0,Hours:=({ From:=0,To:=300 }:Span) }:Rule)]))])),(139,(.agg (Av r6.1)))] ?_
               refine Bz [(.agg (Av r6.1)),(.agg [.emp,(.sl 5 (List.map A3 [({ Name:=[115],Names:=[[97],[98]],Volumes:=[],Radar:=9,Procedural:=4 }:Sector)])),.emp,.emp,.emp,.emp,.emp,(.sl 8 (List.map A7 [({ Kind:=1,C:=[104,101,97,118,121],A:=[120],Class:=0,Airport:=0,N:=0,Hours:=({ From:=0,To:=300 }:Span) }:Rule)]))])] J (Co (tj:=138) J J) J J (fun hb=>Bh.weak (.cons (.same _) (.cons (.aggL (.cons (.emp _) (.cons (.same _) (.cons (.emp _) (.cons (.emp _) (.cons (.emp _) (.cons (.emp _) (.cons (.emp _) (.cons (.same _) .nil))))))))) .nil)) ((Qp r6.1 ({ Volumes:=[],Sectors:=[({ Name:=[115],Names:=[[97],[98]],Volumes:=[],Radar:=9,Procedural:=4 }:Sector)],Configs:=[],Segments:=[],Routes:=[],Airports:=[],Classes:=[],Rules:=[({ Kind:=1,C:=[104,101,97,118,121],A:=[120],Class:=0,Airport:=0,N:=0,Hours:=({ From:=0,To:=300 }:Span) }:Rule)] }:Airspace)) _ hb)) (fun v _=>Cj Tryz.func9 hI) fun r9 _=>Z (.bool r9) J (Ep (t:=true) J J)<|Bj<|Ch [(17,(.q ids 4 g4)),(20,(.q ids 5 g5)),(21,(.q ids 6 g6)),(22,(.str r7.1)),(142,(.bool r9))] (FI J)<|hJ13 r9 _ _ ⟨J,J⟩
              refine A4 (t:=138) hb27 J<|Ab 4 [] [(142,(.bool false))] ?_
              refine Bj<|Ch [(17,(.q ids 4 g4)),(20,(.q ids 5 g5)),(21,(.q ids 6 g6)),(22,(.str r7.1)),(142,(.bool false))] (FI J)<|hJ13 false _ _ ⟨J,J⟩
             ·refine A4 (t:=134) hb25 J<|Ab 3 [] [(137,(.bool (r5.1==[118,111,108,117,109,101,32,97,32,59])))] ?_
              exact Bk hJ12 (.cons J (.cons J (.cons J (.cons J (.cons (Lf hb25) .nil)))))
             refine A4 (t:=134) hb25 J<|Ab 3 [] [(137,(.bool false))] ?_
             exact Bk hJ12 (.cons J (.cons J (.cons J (.cons J (.cons (Li hb25) .nil)))))
            ·refine A4 (t:=127) hb23 J<|Ab 3 [] [(130,(.bool true))] ?_
             exact Bk hJ11 (.cons J (.cons J (.cons J (.cons J (.cons J (.cons J (.cons (Fu hb23) .nil)))))))
            refine A4 (t:=127) hb23 J<|Ab 3 [] [(130,(.bool (r6.2.1 != 0)))] ?_
            exact Bk hJ11 (.cons J (.cons J (.cons J (.cons J (.cons J (.cons J (.cons (Fw hb23) .nil)))))))
           ·refine A4 (t:=123) hb21 J<|Ab 3 [] [(126,(.bool true))] ?_
            exact Bk hJ10 (.cons J (.cons J (.cons J (.cons J (.cons J (.cons J (.cons J (.cons (Fu hb21) .nil))))))))
           refine A4 (t:=123) hb21 J<|Ab 3 [] [(126,(.bool (r3.2.1 != 14)))] ?_
           exact Bk hJ10 (.cons J (.cons J (.cons J (.cons J (.cons J (.cons J (.cons J (.cons (Fw hb21) .nil))))))))
          ·refine A4 (t:=119) hb19 J<|Ab 3 [] [(122,(.bool true))] ?_
           exact Bk hJ9 (.cons J (.cons J (.cons J (.cons J (.cons J (.cons J (.cons J (.cons J (.cons (Fu hb19) .nil)))))))))
          refine A4 (t:=119) hb19 J<|Ab 3 [] [(122,(.bool (r2.2.1 != 12)))] ?_
          exact Bk hJ9 (.cons J (.cons J (.cons J (.cons J (.cons J (.cons J (.cons J (.cons J (.cons (Fw hb19) .nil)))))))))
         ·refine A4 (t:=115) hb17 J<|Ab 3 [] [(118,(.bool true))] ?_
          exact Bk hJ8 (.cons J (.cons J (.cons J (.cons J (.cons J (.cons J (.cons J (.cons J (.cons J (.cons (Fu hb17) .nil))))))))))
         refine A4 (t:=115) hb17 J<|Ab 3 [] [(118,(.bool (r1.2.1 != 22)))] ?_
         exact Bk hJ8 (.cons J (.cons J (.cons J (.cons J (.cons J (.cons J (.cons J (.cons J (.cons J (.cons (Fw hb17) .nil))))))))))
        ·refine A4 (t:=111) hb15 J<|Ab 3 [] [(114,(.bool true))] ?_
         exact Bk hJ7 (.cons J (.cons J (.cons J (.cons J (.cons J (.cons J (.cons J (.cons J (.cons J (.cons J (.cons (Fu hb15) .nil)))))))))))
        refine A4 (t:=111) hb15 J<|Ab 3 [] [(114,(.bool (r.2.1 != 0)))] ?_
        exact Bk hJ7 (.cons J (.cons J (.cons J (.cons J (.cons J (.cons J (.cons J (.cons J (.cons J (.cons J (.cons (Fw hb15) .nil)))))))))))
       ·refine A4 (t:=107) hb13 J<|Ab 3 [] [(110,(.bool true))] ?_
        exact Bk hJ6 (.cons J (.cons J (.cons J (.cons J (.cons J (.cons J (.cons J (.cons J (.cons J (.cons J (.cons J (.cons (Fu hb13) .nil))))))))))))
       refine A4 (t:=107) hb13 J<|Ab 3 [] [(110,(.bool (r7.2 != 0)))] ?_
       exact Bk hJ6 (.cons J (.cons J (.cons J (.cons J (.cons J (.cons J (.cons J (.cons J (.cons J (.cons J (.cons J (.cons (Fw hb13) .nil))))))))))))
      ·refine A4 (t:=103) hb11 J<|Ab 3 [] [(106,(.bool true))] ?_
       exact Bk hJ5 (.cons J (.cons J (.cons J (.cons J (.cons J (.cons J (.cons J (.cons J (.cons J (.cons J (.cons J (.cons J (.cons (Fu hb11) .nil)))))))))))))
      refine A4 (t:=103) hb11 J<|Ab 3 [] [(106,(.bool (r6.2.2 != 0)))] ?_
      exact Bk hJ5 (.cons J (.cons J (.cons J (.cons J (.cons J (.cons J (.cons J (.cons J (.cons J (.cons J (.cons J (.cons J (.cons (Fw hb11) .nil)))))))))))))
     ·refine A4 (t:=99) hb9 J<|Ab 3 [] [(102,(.bool true))] ?_
      exact Bk hJ4 (.cons J (.cons J (.cons J (.cons J (.cons J (.cons J (.cons J (.cons J (.cons J (.cons J (.cons J (.cons J (.cons J (.cons (Fu hb9) .nil))))))))))))))
     refine A4 (t:=99) hb9 J<|Ab 3 [] [(102,(.bool (r5.2 != 0)))] ?_
     exact Bk hJ4 (.cons J (.cons J (.cons J (.cons J (.cons J (.cons J (.cons J (.cons J (.cons J (.cons J (.cons J (.cons J (.cons J (.cons (Fw hb9) .nil))))))))))))))
    ·refine A4 (t:=95) hb7 J<|Ab 3 [] [(98,(.bool true))] ?_
     exact Bk hJ3 (.cons J (.cons J (.cons J (.cons J (.cons J (.cons J (.cons J (.cons J (.cons J (.cons J (.cons J (.cons J (.cons J (.cons J (.cons (Fu hb7) .nil)))))))))))))))
    refine A4 (t:=95) hb7 J<|Ab 3 [] [(98,(.bool (r4.2 != 80)))] ?_
    exact Bk hJ3 (.cons J (.cons J (.cons J (.cons J (.cons J (.cons J (.cons J (.cons J (.cons J (.cons J (.cons J (.cons J (.cons J (.cons J (.cons (Fw hb7) .nil)))))))))))))))
   ·refine A4 (t:=91) hb5 J<|Ab 3 [] [(94,(.bool true))] ?_
    exact Bk hJ2 (.cons J (.cons J (.cons J (.cons J (.cons J (.cons J (.cons J (.cons J (.cons J (.cons J (.cons J (.cons J (.cons J (.cons J (.cons J (.cons (Fu hb5) .nil))))))))))))))))
   refine A4 (t:=91) hb5 J<|Ab 3 [] [(94,(.bool (r3.2.2 != 80)))] ?_
   exact Bk hJ2 (.cons J (.cons J (.cons J (.cons J (.cons J (.cons J (.cons J (.cons J (.cons J (.cons J (.cons J (.cons J (.cons J (.cons J (.cons J (.cons (Fw hb5) .nil))))))))))))))))
  ·refine A4 (t:=87) hb3 J<|Ab 3 [] [(90,(.bool true))] ?_
   exact Bk hJ1 (.cons J (.cons J (.cons J (.cons J (.cons J (.cons J (.cons J (.cons J (.cons J (.cons J (.cons J (.cons J (.cons J (.cons J (.cons J (.cons J (.cons (Fu hb3) .nil)))))))))))))))))
  refine A4 (t:=87) hb3 J<|Ab 3 [] [(90,(.bool (r2.2.2 != 80)))] ?_
  exact Bk hJ1 (.cons J (.cons J (.cons J (.cons J (.cons J (.cons J (.cons J (.cons J (.cons J (.cons J (.cons J (.cons J (.cons J (.cons J (.cons J (.cons J (.cons (Fw hb3) .nil)))))))))))))))))
 ·refine A4 (t:=83) hb1 J<|Ab 3 [] [(86,(.bool true))] ?_
  exact Bk hJ (.cons J (.cons J (.cons J (.cons J (.cons J (.cons J (.cons J (.cons J (.cons J (.cons J (.cons J (.cons J (.cons J (.cons J (.cons J (.cons J (.cons J (.cons (Fu hb1) .nil))))))))))))))))))
 refine A4 (t:=83) hb1 J<|Ab 3 [] [(86,(.bool (r1.2.2 != 80)))] ?_
 exact Bk hJ (.cons J (.cons J (.cons J (.cons J (.cons J (.cons J (.cons J (.cons J (.cons J (.cons J (.cons J (.cons J (.cons J (.cons J (.cons J (.cons J (.cons J (.cons (Fw hb1) .nil))))))))))))))))))
end Go.Am
namespace Go.Am
open Go Go.Proofs
set_option maxRecDepth 100000
set_option maxHeartbeats 4000000
set_option linter.unusedSimpArgs false
set_option linter.unusedVariables false
theorem Aa9 (a:Airspace):CP Tryz.prog 15 [(.agg (Av a))] (Of a) (fun(x:Airspace)=>(AV.agg (Av x))):=by
 refine C3 (n:=120) 13 Tryz.func15 J (by decide) J J fun h0 ids hI=>Bm (Ak (Of.eq_1 _) ?_)
 refine Y<|O<|Cv (v:=(.agg (Av a))) (j:=0) hI J J J J J J J fun g=>Bc (j:=1) hI J J J J Ec J fun g1=>Aa<|Aj ?_
 refine Y<|O<|Ab 7 [0,0,0] [(20,(.agg [(.sl 2 (List.map As a.Volumes)),.emp,.emp,.emp,.emp,(.sl 2 (List.map A6 a.Airports)),(.sl 4 (List.map Bx a.Classes)),.emp]))] ?_
 refine Bc (j:=2) hI J J J J Ec J fun g2=>Aq (Ax (v:=(.agg [(.sl 2 (List.map As a.Volumes)),.emp,.emp,.emp,.emp,(.sl 2 (List.map A6 a.Airports)),(.sl 4 (List.map Bx a.Classes)),.emp])) hI J J J J Ec J J J J J)<|Aa<|Aj ?_
 refine Y<|Y<|O<|Z (.I 0) J Al<|Aa<|A8<|Ee [(1,(.q ids 0 g)),(2,(.q ids 1 g1)),(3,(.q ids 2 g2)),(4,(.I 0))] (FI J) ?_
 refine G0 (P:=Tryz.prog) a.Sectors (fun _ a1=>fun l=>L8 a1 l) (((fun l=>(Ek (fun _ a2=>fun l1=>Kb a2 l1) 0 a.Configs []).bind ((fun l1=>(Ek (fun _ a3=>fun l2=>Ij a3 l2) 0 a.Segments []).bind ((fun l2=>(Ek (fun _ a4=>fun l3=>G2 a4 l3) 0 a.Routes []).bind ((fun l3=>(Ek (fun _ a5=>fun l4=>F8 a5 l4) 0 a.Rules []).bind ((fun l4=>.ok ({ Volumes:=a.Volumes,Sectors:=l,Configs:=l1,Segments:=l2,Routes:=l3,Airports:=a.Airports,Classes:=a.Classes,Rules:=l4 }:Airspace))))))))))):(List Sector)→R Airspace) (fun j=>fun l=>fun(fr:Nat→AV) (h:Ae) => ∃ (v:AV),∃ (g3:Nat),Ay v (ix ids 4) g3 l.length∧fr=A2 [(1,(.q ids 0 g)),(2,(.q ids 1 g1)),(3,(.q ids 2 g2)),(4,(.I (j:Int)))]∧h=hp h0 ids [(some (.rows g 8 [(Av a)])),(some (.rows g1 8 [[.emp,.emp,.emp,.emp,.emp,.emp,.emp,.emp]])),(some (.rows g2 8 [[(.sl 2 (List.map As a.Volumes)),v,.emp,.emp,.emp,(.sl 2 (List.map A6 a.Airports)),(.sl 4 (List.map Bx a.Classes)),.emp]])),none,(Ah v g3 5 (List.map A3 l)),none,none,none,none,none,none,none,none]) [] ?_ ?_ ?_
 ·exact⟨.emp,0,.nil,J,J⟩
 ·rintro j a1 ha1 W hW l fr h ⟨v,g3,vH,rfl,rfl⟩
  refine Ak (m':=L8 a1 l) J (Ak (L8.eq_1 _ _) ?_)
  refine Y<|Y<|O<|Ab 3 [0] [(23,(.sl 5 (List.map A3 a.Sectors))),(21,(.I (j:Int)))] ?_
  refine Z (.I (a.Sectors.length:Int)) J (A0 (Bd Ji))<|Z (.bool (decide ((j:Int)<(a.Sectors.length:Int)))) J (Ba J J J)<|Aa<|Eb (t:=23) (L:=a.Sectors) J fun hlim1=>C0 J (Int.ofNat_lt.2 (A5 ha1))<|Az<|Y ?_
  refine A8<|Y<|O<|Ab 3 [0] [(30,(.I (j:Int))),(29,(.sl 5 (List.map A3 a.Sectors)))] ?_
  refine Z (.cp (A3 a1) 0) J (Bt (Dm Ji Gp J ha1))<|Z (.agg (A3 a1)) J (Au (Cp Gp J))<|Bc (j:=3) hI J J J J Gp J fun g4=>Aq (Ax (v:=(.agg (A3 a1))) hI J J J J Gp J J J J J)<|Aa<|Aj ?_
  refine Y<|O<|Z (.ptr (ix ids 3) g4 0 2) J (B9 (By (c:=0) (off:=2) (i:=2) Gp J Ok J))<|Aq (Ax (v:=.emp) hI J J J J Ok J J J J J)<|Aa<|Aj ?_
  refine O<|Ab 3 [2,3] [(36,(.agg [(.str a1.Name),(.sl 1 (List.map rS a1.Names)),.emp,(.I a1.Radar),(.I a1.Procedural)])),(35,v)] ?_
  refine Dh (e:=A3) (L:=[({ Name:=a1.Name,Names:=a1.Names,Volumes:=[],Radar:=a1.Radar,Procedural:=a1.Procedural }:Sector)]) (st:=5) (rows:=[[(.str a1.Name),(.sl 1 (List.map rS a1.Names)),.emp,(.I a1.Radar),(.I a1.Procedural)]]) J Ji Gp J J J J J (.cons (.cons (.same _) (.cons (.same _) (.cons (.emp _) (.cons (.same _) (.cons (.same _) .nil))))) .nil) (fun x=>Rn x) J J<|Gb fun hl=>P2 (e:=A3) (L:=l) (L2:=[({ Name:=a1.Name,Names:=a1.Names,Volumes:=[],Radar:=a1.Radar,Procedural:=a1.Procedural }:Sector)]) (v:=v) (g:=g3) (st:=5) (j:=4) hI J J J J vH J (Ke J) Ji Ji J Gp J J J hl fun v1 g5 vH1=>Z (.ptr (ix ids 2) g2 0 1) J (B9 (By (c:=0) (off:=1) (i:=1) Ec J Ji J))<|Aq (Jj vH1 hI J J J J Ji J J J)<|Aa<|Aj ?_
  refine Bn<|O<|Ab 3 [] [(4,(.I (IntKind.wrap .i64 ((j:Int)+1))))] ?_
  refine Aa<|Eh [(some (.rows g 8 [(Av a)])),(some (.rows g1 8 [[.emp,.emp,.emp,.emp,.emp,.emp,.emp,.emp]])),(some (.rows g2 8 [[(.sl 2 (List.map As a.Volumes)),v1,.emp,.emp,.emp,(.sl 2 (List.map A6 a.Airports)),(.sl 4 (List.map Bx a.Classes)),.emp]])),none,(Ah v1 g5 5 (List.map A3 (l++[({ Name:=a1.Name,Names:=a1.Names,Volumes:=[],Radar:=a1.Radar,Procedural:=a1.Procedural }:Sector)]))),none,none,none,none,none,none,none,none] hI J (.keep (.keep (.keep (.drop (.keep (.keep (.keep (.keep (.keep (.keep (.keep (.keep (.keep .nil)))))))))))))<|Bo (Q2 (hW (l++[({ Name:=a1.Name,Names:=a1.Names,Volumes:=[],Radar:=a1.Radar,Procedural:=a1.Procedural }:Sector)]) _ _ ⟨v1,g5,vH1,J,J⟩)) (.cons J (.cons J (.cons J (.cons (D1 (A5 ha1) hlim1) .nil))))
 rintro l fr h ⟨v,g3,vH,rfl,rfl⟩
 refine Y<|Y<|O<|Ab 3 [0] [(23,(.sl 5 (List.map A3 a.Sectors))),(21,(.I (a.Sectors.length:Int)))] ?_
 refine Z (.I (a.Sectors.length:Int)) J (A0 (Bd Ji))<|Z (.bool (decide ((a.Sectors.length:Int)<(a.Sectors.length:Int)))) J (Ba J J J)<|Aa<|C1 J (Int.lt_irrefl _)<|C7 J<|Y<|Y ?_
 refine O<|Z (.I 0) J Al<|Aa<|A8<|Ee [(1,(.q ids 0 g)),(2,(.q ids 1 g1)),(3,(.q ids 2 g2)),(6,(.I 0))] (FI J)<|G0 (P:=Tryz.prog) a.Configs (fun _ a2=>fun l1=>Kb a2 l1) (((fun l1=>(Ek (fun _ a3=>fun l2=>Ij a3 l2) 0 a.Segments []).bind ((fun l2=>(Ek (fun _ a4=>fun l3=>G2 a4 l3) 0 a.Routes []).bind ((fun l3=>(Ek (fun _ a5=>fun l4=>F8 a5 l4) 0 a.Rules []).bind ((fun l4=>.ok ({ Volumes:=a.Volumes,Sectors:=l,Configs:=l1,Segments:=l2,Routes:=l3,Airports:=a.Airports,Classes:=a.Classes,Rules:=l4 }:Airspace))))))))):(List Config)→R Airspace) (fun j1=>fun l1=>fun(fr:Nat→AV) (h:Ae) => ∃ (v2:AV),∃ (g6:Nat),Ay v2 (ix ids 6) g6 l1.length∧fr=A2 [(1,(.q ids 0 g)),(2,(.q ids 1 g1)),(3,(.q ids 2 g2)),(6,(.I (j1:Int)))]∧h=hp h0 ids [(some (.rows g 8 [(Av a)])),(some (.rows g1 8 [[.emp,.emp,.emp,.emp,.emp,.emp,.emp,.emp]])),(some (.rows g2 8 [[(.sl 2 (List.map As a.Volumes)),v,v2,.emp,.emp,(.sl 2 (List.map A6 a.Airports)),(.sl 4 (List.map Bx a.Classes)),.emp]])),none,(Ah v g3 5 (List.map A3 l)),none,(Ah v2 g6 3 (List.map Bf l1)),none,none,none,none,none,none]) [] ?_ ?_ ?_
 ·exact⟨.emp,0,.nil,J,J⟩
 ·rintro j1 a2 ha2 W hW1 l1 fr h ⟨v2,g6,vH2,rfl,rfl⟩
  refine Ak (m':=Kb a2 l1) J (Ak (Kb.eq_1 _ _) ?_)
  refine Y<|Y<|O<|Ab 3 [0] [(42,(.sl 3 (List.map Bf a.Configs))),(40,(.I (j1:Int)))] ?_
  refine Z (.I (a.Configs.length:Int)) J (A0 (Bd K1))<|Z (.bool (decide ((j1:Int)<(a.Configs.length:Int)))) J (Ba J J J)<|Aa<|Eb (t:=42) (L:=a.Configs) J fun hlim3=>C0 J (Int.ofNat_lt.2 (A5 ha2))<|Az<|Y ?_
  refine A8<|Y<|O<|Ab 3 [0] [(49,(.I (j1:Int))),(48,(.sl 3 (List.map Bf a.Configs)))] ?_
  refine Z (.cp (Bf a2) 0) J (Bt (Dm K1 Iu J ha2))<|Z (.agg (Bf a2)) J (Au (Cp Iu J))<|Bc (j:=5) hI J J J J Iu J fun g7=>Aq (Ax (v:=(.agg (Bf a2))) hI J J J J Iu J J J J J)<|Aa<|Aj ?_
  refine Y<|O<|Z (.ptr (ix ids 5) g7 0 2) J (B9 (By (c:=0) (off:=2) (i:=2) Iu J Ok J))<|Aq (Ax (v:=.emp) hI J J J J Ok J J J J J)<|Aa<|Aj ?_
  refine O<|Ab 3 [2,5] [(55,(.agg [(.str a2.Name),(.sl 1 (List.map rS a2.Names)),.emp])),(54,v2)] ?_
  refine Dh (e:=Bf) (L:=[({ Name:=a2.Name,Names:=a2.Names,Sectors:=[] }:Config)]) (st:=3) (rows:=[[(.str a2.Name),(.sl 1 (List.map rS a2.Names)),.emp]]) J K1 Iu J J J J J (.cons (.cons (.same _) (.cons (.same _) (.cons (.emp _) .nil))) .nil) (fun x=>Vg x) J J<|Gb fun hl1=>P2 (e:=Bf) (L:=l1) (L2:=[({ Name:=a2.Name,Names:=a2.Names,Sectors:=[] }:Config)]) (v:=v2) (g:=g6) (st:=3) (j:=6) hI J J J J vH2 J (Ke J) K1 K1 J Iu J J J hl1 fun v3 g8 vH3=>Z (.ptr (ix ids 2) g2 0 2) J (B9 (By (c:=0) (off:=2) (i:=2) Ec J K1 J))<|Aq (Jj vH3 hI J J J J K1 J J J)<|Aa<|Aj ?_
  refine Bn<|O<|Ab 3 [] [(6,(.I (IntKind.wrap .i64 ((j1:Int)+1))))] ?_
  refine Aa<|Eh [(some (.rows g 8 [(Av a)])),(some (.rows g1 8 [[.emp,.emp,.emp,.emp,.emp,.emp,.emp,.emp]])),(some (.rows g2 8 [[(.sl 2 (List.map As a.Volumes)),v,v3,.emp,.emp,(.sl 2 (List.map A6 a.Airports)),(.sl 4 (List.map Bx a.Classes)),.emp]])),none,(Ah v g3 5 (List.map A3 l)),none,(Ah v3 g8 3 (List.map Bf (l1++[({ Name:=a2.Name,Names:=a2.Names,Sectors:=[] }:Config)]))),none,none,none,none,none,none] hI J (.keep (.keep (.keep (.keep (.keep (.drop (.keep (.keep (.keep (.keep (.keep (.keep (.keep .nil)))))))))))))<|Bo (Q2 (hW1 (l1++[({ Name:=a2.Name,Names:=a2.Names,Sectors:=[] }:Config)]) _ _ ⟨v3,g8,vH3,J,J⟩)) (.cons J (.cons J (.cons J (.cons (D1 (A5 ha2) hlim3) .nil))))
 rintro l1 fr h ⟨v2,g6,vH2,rfl,rfl⟩
 refine Y<|Y<|O<|Ab 3 [0] [(42,(.sl 3 (List.map Bf a.Configs))),(40,(.I (a.Configs.length:Int)))] ?_
 refine Z (.I (a.Configs.length:Int)) J (A0 (Bd K1))<|Z (.bool (decide ((a.Configs.length:Int)<(a.Configs.length:Int)))) J (Ba J J J)<|Aa<|C1 J (Int.lt_irrefl _)<|C7 J<|Y<|Y ?_
 refine O<|Z (.I 0) J Al<|Aa<|A8<|Ee [(1,(.q ids 0 g)),(2,(.q ids 1 g1)),(3,(.q ids 2 g2)),(8,(.I 0))] (FI J)<|G0 (P:=Tryz.prog) a.Segments (fun _ a3=>fun l2=>Ij a3 l2) (((fun l2=>(Ek (fun _ a4=>fun l3=>G2 a4 l3) 0 a.Routes []).bind ((fun l3=>(Ek (fun _ a5=>fun l4=>F8 a5 l4) 0 a.Rules []).bind ((fun l4=>.ok ({ Volumes:=a.Volumes,Sectors:=l,Configs:=l1,Segments:=l2,Routes:=l3,Airports:=a.Airports,Classes:=a.Classes,Rules:=l4 }:Airspace))))))):(List Segment)→R Airspace) (fun j2=>fun l2=>fun(fr:Nat→AV) (h:Ae) => ∃ (v4:AV),∃ (g9:Nat),Ay v4 (ix ids 8) g9 l2.length∧fr=A2 [(1,(.q ids 0 g)),(2,(.q ids 1 g1)),(3,(.q ids 2 g2)),(8,(.I (j2:Int)))]∧h=hp h0 ids [(some (.rows g 8 [(Av a)])),(some (.rows g1 8 [[.emp,.emp,.emp,.emp,.emp,.emp,.emp,.emp]])),(some (.rows g2 8 [[(.sl 2 (List.map As a.Volumes)),v,v2,v4,.emp,(.sl 2 (List.map A6 a.Airports)),(.sl 4 (List.map Bx a.Classes)),.emp]])),none,(Ah v g3 5 (List.map A3 l)),none,(Ah v2 g6 3 (List.map Bf l1)),none,(Ah v4 g9 5 (List.map A9 l2)),none,none,none,none]) [] ?_ ?_ ?_
 ·exact⟨.emp,0,.nil,J,J⟩
 ·rintro j2 a3 ha3 W hW2 l2 fr h ⟨v4,g9,vH4,rfl,rfl⟩
  refine Ak (m':=Ij a3 l2) J (Ak (Ij.eq_1 _ _) ?_)
  refine Y<|Y<|O<|Ab 3 [0] [(61,(.sl 5 (List.map A9 a.Segments))),(59,(.I (j2:Int)))] ?_
  refine Z (.I (a.Segments.length:Int)) J (A0 (Bd K3))<|Z (.bool (decide ((j2:Int)<(a.Segments.length:Int)))) J (Ba J J J)<|Aa<|Eb (t:=61) (L:=a.Segments) J fun hlim5=>C0 J (Int.ofNat_lt.2 (A5 ha3))<|Az<|Y ?_
  refine A8<|Y<|O<|Ab 3 [0] [(68,(.I (j2:Int))),(67,(.sl 5 (List.map A9 a.Segments)))] ?_
  refine Z (.cp (A9 a3) 0) J (Bt (Dm K3 Hn J ha3))<|Z (.agg (A9 a3)) J (Au (Cp Hn J))<|Bc (j:=7) hI J J J J Hn J fun g10=>Aq (Ax (v:=(.agg (A9 a3))) hI J J J J Hn J J J J J)<|Aa<|Aj ?_
  refine Y<|O<|Z (.ptr (ix ids 7) g10 0 2) J (B9 (By (c:=0) (off:=2) (i:=2) Hn J Ds J))<|Aq (Ax (v:=(.I 0)) hI J J J J Ds J J J J J)<|Aa<|Aj ?_
  refine O<|Ab 3 [2,7] [(74,(.agg [(.str a3.Name),(.str a3.In),(.I 0),(.I a3.Length),(.sl 2 (List.map Cc a3.Open))])),(73,v4)] ?_
  refine Dh (e:=A9) (L:=[({ Name:=a3.Name,In:=a3.In,Volume:=0,Length:=a3.Length,Open:=a3.Open }:Segment)]) (st:=5) (rows:=[[(.str a3.Name),(.str a3.In),(.I 0),(.I a3.Length),(.sl 2 (List.map Cc a3.Open))]]) J K3 Hn J J J J J (.cons (.cons (.same _) (.cons (.same _) (.cons (.same _) (.cons (.same _) (.cons (.same _) .nil))))) .nil) (fun x=>Tz x) J J<|Gb fun hl2=>P2 (e:=A9) (L:=l2) (L2:=[({ Name:=a3.Name,In:=a3.In,Volume:=0,Length:=a3.Length,Open:=a3.Open }:Segment)]) (v:=v4) (g:=g9) (st:=5) (j:=8) hI J J J J vH4 J (Ke J) K3 K3 J Hn J J J hl2 fun v5 g11 vH5=>Z (.ptr (ix ids 2) g2 0 3) J (B9 (By (c:=0) (off:=3) (i:=3) Ec J K3 J))<|Aq (Jj vH5 hI J J J J K3 J J J)<|Aa<|Aj ?_
  refine Bn<|O<|Ab 3 [] [(8,(.I (IntKind.wrap .i64 ((j2:Int)+1))))] ?_
  refine Aa<|Eh [(some (.rows g 8 [(Av a)])),(some (.rows g1 8 [[.emp,.emp,.emp,.emp,.emp,.emp,.emp,.emp]])),(some (.rows g2 8 [[(.sl 2 (List.map As a.Volumes)),v,v2,v5,.emp,(.sl 2 (List.map A6 a.Airports)),(.sl 4 (List.map Bx a.Classes)),.emp]])),none,(Ah v g3 5 (List.map A3 l)),none,(Ah v2 g6 3 (List.map Bf l1)),none,(Ah v5 g11 5 (List.map A9 (l2++[({ Name:=a3.Name,In:=a3.In,Volume:=0,Length:=a3.Length,Open:=a3.Open }:Segment)]))),none,none,none,none] hI J (.keep (.keep (.keep (.keep (.keep (.keep (.keep (.drop (.keep (.keep (.keep (.keep (.keep .nil)))))))))))))<|Bo (Q2 (hW2 (l2++[({ Name:=a3.Name,In:=a3.In,Volume:=0,Length:=a3.Length,Open:=a3.Open }:Segment)]) _ _ ⟨v5,g11,vH5,J,J⟩)) (.cons J (.cons J (.cons J (.cons (D1 (A5 ha3) hlim5) .nil))))
 rintro l2 fr h ⟨v4,g9,vH4,rfl,rfl⟩
 refine Y<|Y<|O<|Ab 3 [0] [(61,(.sl 5 (List.map A9 a.Segments))),(59,(.I (a.Segments.length:Int)))] ?_
 refine Z (.I (a.Segments.length:Int)) J (A0 (Bd K3))<|Z (.bool (decide ((a.Segments.length:Int)<(a.Segments.length:Int)))) J (Ba J J J)<|Aa<|C1 J (Int.lt_irrefl _)<|C7 J<|Y<|Y ?_
 refine O<|Z (.I 0) J Al<|Aa<|A8<|Ee [(1,(.q ids 0 g)),(2,(.q ids 1 g1)),(3,(.q ids 2 g2)),(10,(.I 0))] (FI J)<|G0 (P:=Tryz.prog) a.Routes (fun _ a4=>fun l3=>G2 a4 l3) (((fun l3=>(Ek (fun _ a5=>fun l4=>F8 a5 l4) 0 a.Rules []).bind ((fun l4=>.ok ({ Volumes:=a.Volumes,Sectors:=l,Configs:=l1,Segments:=l2,Routes:=l3,Airports:=a.Airports,Classes:=a.Classes,Rules:=l4 }:Airspace))))):(List Route)→R Airspace) (fun j3=>fun l3=>fun(fr:Nat→AV) (h:Ae) => ∃ (v6:AV),∃ (g12:Nat),Ay v6 (ix ids 10) g12 l3.length∧fr=A2 [(1,(.q ids 0 g)),(2,(.q ids 1 g1)),(3,(.q ids 2 g2)),(10,(.I (j3:Int)))]∧h=hp h0 ids [(some (.rows g 8 [(Av a)])),(some (.rows g1 8 [[.emp,.emp,.emp,.emp,.emp,.emp,.emp,.emp]])),(some (.rows g2 8 [[(.sl 2 (List.map As a.Volumes)),v,v2,v4,v6,(.sl 2 (List.map A6 a.Airports)),(.sl 4 (List.map Bx a.Classes)),.emp]])),none,(Ah v g3 5 (List.map A3 l)),none,(Ah v2 g6 3 (List.map Bf l1)),none,(Ah v4 g9 5 (List.map A9 l2)),none,(Ah v6 g12 7 (List.map Bp l3)),none,none]) [] ?_ ?_ ?_
 ·exact⟨.emp,0,.nil,J,J⟩
 ·rintro j3 a4 ha4 W hW3 l3 fr h ⟨v6,g12,vH6,rfl,rfl⟩
  refine Ak (m':=G2 a4 l3) J (Ak (G2.eq_1 _ _) ?_)
  refine Y<|Y<|O<|Ab 3 [0] [(80,(.sl 7 (List.map Bp a.Routes))),(78,(.I (j3:Int)))] ?_
  refine Z (.I (a.Routes.length:Int)) J (A0 (Bd K4))<|Z (.bool (decide ((j3:Int)<(a.Routes.length:Int)))) J (Ba J J J)<|Aa<|Eb (t:=80) (L:=a.Routes) J fun hlim7=>C0 J (Int.ofNat_lt.2 (A5 ha4))<|Az<|Y ?_
  refine A8<|Y<|O<|Ab 3 [0] [(87,(.I (j3:Int))),(86,(.sl 7 (List.map Bp a.Routes)))] ?_
  refine Z (.cp (Bp a4) 0) J (Bt (Dm K4 Gz J ha4))<|Z (.agg (Bp a4)) J (Au (Cp Gz J))<|Bc (j:=9) hI J J J J Gz J fun g13=>Aq (Ax (v:=(.agg (Bp a4))) hI J J J J Gz J J J J J)<|Aa<|Aj ?_
  refine Y<|O<|Z (.ptr (ix ids 9) g13 0 3) J (B9 (By (c:=0) (off:=3) (i:=3) Gz J Ds J))<|Aq (Ax (v:=(.I 0)) hI J J J J Ds J J J J J)<|Aa<|Aj ?_
  refine Y<|O<|Z (.ptr (ix ids 9) g13 0 4) J (B9 (By (c:=0) (off:=4) (i:=4) Gz J Ds J))<|Aq (Ax (v:=(.I 0)) hI J J J J Ds J J J J J)<|Aa<|Aj ?_
  refine Y<|O<|Z (.ptr (ix ids 9) g13 0 6) J (B9 (By (c:=0) (off:=6) (i:=6) Gz J Ok J))<|Aq (Ax (v:=.emp) hI J J J J Ok J J J J J)<|Aa<|Aj ?_
  refine O<|Ab 3 [2,9] [(95,(.agg [(.str a4.Name),(.str a4.A),(.str a4.B),(.I 0),(.I 0),(.sl 1 (List.map rS a4.Names)),.emp])),(94,v6)] ?_
  refine Dh (e:=Bp) (L:=[({ Name:=a4.Name,A:=a4.A,B:=a4.B,From:=0,To:=0,Names:=a4.Names,Segments:=[] }:Route)]) (st:=7) (rows:=[[(.str a4.Name),(.str a4.A),(.str a4.B),(.I 0),(.I 0),(.sl 1 (List.map rS a4.Names)),.emp]]) J K4 Gz J J J J J (.cons (.cons (.same _) (.cons (.same _) (.cons (.same _) (.cons (.same _) (.cons (.same _) (.cons (.same _) (.cons (.emp _) .nil))))))) .nil) (fun x=>Xm x) J J<|Gb fun hl3=>P2 (e:=Bp) (L:=l3) (L2:=[({ Name:=a4.Name,A:=a4.A,B:=a4.B,From:=0,To:=0,Names:=a4.Names,Segments:=[] }:Route)]) (v:=v6) (g:=g12) (st:=7) (j:=10) hI J J J J vH6 J (Ke J) K4 K4 J Gz J J J hl3 fun v7 g14 vH7=>Z (.ptr (ix ids 2) g2 0 4) J (B9 (By (c:=0) (off:=4) (i:=4) Ec J K4 J))<|Aq (Jj vH7 hI J J J J K4 J J J)<|Aa<|Aj ?_
  refine Bn<|O<|Ab 3 [] [(10,(.I (IntKind.wrap .i64 ((j3:Int)+1))))] ?_
  refine Aa<|Eh [(some (.rows g 8 [(Av a)])),(some (.rows g1 8 [[.emp,.emp,.emp,.emp,.emp,.emp,.emp,.emp]])),(some (.rows g2 8 [[(.sl 2 (List.map As a.Volumes)),v,v2,v4,v7,(.sl 2 (List.map A6 a.Airports)),(.sl 4 (List.map Bx a.Classes)),.emp]])),none,(Ah v g3 5 (List.map A3 l)),none,(Ah v2 g6 3 (List.map Bf l1)),none,(Ah v4 g9 5 (List.map A9 l2)),none,(Ah v7 g14 7 (List.map Bp (l3++[({ Name:=a4.Name,A:=a4.A,B:=a4.B,From:=0,To:=0,Names:=a4.Names,Segments:=[] }:Route)]))),none,none] hI J (.keep (.keep (.keep (.keep (.keep (.keep (.keep (.keep (.keep (.drop (.keep (.keep (.keep .nil)))))))))))))<|Bo (Q2 (hW3 (l3++[({ Name:=a4.Name,A:=a4.A,B:=a4.B,From:=0,To:=0,Names:=a4.Names,Segments:=[] }:Route)]) _ _ ⟨v7,g14,vH7,J,J⟩)) (.cons J (.cons J (.cons J (.cons (D1 (A5 ha4) hlim7) .nil))))
 rintro l3 fr h ⟨v6,g12,vH6,rfl,rfl⟩
 refine Y<|Y<|O<|Ab 3 [0] [(80,(.sl 7 (List.map Bp a.Routes))),(78,(.I (a.Routes.length:Int)))] ?_
 refine Z (.I (a.Routes.length:Int)) J (A0 (Bd K4))<|Z (.bool (decide ((a.Routes.length:Int)<(a.Routes.length:Int)))) J (Ba J J J)<|Aa<|C1 J (Int.lt_irrefl _)<|C7 J<|Y<|Y ?_
 refine O<|Z (.I 0) J Al<|Aa<|A8<|Ee [(1,(.q ids 0 g)),(2,(.q ids 1 g1)),(3,(.q ids 2 g2)),(12,(.I 0))] (FI J)<|G0 (P:=Tryz.prog) a.Rules (fun _ a5=>fun l4=>F8 a5 l4) (((fun l4=>.ok ({ Volumes:=a.Volumes,Sectors:=l,Configs:=l1,Segments:=l2,Routes:=l3,Airports:=a.Airports,Classes:=a.Classes,Rules:=l4 }:Airspace))):(List Rule)→R Airspace) (fun j4=>fun l4=>fun(fr:Nat→AV) (h:Ae) => ∃ (v8:AV),∃ (g15:Nat),Ay v8 (ix ids 12) g15 l4.length∧fr=A2 [(1,(.q ids 0 g)),(2,(.q ids 1 g1)),(3,(.q ids 2 g2)),(12,(.I (j4:Int)))]∧h=hp h0 ids [(some (.rows g 8 [(Av a)])),(some (.rows g1 8 [[.emp,.emp,.emp,.emp,.emp,.emp,.emp,.emp]])),(some (.rows g2 8 [[(.sl 2 (List.map As a.Volumes)),v,v2,v4,v6,(.sl 2 (List.map A6 a.Airports)),(.sl 4 (List.map Bx a.Classes)),v8]])),none,(Ah v g3 5 (List.map A3 l)),none,(Ah v2 g6 3 (List.map Bf l1)),none,(Ah v4 g9 5 (List.map A9 l2)),none,(Ah v6 g12 7 (List.map Bp l3)),none,(Ah v8 g15 8 (List.map A7 l4))]) [] ?_ ?_ ?_
 ·exact⟨.emp,0,.nil,J,J⟩
 ·rintro j4 a5 ha5 W hW4 l4 fr h ⟨v8,g15,vH8,rfl,rfl⟩
  refine Ak (m':=F8 a5 l4) J (Ak (F8.eq_1 _ _) ?_)
  refine Y<|Y<|O<|Ab 3 [0] [(101,(.sl 8 (List.map A7 a.Rules))),(99,(.I (j4:Int)))] ?_
  refine Z (.I (a.Rules.length:Int)) J (A0 (Bd E1))<|Z (.bool (decide ((j4:Int)<(a.Rules.length:Int)))) J (Ba J J J)<|Aa<|Eb (t:=101) (L:=a.Rules) J fun hlim9=>C0 J (Int.ofNat_lt.2 (A5 ha5))<|Az<|Y ?_
  refine A8<|Y<|O<|Ab 3 [0] [(108,(.I (j4:Int))),(107,(.sl 8 (List.map A7 a.Rules)))] ?_
  refine Z (.cp (A7 a5) 0) J (Bt (Dm E1 Do J ha5))<|Z (.agg (A7 a5)) J (Au (Cp Do J))<|Bc (j:=11) hI J J J J Do J fun g16=>Aq (Ax (v:=(.agg (A7 a5))) hI J J J J Do J J J J J)<|Aa<|Aj ?_
  refine Y<|O<|Z (.ptr (ix ids 11) g16 0 3) J (B9 (By (c:=0) (off:=3) (i:=3) Do J Ds J))<|Aq (Ax (v:=(.I 0)) hI J J J J Ds J J J J J)<|Aa<|Aj ?_
  refine Y<|O<|Z (.ptr (ix ids 11) g16 0 4) J (B9 (By (c:=0) (off:=4) (i:=4) Do J Ds J))<|Aq (Ax (v:=(.I 0)) hI J J J J Ds J J J J J)<|Aa<|Aj ?_
  refine O<|Ab 3 [2,11] [(115,(.agg [(.I a5.Kind),(.str a5.C),(.str a5.A),(.I 0),(.I 0),(.I a5.N),(.I a5.Hours.From),(.I a5.Hours.To)])),(114,v8)] ?_
  refine Dh (e:=A7) (L:=[({ Kind:=a5.Kind,C:=a5.C,A:=a5.A,Class:=0,Airport:=0,N:=a5.N,Hours:=a5.Hours }:Rule)]) (st:=8) (rows:=[[(.I a5.Kind),(.str a5.C),(.str a5.A),(.I 0),(.I 0),(.I a5.N),(.I a5.Hours.From),(.I a5.Hours.To)]]) J E1 Do J J J J J (.cons (.cons (.same _) (.cons (.same _) (.cons (.same _) (.cons (.same _) (.cons (.same _) (.cons (.same _) (.cons (.same _) (.cons (.same _) .nil)))))))) .nil) (fun x=>Se x) J J<|Gb fun hl4=>P2 (e:=A7) (L:=l4) (L2:=[({ Kind:=a5.Kind,C:=a5.C,A:=a5.A,Class:=0,Airport:=0,N:=a5.N,Hours:=a5.Hours }:Rule)]) (v:=v8) (g:=g15) (st:=8) (j:=12) hI J J J J vH8 J (Ke J) E1 E1 J Do J J J hl4 fun v9 g17 vH9=>Z (.ptr (ix ids 2) g2 0 7) J (B9 (By (c:=0) (off:=7) (i:=7) Ec J E1 J))<|Aq (Jj vH9 hI J J J J E1 J J J)<|Aa<|Aj ?_
  refine Bn<|O<|Ab 3 [] [(12,(.I (IntKind.wrap .i64 ((j4:Int)+1))))] ?_
  refine Aa<|Eh [(some (.rows g 8 [(Av a)])),(some (.rows g1 8 [[.emp,.emp,.emp,.emp,.emp,.emp,.emp,.emp]])),(some (.rows g2 8 [[(.sl 2 (List.map As a.Volumes)),v,v2,v4,v6,(.sl 2 (List.map A6 a.Airports)),(.sl 4 (List.map Bx a.Classes)),v9]])),none,(Ah v g3 5 (List.map A3 l)),none,(Ah v2 g6 3 (List.map Bf l1)),none,(Ah v4 g9 5 (List.map A9 l2)),none,(Ah v6 g12 7 (List.map Bp l3)),none,(Ah v9 g17 8 (List.map A7 (l4++[({ Kind:=a5.Kind,C:=a5.C,A:=a5.A,Class:=0,Airport:=0,N:=a5.N,Hours:=a5.Hours }:Rule)])))] hI J (.keep (.keep (.keep (.keep (.keep (.keep (.keep (.keep (.keep (.keep (.keep (.drop (.keep .nil)))))))))))))<|Bo (Q2 (hW4 (l4++[({ Kind:=a5.Kind,C:=a5.C,A:=a5.A,Class:=0,Airport:=0,N:=a5.N,Hours:=a5.Hours }:Rule)]) _ _ ⟨v9,g17,vH9,J,J⟩)) (.cons J (.cons J (.cons J (.cons (D1 (A5 ha5) hlim9) .nil))))
 rintro l4 fr h ⟨v8,g15,vH8,rfl,rfl⟩
 refine Y<|Y<|O<|Ab 3 [0] [(101,(.sl 8 (List.map A7 a.Rules))),(99,(.I (a.Rules.length:Int)))] ?_
 refine Z (.I (a.Rules.length:Int)) J (A0 (Bd E1))<|Z (.bool (decide ((a.Rules.length:Int)<(a.Rules.length:Int)))) J (Ba J J J)<|Aa<|C1 J (Int.lt_irrefl _)<|C7 J<|Y<|O ?_
 refine Ab 1 [2] [(119,(.agg [(.sl 2 (List.map As a.Volumes)),v,v2,v4,v6,(.sl 2 (List.map A6 a.Airports)),(.sl 4 (List.map Bx a.Classes)),v8]))] ?_
 refine Aq (Ax (v:=(.agg [(.sl 2 (List.map As a.Volumes)),v,v2,v4,v6,(.sl 2 (List.map A6 a.Airports)),(.sl 4 (List.map Bx a.Classes)),v8])) hI J J J J Ec J J J J (Cz J (Cz (Ay.flat vH) (Cz (Ay.flat vH2) (Cz (Ay.flat vH4) (Cz (Ay.flat vH6) (Cz J (Cz J (Cz (Ay.flat vH8) Xu)))))))))<|Aa<|Aj ?_
 exact Bs (a:=({ Volumes:=a.Volumes,Sectors:=l,Configs:=l1,Segments:=l2,Routes:=l3,Airports:=a.Airports,Classes:=a.Classes,Rules:=l4 }:Airspace)) (vs:=[(.agg [(.sl 2 (List.map As a.Volumes)),v,v2,v4,v6,(.sl 2 (List.map A6 a.Airports)),(.sl 4 (List.map Bx a.Classes)),v8])]) Tryz.func15 hI (Dt (Be hI J J J Ec J) Fi) (.aggL (.cons (.same _) (.cons (Fo vH (hI.at J J) (hI.out J) (fun x=>Rn x)) (.cons (Fo vH2 (hI.at J J) (hI.out J) (fun x=>Vg x)) (.cons (Fo vH4 (hI.at J J) (hI.out J) (fun x=>Tz x)) (.cons (Fo vH6 (hI.at J J) (hI.out J) (fun x=>Xm x)) (.cons (.same _) (.cons (.same _) (.cons (Fo vH8 (hI.at J J) (hI.out J) (fun x=>Se x)) .nil)))))))))
theorem Aau (src:Ar):CP Tryz.prog 5 [(.str src)] (Pk src) (fun(x:Bool)=>(AV.bool x)):=by
 refine C3 (n:=63) 2 Tryz.func5 J (by decide) J J fun h0 ids hI=>Bm (Ak (Pk.eq_1 _) ?_)
 refine Y<|O<|Z (.bool false) J Al<|Aa<|Y<|Y<|O ?_
 refine Bz [] J J J J ((Agk) _) (fun v _=>Cj Tryz.func5 hI) fun r _=>Z (.bool (!r)) J (Q7 J)<|Aa<|Ei J (fun hc=>?_) (fun hc=>?_)
 ·refine Az<|Y<|Y<|O<|Z (.str src) J Ad<|Z (.I (src.length:Int)) J (A0 (Md Cy))<|Z (.bool (decide ((src.length:Int) > 4000))) J (Ba J J J) ?_
  refine Aa<|Qv J (fun hc1=>?_) (fun hc1=>?_)
  ·refine Y<|O<|Z (.bool true) J Al<|Aa<|Bs (a:=true) (vs:=[(.bool true)]) Tryz.func5 hI J (.same _)
  refine Az<|Y<|O<|Z (.str src) J Ad<|Bz [(.str src)] J J J J ((K9 src) _) (fun v _=>Cj Tryz.func5 hI) fun r1 _=>Ab 4 [] [(21,(.I r1.2.2)),(20,(.I r1.2.1)),(19,(.agg (Av r1.1)))] ?_
  refine Bc (j:=0) hI J J J J Ec J fun g=>Aq (Ax (v:=(.agg (Av r1.1))) hI J J J J Ec J J J J J)<|Ab 2 [] [(5,(.I r1.2.2)),(4,(.I r1.2.1))] ?_
  refine Aa<|Aj ?_
  refine Y<|Y<|O<|Ab 2 [] [(23,(.bool (r1.2.2 != 0)))] ?_
  refine Aa<|Cd J (fun hc2=>?_) (fun hc2=>?_)
  ·refine Y<|O<|Ab 2 [0] [(25,(.agg [.emp,.emp,.emp,.emp,.emp,.emp,.emp,.emp])),(24,(.agg (Av r1.1)))] ?_
   refine Bz [(.agg (Av r1.1)),(.agg [.emp,.emp,.emp,.emp,.emp,.emp,.emp,.emp])] J J J J (fun hb=>Bh.weak (.cons (.same _) (.cons (.aggL (.cons (.emp _) (.cons (.emp _) (.cons (.emp _) (.cons (.emp _) (.cons (.emp _) (.cons (.emp _) (.cons (.emp _) (.cons (.emp _) .nil))))))))) .nil)) ((Qp r1.1 ({ Volumes:=[],Sectors:=[],Configs:=[],Segments:=[],Routes:=[],Airports:=[],Classes:=[],Rules:=[] }:Airspace)) _ hb)) (fun v _=>Cj Tryz.func5 hI) fun r2 _=>Z (.bool r2) J Al<|Aa<|Bs (a:=r2) (vs:=[(.bool r2)]) Tryz.func5 hI J (.same _)
  refine Az<|Y<|O<|Ab 1 [0] [(28,(.agg (Av r1.1)))] ?_
  refine Bz [(.agg (Av r1.1))] J J J J ((Q5 r1.1) _) (fun v _=>Cj Tryz.func5 hI) fun r3 _=>Ab 5 [] [(7,(.I r3.2)),(6,(.str r3.1))] ?_
  refine Aa<|Y<|Y<|Ed (fun x=>Jf r1 r3 x) (fun x=>fun(fr:Nat→AV) (h:Ae)=>fr=A2 [(3,(.q ids 0 g)),(6,(.str r3.1)),(44,(.bool x))]∧h=hp h0 ids [(some (.rows g 8 [(Av r1.1)])),none]) ?_ fun hJ2=>?_
  ·rintro x fr h ⟨rfl,rfl⟩
   refine Ak (Jf.eq_1 _ _ _)<|Cd J (fun hc3=>?_) (fun hc3=>?_)
   ·refine Y<|O<|Z (.bool false) J Al<|Aa<|Bs (a:=false) (vs:=[(.bool false)]) Tryz.func5 hI J (.same _)
   refine Az<|Y<|O<|Z (.str r3.1) J Ad<|Bz [(.str r3.1)] J J J J ((K9 r3.1) _) (fun v _=>Cj Tryz.func5 hI) fun r6 _=>Ab 4 [] [(50,(.I r6.2.2)),(49,(.I r6.2.1)),(48,(.agg (Av r6.1)))] ?_
   refine Bc (j:=1) hI J J J J Ec J fun g1=>Aq (Ax (v:=(.agg (Av r6.1))) hI J J J J Ec J J J J J)<|Ab 2 [] [(10,(.I r6.2.2))] ?_
   refine Aa<|Aj ?_
   refine Y<|O<|Z (.str r3.1) J Ad<|Z (.I (r3.1.length:Int)) J (A0 (Md Cy))<|Ab 2 [] [(54,(.bool (decide ((r3.1.length:Int) > 65536))))] ?_
   refine Dk 8 ((fun(b:Bool)=>.ok b):Bool→R Bool) (fun(b:Bool) (fr:Nat→AV) (h:Ae)=>fr=A2 [(62,(.bool b))]∧h=hp h0 ids [(some (.rows g 8 [(Av r1.1)])),(some (.rows g1 8 [(Av r6.1)]))]) ?_ fun hJ=>D7 (fun hb3=>?_) (fun hb3=>?_)
   ·rintro b fr h ⟨rfl,rfl⟩
    refine Z (.bool b) J Al<|Aa<|Bs (a:=b) (vs:=[(.bool b)]) Tryz.func5 hI J (.same _)
   ·refine A4 (t:=54) hb3 J<|Ab 8 [] [(62,(.bool true))] ?_
    refine Bj<|Ch [(62,(.bool true))] (FI J)<|hJ true _ _ ⟨J,J⟩
   refine A4 (t:=54) hb3 J<|Ab 3 [] [(57,(.bool (r6.2.2==0)))] ?_
   refine Dk 4 ((fun(b1:Bool)=>R.ok b1):Bool→R Bool) (fun(b1:Bool) (fr:Nat→AV) (h:Ae)=>fr=A2 [(54,(.bool false)),(61,(.bool b1))]∧h=hp h0 ids [(some (.rows g 8 [(Av r1.1)])),(some (.rows g1 8 [(Av r6.1)]))]) ?_ fun hJ1=>D7 (fun hb5=>?_) (fun hb5=>?_)
   ·rintro b1 fr h ⟨rfl,rfl⟩
    refine Z (.bool b1) J (Ep (t:=false) J J)<|Bj<|Ch [(62,(.bool b1))] (FI J)<|hJ b1 _ _ ⟨J,J⟩
   ·refine A4 (t:=57) hb5 J<|Ab 2 [1,0] [(59,(.agg (Av r1.1))),(58,(.agg (Av r6.1)))] ?_
    refine Bz [(.agg (Av r6.1)),(.agg (Av r1.1))] J (Co (tj:=57) J J) J J ((Qp r6.1 r1.1) _) (fun v _=>Cj Tryz.func5 hI) fun r7 _=>B0 (tj:=54) (.bool r7) J J J (Ep (t:=true) J J)<|Bj<|Ch [(54,(.bool false)),(61,(.bool r7))] (FI J)<|hJ1 r7 _ _ ⟨J,J⟩
   refine A4 (t:=57) hb5 J<|Ab 4 [] [(61,(.bool false))] ?_
   refine Bj<|Ch [(54,(.bool false)),(61,(.bool false))] (FI J)<|hJ1 false _ _ ⟨J,J⟩
  refine Di Gg [[],[0],[0,1],[0,1,2],[0,1,2,3],[0,1,2,3,4],[0,1,2,3,4,5],[0,1,2,3,4,5,6],[0,1,2,3,4,5,6],[0,1,2,3,4,5,6,8],[0,1,2,3,4,5,6,7,8,9],[0,1,2,3,4,5,6,7,8,9,10],[0,1,2,3,4,5,6,7,8,9,10,11]] [(false,0),(false,1),(false,2),(false,3),(false,4),(false,5),(false,6),(false,7),(false,8),(true,9),(true,10),(false,11),(false,12)] (by kernel_rfl)<|Ag (.I r1.2.1) J J Ad<|Ag (.bool (r1.2.1 != 0)) J J (Ba J J J)<|Ag (.bool (r1.2.1 != 0)) J J Ad<|Lq (fun hb=>?_) (fun hb=>?_)
  ·refine Gw (tj:=34) (b:=true) J J (congrArg AV.bool hb) J J<|Gw (tj:=34) (b:=true) J J (congrArg AV.bool hb) J J<|Ag (.bool true) J J (Ep (t:=true) (congrArg AV.bool hb) J)<|Ag (.bool true) J J Ad<|Gw (tj:=38) (b:=true) J J J J J<|Gw (tj:=38) (b:=true) J J J J J<|Zv (tj:=38) (b:=true) J J J J J ?_
   refine Zv (tj:=38) (b:=true) J J J J J<|Gw (tj:=38) (b:=true) J J J J J<|Ag (.bool true) J J (Ep (t:=true) J J)<|Ct<|Bo (hJ2 true _ _ ⟨J,J⟩)
  refine Gm (tj:=34) (.I r3.2) J J (congrArg AV.bool hb) J Ad<|Gm (tj:=34) (.bool (r3.2 != 0)) J J (congrArg AV.bool hb) J (Ba J J J)<|Ag (.bool (r3.2 != 0)) J J (Ep (t:=false) (congrArg AV.bool hb) J)<|Ag (.bool (r3.2 != 0)) J J Ad<|Lq (fun hb1=>?_) (fun hb1=>?_)
  ·refine Gw (tj:=38) (b:=true) J J (congrArg AV.bool hb1) J J<|Gw (tj:=38) (b:=true) J J (congrArg AV.bool hb1) J J<|Zv (tj:=38) (b:=true) J J (congrArg AV.bool hb1) J J<|Zv (tj:=38) (b:=true) J J (congrArg AV.bool hb1) J J<|Gw (tj:=38) (b:=true) J J (congrArg AV.bool hb1) J J<|Ag (.bool true) J J (Ep (t:=true) (congrArg AV.bool hb1) J)<|Ct ?_
   exact Bo (hJ2 true _ _ ⟨J,J⟩)
  refine Gm (tj:=38) (.agg (Av r1.1)) J J (congrArg AV.bool hb1) J (Au (Be hI J J J Ec J))<|Gm (tj:=38) (.agg (Av r1.1)) J J (congrArg AV.bool hb1) J (Au (Be hI J J J Ec J))<|W7 [(.agg (Av r1.1))] J (Co (tj:=38) J (congrArg AV.bool hb1)) J J J ((Aa9 r1.1) _) (fun v _ _ _=>Cj Tryz.func5 hI) (Af J (Ano (tj:=38) J J (congrArg AV.bool hb1) (Au (Be hI J J J Ec J)) (Af J (Af J (Af J (Af J (Af J (Af J (Af J Bw))))))))) fun r4 _=>W7 [(.agg (Av r1.1)),(.agg (Av r4))] J (Co (tj:=38) J (congrArg AV.bool hb1)) J J J ((Qp r1.1 r4) _) (fun v _ _ _=>Cj Tryz.func5 hI) (Af J (Af J (Af J (Af J (Af J (Af J (Af J (Af J (Af J Bw))))))))) fun r5 _=>Gm (tj:=38) (.bool (!r5)) J J (congrArg AV.bool hb1) J (Q7 J)<|Ag (.bool (!r5)) J J (Ep (t:=false) (congrArg AV.bool hb1) J)<|Ct ?_
  exact Bo (hJ2 (!r5) _ _ ⟨J,J⟩)
 refine Y<|O<|Z (.bool false) J Al<|Aa<|Bs (a:=false) (vs:=[(.bool false)]) Tryz.func5 hI J (.same _)
end Go.Am
namespace Go.Am
open Go Go.Proofs
set_option maxRecDepth 100000
set_option maxHeartbeats 4000000
set_option linter.unusedSimpArgs false
set_option linter.unusedVariables false
end Go.Am
namespace Go.Proofs.YtjidhdlbojmlfaaGreatDoor.laws
open Go Go.Am Go.ChangeShapes Go.WideShapes Go.ChangeAt Go.RowKit
set_option maxRecDepth 100000
set_option linter.unusedVariables false
set_option linter.unusedSimpArgs false
theorem own:ownKnob Tryz.prog.godebug=none:=by kernel_rfl
theorem Aqd:laidOutB Tryz.prog=true:=by kernel_rfl
def Ap6:DataW Unit:=match (Rows.laid_overflight_syntax_definitions:DataW Unit) with
 | .iface _ d=>d
 | d=>d
theorem Ash {W : World} (h0 : laidMetH Tryz.prog [("math/bits.deBruijn32tab", Rows.laid_math_bits_deBruijn32tab), ("math/bits.deBruijn64tab", Rows.laid_math_bits_deBruijn64tab), ("internal/strconv.uint64pow10", Rows.laid_internal_strconv_uint64pow10), ("strconv.ErrRange", Rows.laid_strconv_ErrRange), ("strconv.ErrSyntax", Rows.laid_strconv_ErrSyntax), ("overflight/syntax.definitions", Rows.laid_overflight_syntax_definitions)] W) : GW.n Tryz.prog ≤ W.heap.size ∧ GW.G Tryz.prog W.heap.size W := by
 have h := (laidMetH_iff.1 h0).1
 rw [show (List.filter (fun x => x.2.handleName?.isNone) [("math/bits.deBruijn32tab", Rows.laid_math_bits_deBruijn32tab), ("math/bits.deBruijn64tab", Rows.laid_math_bits_deBruijn64tab), ("internal/strconv.uint64pow10", Rows.laid_internal_strconv_uint64pow10), ("strconv.ErrRange", Rows.laid_strconv_ErrRange), ("strconv.ErrSyntax", Rows.laid_strconv_ErrSyntax), ("overflight/syntax.definitions", Rows.laid_overflight_syntax_definitions)]) = [("math/bits.deBruijn32tab", Rows.laid_math_bits_deBruijn32tab), ("math/bits.deBruijn64tab", Rows.laid_math_bits_deBruijn64tab), ("internal/strconv.uint64pow10", Rows.laid_internal_strconv_uint64pow10), ("strconv.ErrRange", Rows.laid_strconv_ErrRange), ("strconv.ErrSyntax", Rows.laid_strconv_ErrSyntax)] by kernel_rfl] at h
 have hn := Ati (g := 6) (by kernel_rfl) (Lib.laidMet.reads h (n := "math/bits.deBruijn64tab") (d := Rows.laid_math_bits_deBruijn64tab) (by repeat (first | exact List.mem_cons_self .. | apply List.mem_cons_of_mem)))
 exact ⟨hn, ⟨(Afm (g := 2) (t := 169) (by kernel_rfl) (by kernel_rfl) Tryz.underlying169 (Lib.laidMet.reads h (n := "strconv.ErrRange") (d := Rows.laid_strconv_ErrRange) (by repeat (first | exact List.mem_cons_self .. | apply List.mem_cons_of_mem)))), (Afm (g := 1) (t := 169) (by kernel_rfl) (by kernel_rfl) Tryz.underlying169 (Lib.laidMet.reads h (n := "strconv.ErrSyntax") (d := Rows.laid_strconv_ErrSyntax) (by repeat (first | exact List.mem_cons_self .. | apply List.mem_cons_of_mem)))), (Aru (g := 4) (t := 210) (by kernel_rfl) (by kernel_rfl) Tryz.underlying210 Tryz.underlying193 (by kernel_rfl) (by kernel_rfl) (Lib.laidMet.reads h (n := "internal/strconv.uint64pow10") (d := Rows.laid_internal_strconv_uint64pow10) (by repeat (first | exact List.mem_cons_self .. | apply List.mem_cons_of_mem))))⟩, Arf (d := Ap6) (l := Ph) (laidMetH.funcs h0 (n := "overflight/syntax.definitions") (d := Ap6) (by repeat (first | exact List.mem_cons_self .. | apply List.mem_cons_of_mem))) (by kernel_rfl) (by kernel_rfl) (by kernel_rfl) Tryz.underlying142 Tryz.underlying9 Tryz.underlying140 (by kernel_rfl) (by decide +kernel)⟩
theorem rd9:Tryz.prog.readableRec 9=true∧9<Tryz.prog.types.size:=by decide +kernel
theorem Aos {H:Type}:Bulk (H:=H) Rows.uptoBulk Rows.uptoBulkAll:=⟨fun d=>by cases d with | lit l=>cases l <;> simp [Rows.uptoBulk] | _=>simp [Rows.uptoBulk],fun l=>by simp [Rows.uptoBulk],fun e s=>by simp only [Rows.uptoBulk]; omega,fun l=>by simp [Rows.uptoBulk],by simp [Rows.uptoBulkAll],fun d l=>by simp [Rows.uptoBulkAll]⟩
theorem on9:Ap9 Tryz.prog 9 Ah9:=Al9 Tryz.underlying9
end Go.Proofs.YtjidhdlbojmlfaaGreatDoor.laws
