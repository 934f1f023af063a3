/- Written by shrink.py from texts of ours: comments struck, what is not reached left out, names short. -/
import Derived.Test.YtjidhdlbojmlfaaGreatDoorU5
namespace Go.Am
open Go Go.Proofs
set_option maxRecDepth 100000
set_option maxHeartbeats 4000000
set_option linter.unusedSimpArgs false
set_option linter.unusedVariables false
theorem Tr (most:Int)(s0_l:List Token)(s0_end:Int)(l:List Volume)(l1:List Sector)(h0:Ae)(o0:Nat)(o1:Nat)(o2:Nat)(o3:Nat)(w:AV)(w1:AV)(w2:AV)(w3:AV)(w4:AV)(w5:AV)(g:Nat)(v1:AV)(g1:Nat)(v2:AV)(g2:Nat)(g3:Nat)(vH:Az v1 o1 g1 l.length)(vH1:Az v2 o2 g2 l1.length)(hI0:Ids h0 [o0,o1,o2,o3] 4):Gp most s0_l s0_end l l1≠.bad→Bh Tryz.prog 173 [(.ptr o0 g 0 0),(.ptr o0 g 0 3),(.int .i64 most),(.func (.func 174) [] [(.ptr o3 g3 0 0)])] (hp h0 [o0,o1,o2,o3] [some (.rows g 10 [[(.sl 4 (List.map Ab s0_l)),(.int .i64 s0_end),v1,v2,w,w1,w2,w3,w4,w5]]),Ai v1 g1 2 (List.map Ar l),Ai v2 g2 5 (List.map A8 l1),some (.rows g3 1 [[(.ptr o0 g 0 0)]])]) (Ce (fun a_ v h' => ∃ (v4:AV),∃ (g6:Nat),Az v4 o2 g6 a_.2.length∧v=(.tup [])∧h'=hp h0 [o0,o1,o2,o3] [some (.rows g 10 [[(.sl 4 (List.map Ab a_.1)),(.int .i64 s0_end),v1,v4,w,w1,w2,w3,w4,w5]]),Ai v1 g1 2 (List.map Ar l),Ai v4 g6 5 (List.map A8 a_.2),some (.rows g3 1 [[(.ptr o0 g 0 0)]])]) h0 (Gp most s0_l s0_end l l1)):=by
 refine A6 (n:=39) 1 Tryz.func173 J (by decide) J J hI0 J fun ids he hI=>?_
 clear hI0
 obtain rfl:ix ids 0=o0:=he 0 rfl
 obtain rfl:ix ids 1=o1:=he 1 rfl
 obtain rfl:ix ids 2=o2:=he 2 rfl
 obtain rfl:ix ids 3=o3:=he 3 rfl
 clear he
 refine Bk (Al (Gp.eq_1 _ _ _ _ _) ?_)
 refine Aj ?_
 refine Y<|Y<|O<|Ac 3 [0] [(11,v2)] ?_
 refine Aa (.I (l1.length:Int)) J (A3 (Az.len vH1 Lb))<|Ac 2 [] [(14,(.bool ((l1.length:Int)==most)))] ?_
 refine Z<|Dv (π:=Unit) (fun _=>G0 s0_l s0_end l l1) (fun _=>fun(fr:Nat→AV) (h:Ae)=>fr=A2 [(0,(.q ids 0 g)),(1,(.ptr (ix ids 0) g 0 3)),(3,(.func (.func 174) [] [(.q ids 3 g3)]))]∧h=hp h0 ids [(some (.rows g 10 [[(.sl 4 (List.map Ab s0_l)),(.I s0_end),v1,v2,w,w1,w2,w3,w4,w5]])),(Ai v1 g1 2 (List.map Ar l)),(Ai v2 g2 5 (List.map A8 l1)),(some (.rows g3 1 [[(.q ids 0 g)]])),none]) ?_ fun hJ=>?_
 ·rintro _ fr h ⟨rfl,rfl⟩
  refine Al (G0.eq_1 _ _ _ _)<|Y<|O<|Ac 5 [0] [(21,(.sl 4 (List.map Ab s0_l))),(17,(.q ids 0 g))] ?_
  refine Gb fun hs=>Aa (.sl 4 (List.map Ab (s0_l.drop 1))) J (Fg (Lw Ci Cp J hs))<|Ac 2 [] [(24,(.q ids 0 g))] ?_
  refine Aq (Aw (v:=(.sl 4 (List.map Ab (s0_l.drop 1)))) hI J J J J Ci J J J J J)<|Z<|Aj ?_
  refine Y<|O<|Ac 2 [] [(26,(.q ids 0 g)),(25,(.func (.func 174) [] [(.q ids 3 g3)]))] ?_
  refine Ak [0] hI J J (Cj (s0_l.drop 1) s0_end _ (ix ids 0) v1 v2 w w1 w2 w3 w4 w5 g (by exact hI.sub' J J)) J J J J J J (fun v _=>Ao (K:=4) (N:=1) Tryz.func173 hI) ?_
  rintro r1 _ _ _ ⟨rfl,rfl⟩
  refine Au [0] hI J J J ?_
  refine Ap<|Ak [3,0,1] hI J J (Q7 r1 ((s0_l.drop 1).drop 1) s0_end l _ (ix ids 3) (ix ids 0) (ix ids 1) g3 v2 w w1 w2 w3 w4 w5 g v1 g1 vH (by exact hI.sub' J J)) J J J J J J (fun v _=>Ao (K:=4) (N:=1) Tryz.func173 hI) ?_
  rintro r2 _ _ _ ⟨rfl,rfl⟩
  refine Au [3,0,1] hI J J J ?_
  refine Ap<|Bb (j:=4) hI J J J J Gr J fun g4=>Aq (Aw (v:=(.agg (A8 r2.1))) hI J J J J Gr J J J J J)<|Z<|Aj ?_
  refine Y<|O<|Aa (.q ids 0 g) J Ad<|Ak [0] hI J J (Cn [59] r2.2 s0_end _ (ix ids 0) v1 v2 w w1 w2 w3 w4 w5 g (by exact hI.sub' J J)) J J J J J J (fun v _=>Ao (K:=4) (N:=1) Tryz.func173 hI) ?_
  rintro _ _ _ _ ⟨rfl,rfl⟩
  refine Au [0] hI J J J ?_
  refine Ap<|Z<|Aj ?_
  refine C2 Fa [[],[],[1],[1,2],[],[4],[1,2,3,4,5],[0,0,1,2,3,4,5,6],[0,1,2,3,4,5,6,6,6,7]] [(false,0),(false,1),(false,2),(false,3),(false,4),(true,5),(true,6),(false,7),(true,8)] (by kernel_rfl)<|Ag (.ptr (ix ids 0) g 0 3) J J Ad<|Ag (.ptr (ix ids 0) g 0 3) J J Ad<|Ag (.ptr (ix ids 0) g 0 3) J J (Bg J)<|Ag v2 J J (As (Ba hI J J J Lb J))<|Ag (.agg (A8 r2.1)) J J (As (Ba hI J J J Gr J))<|Hj J J (fun _ _=>J) (fun K hK=>Kx (e:=A8) (L:=[r2.1]) (st:=5) (rows:=[[(.str r2.1.Name),(.sl 1 (List.map rS r2.1.Names)),(.sl 1 (List.map (rI .i64) r2.1.Volumes)),(.I r2.1.Radar),(.I r2.1.Procedural)]]) Lb Gr J J J J J (.cons (RowSim.refl _) .nil) (fun x=>Sm x) J J (hK _ _ (Af J (Bp J (As (Ba hI J J J Lb J)) (Bp J (Bg J) (Bp J Ad (Bp J Ad Bw))))) ?_))
  clear hK K
  refine Jg fun hl=>Hj J J (fun _ _=>J) (fun K hK=>Gx (e:=A8) (L:=l1) (L2:=[r2.1]) (v:=v2) (g:=g2) (st:=5) (j:=2) hI J J J vH1 J (Lv J) Lb Lb J Gr J J J hl fun v3 g5 vH2=>hK _ _ (Af J (Af J (Af J (Af J (Bp J Ad Bw))))) ?_)
  clear hK K
  refine Ag (.ptr (ix ids 0) g 0 3) J J (Bg J)<|Fk J (fun _ _=>J) (fun K hK=>Dj (Lm vH2 hI J J J J Lb J J J) (hK _ _ (Af J (Af J (Af J (Af J (Af J (Af J Bw)))))) ?_))
  clear hK K
  refine Cl<|Aj ?_
  exact B2 (K:=4) (N:=1) (a:=((r2.2.drop 1),(l1++[r2.1]))) (vs:=[]) [some (.rows g 10 [[(.sl 4 (List.map Ab (r2.2.drop 1))),(.I s0_end),v1,v3,w,w1,w2,w3,w4,w5]]),Ai v1 g1 2 (List.map Ar l),Ai v3 g5 5 (List.map A8 (l1++[r2.1])),some (.rows g3 1 [[(.q ids 0 g)]])] Tryz.func173 hI J J J (.keep (.keep (.keep (.keep (.drop .nil))))) (.same _) ⟨v3,g5,vH2,J,J⟩
 refine B3 J (fun hc=>?_) (fun hc=>?_)
 ·refine O<|Aa (.q ids 0 g) J Ad<|Ak [0] hI J J (B7 2 s0_l s0_end _ (ix ids 0) v1 v2 w w1 w2 w3 w4 w5 g (by exact hI.sub' J J)) J J J J J J (fun v _=>Ao (K:=4) (N:=1) Tryz.func173 hI) ?_
  rintro _ _ _ _ ⟨rfl,rfl⟩
  refine Au [0] hI J J J ?_
  refine Ap<|Z<|Bo (hJ () _ _ ⟨J,J⟩)
 refine Ay<|Bo (hJ () _ _ ⟨J,J⟩)
theorem Tb (s0_l:List Token)(s0_end:Int)(l:List Volume)(l1:List Sector)(h0:Ae)(o0:Nat)(o1:Nat)(o2:Nat)(w:AV)(w1:AV)(w2:AV)(w3:AV)(w4:AV)(w5:AV)(g:Nat)(v1:AV)(g1:Nat)(v2:AV)(g2:Nat)(vH:Az v1 o1 g1 l.length)(vH1:Az v2 o2 g2 l1.length)(hI0:Ids h0 [o0,o1,o2] 3):Hw s0_l s0_end l l1≠.bad→Bh Tryz.prog 172 [(.ptr o0 g 0 0)] (hp h0 [o0,o1,o2] [some (.rows g 10 [[(.sl 4 (List.map Ab s0_l)),(.int .i64 s0_end),v1,v2,w,w1,w2,w3,w4,w5]]),Ai v1 g1 2 (List.map Ar l),Ai v2 g2 5 (List.map A8 l1)]) (Ce (fun a_ v h' => ∃ (v4:AV),∃ (g5:Nat),Az v4 o2 g5 a_.2.length∧v=(.tup [])∧h'=hp h0 [o0,o1,o2] [some (.rows g 10 [[(.sl 4 (List.map Ab a_.1)),(.int .i64 s0_end),v1,v4,w,w1,w2,w3,w4,w5]]),Ai v1 g1 2 (List.map Ar l),Ai v4 g5 5 (List.map A8 a_.2)]) h0 (Hw s0_l s0_end l l1)):=by
 refine A6 (n:=9) 1 Tryz.func172 J (by decide) J J hI0 J fun ids he hI=>?_
 clear hI0
 obtain rfl:ix ids 0=o0:=he 0 rfl
 obtain rfl:ix ids 1=o1:=he 1 rfl
 obtain rfl:ix ids 2=o2:=he 2 rfl
 clear he
 refine Bk (Al (Hw.eq_1 _ _ _ _) ?_)
 refine Aj ?_
 refine Y<|O<|Ck (v:=(.q ids 0 g)) (j:=3) hI J J J J J J J fun g3=>Z<|Aj ?_
 refine C2 Fa [[],[],[1],[1,2],[1,2,3],[],[0,1,2,3,4,5]] [(false,0),(false,1),(false,2),(false,3),(false,4),(false,5),(true,6)] (by kernel_rfl)<|Ag (.q ids 0 g) J J (As (Ba hI J J J Q2 J))<|Ag (.q ids 0 g) J J (As (Ba hI J J J Q2 J))<|Ag (.q ids 0 g) J J (Bg J)<|Ag (.ptr (ix ids 0) g 0 2) J J (Cb (B0 (c:=0) (off:=2) (i:=2) Wn J Eh J))<|Ag (.ptr (ix ids 0) g 0 3) J J (Cb (B0 (c:=2) (off:=1) (i:=1) Eh J Lb J))<|Ag (.func (.func 174) [] [(.q ids 3 g3)]) J J Pc ?_
 refine Qa [0,1,2,3] hI J J (Tr 64 s0_l s0_end l l1 _ (ix ids 0) (ix ids 1) (ix ids 2) (ix ids 3) w w1 w2 w3 w4 w5 g v1 g1 v2 g2 g3 vH vH1 (by exact hI.sub' J J)) J J J J J J J (fun v _ _ _=>Ao (K:=3) (N:=1) Tryz.func172 hI) ?_
 rintro r _ _ _ ⟨v3,g4,vH2,rfl,rfl⟩
 refine Rs [0,1,2,3] [some (.rows g 10 [[(.sl 4 (List.map Ab r.1)),(.I s0_end),v1,v3,w,w1,w2,w3,w4,w5]]),Ai v1 g1 2 (List.map Ar l),Ai v3 g4 5 (List.map A8 r.2),some (.rows g3 1 [[(.q ids 0 g)]])] hI J J J J ⟨(Af J (Af J (Af J (Af J (Af J (Af J Bw)))))),?_⟩
 refine R0<|Cl<|Aj ?_
 exact B2 (K:=3) (N:=1) (a:=(r.1,r.2)) (vs:=[]) [some (.rows g 10 [[(.sl 4 (List.map Ab r.1)),(.I s0_end),v1,v3,w,w1,w2,w3,w4,w5]]),Ai v1 g1 2 (List.map Ar l),Ai v3 g4 5 (List.map A8 r.2)] Tryz.func172 hI J J J (.keep (.keep (.keep (.drop .nil)))) (.same _) ⟨v3,g4,vH2,J,J⟩
theorem Tx (most:Int)(s0_l:List Token)(s0_end:Int)(l:List Volume)(l1:List Config)(h0:Ae)(o0:Nat)(o1:Nat)(o2:Nat)(o3:Nat)(w:AV)(w1:AV)(w2:AV)(w3:AV)(w4:AV)(w5:AV)(g:Nat)(v1:AV)(g1:Nat)(v2:AV)(g2:Nat)(g3:Nat)(vH:Az v1 o1 g1 l.length)(vH1:Az v2 o2 g2 l1.length)(hI0:Ids h0 [o0,o1,o2,o3] 4):Gm most s0_l s0_end l l1≠.bad→Bh Tryz.prog 181 [(.ptr o0 g 0 0),(.ptr o0 g 0 4),(.int .i64 most),(.func (.func 182) [] [(.ptr o3 g3 0 0)])] (hp h0 [o0,o1,o2,o3] [some (.rows g 10 [[(.sl 4 (List.map Ab s0_l)),(.int .i64 s0_end),v1,w,v2,w1,w2,w3,w4,w5]]),Ai v1 g1 2 (List.map Ar l),Ai v2 g2 3 (List.map Bl l1),some (.rows g3 1 [[(.ptr o0 g 0 0)]])]) (Ce (fun a_ v h' => ∃ (v4:AV),∃ (g6:Nat),Az v4 o2 g6 a_.2.length∧v=(.tup [])∧h'=hp h0 [o0,o1,o2,o3] [some (.rows g 10 [[(.sl 4 (List.map Ab a_.1)),(.int .i64 s0_end),v1,w,v4,w1,w2,w3,w4,w5]]),Ai v1 g1 2 (List.map Ar l),Ai v4 g6 3 (List.map Bl a_.2),some (.rows g3 1 [[(.ptr o0 g 0 0)]])]) h0 (Gm most s0_l s0_end l l1)):=by
 refine A6 (n:=39) 1 Tryz.func181 J (by decide) J J hI0 J fun ids he hI=>?_
 clear hI0
 obtain rfl:ix ids 0=o0:=he 0 rfl
 obtain rfl:ix ids 1=o1:=he 1 rfl
 obtain rfl:ix ids 2=o2:=he 2 rfl
 obtain rfl:ix ids 3=o3:=he 3 rfl
 clear he
 refine Bk (Al (Gm.eq_1 _ _ _ _ _) ?_)
 refine Aj ?_
 refine Y<|Y<|O<|Ac 3 [0] [(11,v2)] ?_
 refine Aa (.I (l1.length:Int)) J (A3 (Az.len vH1 Mm))<|Ac 2 [] [(14,(.bool ((l1.length:Int)==most)))] ?_
 refine Z<|Dv (π:=Unit) (fun _=>G1 s0_l s0_end l l1) (fun _=>fun(fr:Nat→AV) (h:Ae)=>fr=A2 [(0,(.q ids 0 g)),(1,(.ptr (ix ids 0) g 0 4)),(3,(.func (.func 182) [] [(.q ids 3 g3)]))]∧h=hp h0 ids [(some (.rows g 10 [[(.sl 4 (List.map Ab s0_l)),(.I s0_end),v1,w,v2,w1,w2,w3,w4,w5]])),(Ai v1 g1 2 (List.map Ar l)),(Ai v2 g2 3 (List.map Bl l1)),(some (.rows g3 1 [[(.q ids 0 g)]])),none]) ?_ fun hJ=>?_
 ·rintro _ fr h ⟨rfl,rfl⟩
  refine Al (G1.eq_1 _ _ _ _)<|Y<|O<|Ac 5 [0] [(21,(.sl 4 (List.map Ab s0_l))),(17,(.q ids 0 g))] ?_
  refine Gb fun hs=>Aa (.sl 4 (List.map Ab (s0_l.drop 1))) J (Fg (Lw Ci Cp J hs))<|Ac 2 [] [(24,(.q ids 0 g))] ?_
  refine Aq (Aw (v:=(.sl 4 (List.map Ab (s0_l.drop 1)))) hI J J J J Ci J J J J J)<|Z<|Aj ?_
  refine Y<|O<|Ac 2 [] [(26,(.q ids 0 g)),(25,(.func (.func 182) [] [(.q ids 3 g3)]))] ?_
  refine Ak [0] hI J J (Cj (s0_l.drop 1) s0_end _ (ix ids 0) v1 w v2 w1 w2 w3 w4 w5 g (by exact hI.sub' J J)) J J J J J J (fun v _=>Ao (K:=4) (N:=1) Tryz.func181 hI) ?_
  rintro r1 _ _ _ ⟨rfl,rfl⟩
  refine Au [0] hI J J J ?_
  refine Ap<|Ak [3,0,1] hI J J (Q9 r1 ((s0_l.drop 1).drop 1) s0_end l _ (ix ids 3) (ix ids 0) (ix ids 1) g3 w v2 w1 w2 w3 w4 w5 g v1 g1 vH (by exact hI.sub' J J)) J J J J J J (fun v _=>Ao (K:=4) (N:=1) Tryz.func181 hI) ?_
  rintro r2 _ _ _ ⟨rfl,rfl⟩
  refine Au [3,0,1] hI J J J ?_
  refine Ap<|Bb (j:=4) hI J J J J J6 J fun g4=>Aq (Aw (v:=(.agg (Bl r2.1))) hI J J J J J6 J J J J J)<|Z<|Aj ?_
  refine Y<|O<|Aa (.q ids 0 g) J Ad<|Ak [0] hI J J (Cn [59] r2.2 s0_end _ (ix ids 0) v1 w v2 w1 w2 w3 w4 w5 g (by exact hI.sub' J J)) J J J J J J (fun v _=>Ao (K:=4) (N:=1) Tryz.func181 hI) ?_
  rintro _ _ _ _ ⟨rfl,rfl⟩
  refine Au [0] hI J J J ?_
  refine Ap<|Z<|Aj ?_
  refine C2 Fa [[],[],[1],[1,2],[],[4],[1,2,3,4,5],[0,0,1,2,3,4,5,6],[0,1,2,3,4,5,6,6,6,7]] [(false,0),(false,1),(false,2),(false,3),(false,4),(true,5),(true,6),(false,7),(true,8)] (by kernel_rfl)<|Ag (.ptr (ix ids 0) g 0 4) J J Ad<|Ag (.ptr (ix ids 0) g 0 4) J J Ad<|Ag (.ptr (ix ids 0) g 0 4) J J (Bg J)<|Ag v2 J J (As (Ba hI J J J Mm J))<|Ag (.agg (Bl r2.1)) J J (As (Ba hI J J J J6 J))<|Hj J J (fun _ _=>J) (fun K hK=>Kx (e:=Bl) (L:=[r2.1]) (st:=3) (rows:=[[(.str r2.1.Name),(.sl 1 (List.map rS r2.1.Names)),(.sl 1 (List.map (rI .i64) r2.1.Sectors))]]) Mm J6 J J J J J (.cons (RowSim.refl _) .nil) (fun x=>X5 x) J J (hK _ _ (Af J (Bp J (As (Ba hI J J J Mm J)) (Bp J (Bg J) (Bp J Ad (Bp J Ad Bw))))) ?_))
  clear hK K
  refine Jg fun hl=>Hj J J (fun _ _=>J) (fun K hK=>Gx (e:=Bl) (L:=l1) (L2:=[r2.1]) (v:=v2) (g:=g2) (st:=3) (j:=2) hI J J J vH1 J (Lv J) Mm Mm J J6 J J J hl fun v3 g5 vH2=>hK _ _ (Af J (Af J (Af J (Af J (Bp J Ad Bw))))) ?_)
  clear hK K
  refine Ag (.ptr (ix ids 0) g 0 4) J J (Bg J)<|Fk J (fun _ _=>J) (fun K hK=>Dj (Lm vH2 hI J J J J Mm J J J) (hK _ _ (Af J (Af J (Af J (Af J (Af J (Af J Bw)))))) ?_))
  clear hK K
  refine Cl<|Aj ?_
  exact B2 (K:=4) (N:=1) (a:=((r2.2.drop 1),(l1++[r2.1]))) (vs:=[]) [some (.rows g 10 [[(.sl 4 (List.map Ab (r2.2.drop 1))),(.I s0_end),v1,w,v3,w1,w2,w3,w4,w5]]),Ai v1 g1 2 (List.map Ar l),Ai v3 g5 3 (List.map Bl (l1++[r2.1])),some (.rows g3 1 [[(.q ids 0 g)]])] Tryz.func181 hI J J J (.keep (.keep (.keep (.keep (.drop .nil))))) (.same _) ⟨v3,g5,vH2,J,J⟩
 refine B3 J (fun hc=>?_) (fun hc=>?_)
 ·refine O<|Aa (.q ids 0 g) J Ad<|Ak [0] hI J J (B7 2 s0_l s0_end _ (ix ids 0) v1 w v2 w1 w2 w3 w4 w5 g (by exact hI.sub' J J)) J J J J J J (fun v _=>Ao (K:=4) (N:=1) Tryz.func181 hI) ?_
  rintro _ _ _ _ ⟨rfl,rfl⟩
  refine Au [0] hI J J J ?_
  refine Ap<|Z<|Bo (hJ () _ _ ⟨J,J⟩)
 refine Ay<|Bo (hJ () _ _ ⟨J,J⟩)
theorem Tf (s0_l:List Token)(s0_end:Int)(l:List Volume)(l1:List Config)(h0:Ae)(o0:Nat)(o1:Nat)(o2:Nat)(w:AV)(w1:AV)(w2:AV)(w3:AV)(w4:AV)(w5:AV)(g:Nat)(v1:AV)(g1:Nat)(v2:AV)(g2:Nat)(vH:Az v1 o1 g1 l.length)(vH1:Az v2 o2 g2 l1.length)(hI0:Ids h0 [o0,o1,o2] 3):H5 s0_l s0_end l l1≠.bad→Bh Tryz.prog 180 [(.ptr o0 g 0 0)] (hp h0 [o0,o1,o2] [some (.rows g 10 [[(.sl 4 (List.map Ab s0_l)),(.int .i64 s0_end),v1,w,v2,w1,w2,w3,w4,w5]]),Ai v1 g1 2 (List.map Ar l),Ai v2 g2 3 (List.map Bl l1)]) (Ce (fun a_ v h' => ∃ (v4:AV),∃ (g5:Nat),Az v4 o2 g5 a_.2.length∧v=(.tup [])∧h'=hp h0 [o0,o1,o2] [some (.rows g 10 [[(.sl 4 (List.map Ab a_.1)),(.int .i64 s0_end),v1,w,v4,w1,w2,w3,w4,w5]]),Ai v1 g1 2 (List.map Ar l),Ai v4 g5 3 (List.map Bl a_.2)]) h0 (H5 s0_l s0_end l l1)):=by
 refine A6 (n:=9) 1 Tryz.func180 J (by decide) J J hI0 J fun ids he hI=>?_
 clear hI0
 obtain rfl:ix ids 0=o0:=he 0 rfl
 obtain rfl:ix ids 1=o1:=he 1 rfl
 obtain rfl:ix ids 2=o2:=he 2 rfl
 clear he
 refine Bk (Al (H5.eq_1 _ _ _ _) ?_)
 refine Aj ?_
 refine Y<|O<|Ck (v:=(.q ids 0 g)) (j:=3) hI J J J J J J J fun g3=>Z<|Aj ?_
 refine C2 Fa [[],[],[1],[1,2],[1,2,3],[],[0,1,2,3,4,5]] [(false,0),(false,1),(false,2),(false,3),(false,4),(false,5),(true,6)] (by kernel_rfl)<|Ag (.q ids 0 g) J J (As (Ba hI J J J Q2 J))<|Ag (.q ids 0 g) J J (As (Ba hI J J J Q2 J))<|Ag (.q ids 0 g) J J (Bg J)<|Ag (.ptr (ix ids 0) g 0 2) J J (Cb (B0 (c:=0) (off:=2) (i:=2) Wn J Eh J))<|Ag (.ptr (ix ids 0) g 0 4) J J (Cb (B0 (c:=2) (off:=2) (i:=2) Eh J Mm J))<|Ag (.func (.func 182) [] [(.q ids 3 g3)]) J J Pc ?_
 refine Qa [0,1,2,3] hI J J (Tx 32 s0_l s0_end l l1 _ (ix ids 0) (ix ids 1) (ix ids 2) (ix ids 3) w w1 w2 w3 w4 w5 g v1 g1 v2 g2 g3 vH vH1 (by exact hI.sub' J J)) J J J J J J J (fun v _ _ _=>Ao (K:=3) (N:=1) Tryz.func180 hI) ?_
 rintro r _ _ _ ⟨v3,g4,vH2,rfl,rfl⟩
 refine Rs [0,1,2,3] [some (.rows g 10 [[(.sl 4 (List.map Ab r.1)),(.I s0_end),v1,w,v3,w1,w2,w3,w4,w5]]),Ai v1 g1 2 (List.map Ar l),Ai v3 g4 3 (List.map Bl r.2),some (.rows g3 1 [[(.q ids 0 g)]])] hI J J J J ⟨(Af J (Af J (Af J (Af J (Af J (Af J Bw)))))),?_⟩
 refine R0<|Cl<|Aj ?_
 exact B2 (K:=3) (N:=1) (a:=(r.1,r.2)) (vs:=[]) [some (.rows g 10 [[(.sl 4 (List.map Ab r.1)),(.I s0_end),v1,w,v3,w1,w2,w3,w4,w5]]),Ai v1 g1 2 (List.map Ar l),Ai v3 g4 3 (List.map Bl r.2)] Tryz.func180 hI J J J (.keep (.keep (.keep (.drop .nil)))) (.same _) ⟨v3,g4,vH2,J,J⟩
theorem S0 (most:Int)(s0_l:List Token)(s0_end:Int)(l:List Volume)(l1:List Segment)(h0:Ae)(o0:Nat)(o1:Nat)(o2:Nat)(o3:Nat)(w:AV)(w1:AV)(w2:AV)(w3:AV)(w4:AV)(w5:AV)(g:Nat)(v1:AV)(g1:Nat)(v2:AV)(g2:Nat)(g3:Nat)(vH:Az v1 o1 g1 l.length)(vH1:Az v2 o2 g2 l1.length)(hI0:Ids h0 [o0,o1,o2,o3] 4):Ga most s0_l s0_end l l1≠.bad→Bh Tryz.prog 184 [(.ptr o0 g 0 0),(.ptr o0 g 0 5),(.int .i64 most),(.func (.func 185) [] [(.ptr o3 g3 0 0)])] (hp h0 [o0,o1,o2,o3] [some (.rows g 10 [[(.sl 4 (List.map Ab s0_l)),(.int .i64 s0_end),v1,w,w1,v2,w2,w3,w4,w5]]),Ai v1 g1 2 (List.map Ar l),Ai v2 g2 5 (List.map Bf l1),some (.rows g3 1 [[(.ptr o0 g 0 0)]])]) (Ce (fun a_ v h' => ∃ (v4:AV),∃ (g6:Nat),Az v4 o2 g6 a_.2.length∧v=(.tup [])∧h'=hp h0 [o0,o1,o2,o3] [some (.rows g 10 [[(.sl 4 (List.map Ab a_.1)),(.int .i64 s0_end),v1,w,w1,v4,w2,w3,w4,w5]]),Ai v1 g1 2 (List.map Ar l),Ai v4 g6 5 (List.map Bf a_.2),some (.rows g3 1 [[(.ptr o0 g 0 0)]])]) h0 (Ga most s0_l s0_end l l1)):=by
 refine A6 (n:=39) 1 Tryz.func184 J (by decide) J J hI0 J fun ids he hI=>?_
 clear hI0
 obtain rfl:ix ids 0=o0:=he 0 rfl
 obtain rfl:ix ids 1=o1:=he 1 rfl
 obtain rfl:ix ids 2=o2:=he 2 rfl
 obtain rfl:ix ids 3=o3:=he 3 rfl
 clear he
 refine Bk (Al (Ga.eq_1 _ _ _ _ _) ?_)
 refine Aj ?_
 refine Y<|Y<|O<|Ac 3 [0] [(11,v2)] ?_
 refine Aa (.I (l1.length:Int)) J (A3 (Az.len vH1 Mn))<|Ac 2 [] [(14,(.bool ((l1.length:Int)==most)))] ?_
 refine Z<|Dv (π:=Unit) (fun _=>Gg s0_l s0_end l l1) (fun _=>fun(fr:Nat→AV) (h:Ae)=>fr=A2 [(0,(.q ids 0 g)),(1,(.ptr (ix ids 0) g 0 5)),(3,(.func (.func 185) [] [(.q ids 3 g3)]))]∧h=hp h0 ids [(some (.rows g 10 [[(.sl 4 (List.map Ab s0_l)),(.I s0_end),v1,w,w1,v2,w2,w3,w4,w5]])),(Ai v1 g1 2 (List.map Ar l)),(Ai v2 g2 5 (List.map Bf l1)),(some (.rows g3 1 [[(.q ids 0 g)]])),none]) ?_ fun hJ=>?_
 ·rintro _ fr h ⟨rfl,rfl⟩
  refine Al (Gg.eq_1 _ _ _ _)<|Y<|O<|Ac 5 [0] [(21,(.sl 4 (List.map Ab s0_l))),(17,(.q ids 0 g))] ?_
  refine Gb fun hs=>Aa (.sl 4 (List.map Ab (s0_l.drop 1))) J (Fg (Lw Ci Cp J hs))<|Ac 2 [] [(24,(.q ids 0 g))] ?_
  refine Aq (Aw (v:=(.sl 4 (List.map Ab (s0_l.drop 1)))) hI J J J J Ci J J J J J)<|Z<|Aj ?_
  refine Y<|O<|Ac 2 [] [(26,(.q ids 0 g)),(25,(.func (.func 185) [] [(.q ids 3 g3)]))] ?_
  refine Ak [0] hI J J (Cj (s0_l.drop 1) s0_end _ (ix ids 0) v1 w w1 v2 w2 w3 w4 w5 g (by exact hI.sub' J J)) J J J J J J (fun v _=>Ao (K:=4) (N:=1) Tryz.func184 hI) ?_
  rintro r1 _ _ _ ⟨rfl,rfl⟩
  refine Au [0] hI J J J ?_
  refine Ap<|Ak [3,0,1] hI J J (Q6 r1 ((s0_l.drop 1).drop 1) s0_end l _ (ix ids 3) (ix ids 0) (ix ids 1) g3 w w1 v2 w2 w3 w4 w5 g v1 g1 vH (by exact hI.sub' J J)) J J J J J J (fun v _=>Ao (K:=4) (N:=1) Tryz.func184 hI) ?_
  rintro r2 _ _ _ ⟨rfl,rfl⟩
  refine Au [3,0,1] hI J J J ?_
  refine Ap<|Bb (j:=4) hI J J J J Id J fun g4=>Aq (Aw (v:=(.agg (Bf r2.1))) hI J J J J Id J J J J J)<|Z<|Aj ?_
  refine Y<|O<|Aa (.q ids 0 g) J Ad<|Ak [0] hI J J (Cn [59] r2.2 s0_end _ (ix ids 0) v1 w w1 v2 w2 w3 w4 w5 g (by exact hI.sub' J J)) J J J J J J (fun v _=>Ao (K:=4) (N:=1) Tryz.func184 hI) ?_
  rintro _ _ _ _ ⟨rfl,rfl⟩
  refine Au [0] hI J J J ?_
  refine Ap<|Z<|Aj ?_
  refine C2 Fa [[],[],[1],[1,2],[],[4],[1,2,3,4,5],[0,0,1,2,3,4,5,6],[0,1,2,3,4,5,6,6,6,7]] [(false,0),(false,1),(false,2),(false,3),(false,4),(true,5),(true,6),(false,7),(true,8)] (by kernel_rfl)<|Ag (.ptr (ix ids 0) g 0 5) J J Ad<|Ag (.ptr (ix ids 0) g 0 5) J J Ad<|Ag (.ptr (ix ids 0) g 0 5) J J (Bg J)<|Ag v2 J J (As (Ba hI J J J Mn J))<|Ag (.agg (Bf r2.1)) J J (As (Ba hI J J J Id J))<|Hj J J (fun _ _=>J) (fun K hK=>Kx (e:=Bf) (L:=[r2.1]) (st:=5) (rows:=[[(.str r2.1.Name),(.str r2.1.In),(.I r2.1.Volume),(.I r2.1.Length),(.sl 2 (List.map B4 r2.1.Open))]]) Mn Id J J J J J (.cons (RowSim.refl _) .nil) (fun x=>W3 x) J J (hK _ _ (Af J (Bp J (As (Ba hI J J J Mn J)) (Bp J (Bg J) (Bp J Ad (Bp J Ad Bw))))) ?_))
  clear hK K
  refine Jg fun hl=>Hj J J (fun _ _=>J) (fun K hK=>Gx (e:=Bf) (L:=l1) (L2:=[r2.1]) (v:=v2) (g:=g2) (st:=5) (j:=2) hI J J J vH1 J (Lv J) Mn Mn J Id J J J hl fun v3 g5 vH2=>hK _ _ (Af J (Af J (Af J (Af J (Bp J Ad Bw))))) ?_)
  clear hK K
  refine Ag (.ptr (ix ids 0) g 0 5) J J (Bg J)<|Fk J (fun _ _=>J) (fun K hK=>Dj (Lm vH2 hI J J J J Mn J J J) (hK _ _ (Af J (Af J (Af J (Af J (Af J (Af J Bw)))))) ?_))
  clear hK K
  refine Cl<|Aj ?_
  exact B2 (K:=4) (N:=1) (a:=((r2.2.drop 1),(l1++[r2.1]))) (vs:=[]) [some (.rows g 10 [[(.sl 4 (List.map Ab (r2.2.drop 1))),(.I s0_end),v1,w,w1,v3,w2,w3,w4,w5]]),Ai v1 g1 2 (List.map Ar l),Ai v3 g5 5 (List.map Bf (l1++[r2.1])),some (.rows g3 1 [[(.q ids 0 g)]])] Tryz.func184 hI J J J (.keep (.keep (.keep (.keep (.drop .nil))))) (.same _) ⟨v3,g5,vH2,J,J⟩
 refine B3 J (fun hc=>?_) (fun hc=>?_)
 ·refine O<|Aa (.q ids 0 g) J Ad<|Ak [0] hI J J (B7 2 s0_l s0_end _ (ix ids 0) v1 w w1 v2 w2 w3 w4 w5 g (by exact hI.sub' J J)) J J J J J J (fun v _=>Ao (K:=4) (N:=1) Tryz.func184 hI) ?_
  rintro _ _ _ _ ⟨rfl,rfl⟩
  refine Au [0] hI J J J ?_
  refine Ap<|Z<|Bo (hJ () _ _ ⟨J,J⟩)
 refine Ay<|Bo (hJ () _ _ ⟨J,J⟩)
theorem S7 (s0_l:List Token)(s0_end:Int)(l:List Volume)(l1:List Segment)(h0:Ae)(o0:Nat)(o1:Nat)(o2:Nat)(w:AV)(w1:AV)(w2:AV)(w3:AV)(w4:AV)(w5:AV)(g:Nat)(v1:AV)(g1:Nat)(v2:AV)(g2:Nat)(vH:Az v1 o1 g1 l.length)(vH1:Az v2 o2 g2 l1.length)(hI0:Ids h0 [o0,o1,o2] 3):H1 s0_l s0_end l l1≠.bad→Bh Tryz.prog 183 [(.ptr o0 g 0 0)] (hp h0 [o0,o1,o2] [some (.rows g 10 [[(.sl 4 (List.map Ab s0_l)),(.int .i64 s0_end),v1,w,w1,v2,w2,w3,w4,w5]]),Ai v1 g1 2 (List.map Ar l),Ai v2 g2 5 (List.map Bf l1)]) (Ce (fun a_ v h' => ∃ (v4:AV),∃ (g5:Nat),Az v4 o2 g5 a_.2.length∧v=(.tup [])∧h'=hp h0 [o0,o1,o2] [some (.rows g 10 [[(.sl 4 (List.map Ab a_.1)),(.int .i64 s0_end),v1,w,w1,v4,w2,w3,w4,w5]]),Ai v1 g1 2 (List.map Ar l),Ai v4 g5 5 (List.map Bf a_.2)]) h0 (H1 s0_l s0_end l l1)):=by
 refine A6 (n:=9) 1 Tryz.func183 J (by decide) J J hI0 J fun ids he hI=>?_
 clear hI0
 obtain rfl:ix ids 0=o0:=he 0 rfl
 obtain rfl:ix ids 1=o1:=he 1 rfl
 obtain rfl:ix ids 2=o2:=he 2 rfl
 clear he
 refine Bk (Al (H1.eq_1 _ _ _ _) ?_)
 refine Aj ?_
 refine Y<|O<|Ck (v:=(.q ids 0 g)) (j:=3) hI J J J J J J J fun g3=>Z<|Aj ?_
 refine C2 Fa [[],[],[1],[1,2],[1,2,3],[],[0,1,2,3,4,5]] [(false,0),(false,1),(false,2),(false,3),(false,4),(false,5),(true,6)] (by kernel_rfl)<|Ag (.q ids 0 g) J J (As (Ba hI J J J Q2 J))<|Ag (.q ids 0 g) J J (As (Ba hI J J J Q2 J))<|Ag (.q ids 0 g) J J (Bg J)<|Ag (.ptr (ix ids 0) g 0 2) J J (Cb (B0 (c:=0) (off:=2) (i:=2) Wn J Eh J))<|Ag (.ptr (ix ids 0) g 0 5) J J (Cb (B0 (c:=2) (off:=3) (i:=3) Eh J Mn J))<|Ag (.func (.func 185) [] [(.q ids 3 g3)]) J J Pc ?_
 refine Qa [0,1,2,3] hI J J (S0 128 s0_l s0_end l l1 _ (ix ids 0) (ix ids 1) (ix ids 2) (ix ids 3) w w1 w2 w3 w4 w5 g v1 g1 v2 g2 g3 vH vH1 (by exact hI.sub' J J)) J J J J J J J (fun v _ _ _=>Ao (K:=3) (N:=1) Tryz.func183 hI) ?_
 rintro r _ _ _ ⟨v3,g4,vH2,rfl,rfl⟩
 refine Rs [0,1,2,3] [some (.rows g 10 [[(.sl 4 (List.map Ab r.1)),(.I s0_end),v1,w,w1,v3,w2,w3,w4,w5]]),Ai v1 g1 2 (List.map Ar l),Ai v3 g4 5 (List.map Bf r.2),some (.rows g3 1 [[(.q ids 0 g)]])] hI J J J J ⟨(Af J (Af J (Af J (Af J (Af J (Af J Bw)))))),?_⟩
 refine R0<|Cl<|Aj ?_
 exact B2 (K:=3) (N:=1) (a:=(r.1,r.2)) (vs:=[]) [some (.rows g 10 [[(.sl 4 (List.map Ab r.1)),(.I s0_end),v1,w,w1,v3,w2,w3,w4,w5]]),Ai v1 g1 2 (List.map Ar l),Ai v3 g4 5 (List.map Bf r.2)] Tryz.func183 hI J J J (.keep (.keep (.keep (.drop .nil)))) (.same _) ⟨v3,g4,vH2,J,J⟩
theorem Ub (most:Int)(s0_l:List Token)(s0_end:Int)(l:List Volume)(l1:List Route)(h0:Ae)(o0:Nat)(o1:Nat)(o2:Nat)(o3:Nat)(w:AV)(w1:AV)(w2:AV)(w3:AV)(w4:AV)(w5:AV)(g:Nat)(v1:AV)(g1:Nat)(v2:AV)(g2:Nat)(g3:Nat)(vH:Az v1 o1 g1 l.length)(vH1:Az v2 o2 g2 l1.length)(hI0:Ids h0 [o0,o1,o2,o3] 4):G6 most s0_l s0_end l l1≠.bad→Bh Tryz.prog 187 [(.ptr o0 g 0 0),(.ptr o0 g 0 6),(.int .i64 most),(.func (.func 188) [] [(.ptr o3 g3 0 0)])] (hp h0 [o0,o1,o2,o3] [some (.rows g 10 [[(.sl 4 (List.map Ab s0_l)),(.int .i64 s0_end),v1,w,w1,w2,v2,w3,w4,w5]]),Ai v1 g1 2 (List.map Ar l),Ai v2 g2 7 (List.map Bs l1),some (.rows g3 1 [[(.ptr o0 g 0 0)]])]) (Ce (fun a_ v h' => ∃ (v4:AV),∃ (g6:Nat),Az v4 o2 g6 a_.2.length∧v=(.tup [])∧h'=hp h0 [o0,o1,o2,o3] [some (.rows g 10 [[(.sl 4 (List.map Ab a_.1)),(.int .i64 s0_end),v1,w,w1,w2,v4,w3,w4,w5]]),Ai v1 g1 2 (List.map Ar l),Ai v4 g6 7 (List.map Bs a_.2),some (.rows g3 1 [[(.ptr o0 g 0 0)]])]) h0 (G6 most s0_l s0_end l l1)):=by
 refine A6 (n:=39) 1 Tryz.func187 J (by decide) J J hI0 J fun ids he hI=>?_
 clear hI0
 obtain rfl:ix ids 0=o0:=he 0 rfl
 obtain rfl:ix ids 1=o1:=he 1 rfl
 obtain rfl:ix ids 2=o2:=he 2 rfl
 obtain rfl:ix ids 3=o3:=he 3 rfl
 clear he
 refine Bk (Al (G6.eq_1 _ _ _ _ _) ?_)
 refine Aj ?_
 refine Y<|Y<|O<|Ac 3 [0] [(11,v2)] ?_
 refine Aa (.I (l1.length:Int)) J (A3 (Az.len vH1 Ml))<|Ac 2 [] [(14,(.bool ((l1.length:Int)==most)))] ?_
 refine Z<|Dv (π:=Unit) (fun _=>Ha s0_l s0_end l l1) (fun _=>fun(fr:Nat→AV) (h:Ae)=>fr=A2 [(0,(.q ids 0 g)),(1,(.ptr (ix ids 0) g 0 6)),(3,(.func (.func 188) [] [(.q ids 3 g3)]))]∧h=hp h0 ids [(some (.rows g 10 [[(.sl 4 (List.map Ab s0_l)),(.I s0_end),v1,w,w1,w2,v2,w3,w4,w5]])),(Ai v1 g1 2 (List.map Ar l)),(Ai v2 g2 7 (List.map Bs l1)),(some (.rows g3 1 [[(.q ids 0 g)]])),none]) ?_ fun hJ=>?_
 ·rintro _ fr h ⟨rfl,rfl⟩
  refine Al (Ha.eq_1 _ _ _ _)<|Y<|O<|Ac 5 [0] [(21,(.sl 4 (List.map Ab s0_l))),(17,(.q ids 0 g))] ?_
  refine Gb fun hs=>Aa (.sl 4 (List.map Ab (s0_l.drop 1))) J (Fg (Lw Ci Cp J hs))<|Ac 2 [] [(24,(.q ids 0 g))] ?_
  refine Aq (Aw (v:=(.sl 4 (List.map Ab (s0_l.drop 1)))) hI J J J J Ci J J J J J)<|Z<|Aj ?_
  refine Y<|O<|Ac 2 [] [(26,(.q ids 0 g)),(25,(.func (.func 188) [] [(.q ids 3 g3)]))] ?_
  refine Ak [0] hI J J (Cj (s0_l.drop 1) s0_end _ (ix ids 0) v1 w w1 w2 v2 w3 w4 w5 g (by exact hI.sub' J J)) J J J J J J (fun v _=>Ao (K:=4) (N:=1) Tryz.func187 hI) ?_
  rintro r1 _ _ _ ⟨rfl,rfl⟩
  refine Au [0] hI J J J ?_
  refine Ap<|Ak [3,0,1] hI J J (Q8 r1 ((s0_l.drop 1).drop 1) s0_end l _ (ix ids 3) (ix ids 0) (ix ids 1) g3 w w1 w2 v2 w3 w4 w5 g v1 g1 vH (by exact hI.sub' J J)) J J J J J J (fun v _=>Ao (K:=4) (N:=1) Tryz.func187 hI) ?_
  rintro r2 _ _ _ ⟨rfl,rfl⟩
  refine Au [3,0,1] hI J J J ?_
  refine Ap<|Bb (j:=4) hI J J J J H9 J fun g4=>Aq (Aw (v:=(.agg (Bs r2.1))) hI J J J J H9 J J J J J)<|Z<|Aj ?_
  refine Y<|O<|Aa (.q ids 0 g) J Ad<|Ak [0] hI J J (Cn [59] r2.2 s0_end _ (ix ids 0) v1 w w1 w2 v2 w3 w4 w5 g (by exact hI.sub' J J)) J J J J J J (fun v _=>Ao (K:=4) (N:=1) Tryz.func187 hI) ?_
  rintro _ _ _ _ ⟨rfl,rfl⟩
  refine Au [0] hI J J J ?_
  refine Ap<|Z<|Aj ?_
  refine C2 Fa [[],[],[1],[1,2],[],[4],[1,2,3,4,5],[0,0,1,2,3,4,5,6],[0,1,2,3,4,5,6,6,6,7]] [(false,0),(false,1),(false,2),(false,3),(false,4),(true,5),(true,6),(false,7),(true,8)] (by kernel_rfl)<|Ag (.ptr (ix ids 0) g 0 6) J J Ad<|Ag (.ptr (ix ids 0) g 0 6) J J Ad<|Ag (.ptr (ix ids 0) g 0 6) J J (Bg J)<|Ag v2 J J (As (Ba hI J J J Ml J))<|Ag (.agg (Bs r2.1)) J J (As (Ba hI J J J H9 J))<|Hj J J (fun _ _=>J) (fun K hK=>Kx (e:=Bs) (L:=[r2.1]) (st:=7) (rows:=[[(.str r2.1.Name),(.str r2.1.A),(.str r2.1.B),(.I r2.1.From),(.I r2.1.To),(.sl 1 (List.map rS r2.1.Names)),(.sl 1 (List.map (rI .i64) r2.1.Segments))]]) Ml H9 J J J J J (.cons (RowSim.refl _) .nil) (fun x=>Y7 x) J J (hK _ _ (Af J (Bp J (As (Ba hI J J J Ml J)) (Bp J (Bg J) (Bp J Ad (Bp J Ad Bw))))) ?_))
  clear hK K
  refine Jg fun hl=>Hj J J (fun _ _=>J) (fun K hK=>Gx (e:=Bs) (L:=l1) (L2:=[r2.1]) (v:=v2) (g:=g2) (st:=7) (j:=2) hI J J J vH1 J (Lv J) Ml Ml J H9 J J J hl fun v3 g5 vH2=>hK _ _ (Af J (Af J (Af J (Af J (Bp J Ad Bw))))) ?_)
  clear hK K
  refine Ag (.ptr (ix ids 0) g 0 6) J J (Bg J)<|Fk J (fun _ _=>J) (fun K hK=>Dj (Lm vH2 hI J J J J Ml J J J) (hK _ _ (Af J (Af J (Af J (Af J (Af J (Af J Bw)))))) ?_))
  clear hK K
  refine Cl<|Aj ?_
  exact B2 (K:=4) (N:=1) (a:=((r2.2.drop 1),(l1++[r2.1]))) (vs:=[]) [some (.rows g 10 [[(.sl 4 (List.map Ab (r2.2.drop 1))),(.I s0_end),v1,w,w1,w2,v3,w3,w4,w5]]),Ai v1 g1 2 (List.map Ar l),Ai v3 g5 7 (List.map Bs (l1++[r2.1])),some (.rows g3 1 [[(.q ids 0 g)]])] Tryz.func187 hI J J J (.keep (.keep (.keep (.keep (.drop .nil))))) (.same _) ⟨v3,g5,vH2,J,J⟩
 refine B3 J (fun hc=>?_) (fun hc=>?_)
 ·refine O<|Aa (.q ids 0 g) J Ad<|Ak [0] hI J J (B7 2 s0_l s0_end _ (ix ids 0) v1 w w1 w2 v2 w3 w4 w5 g (by exact hI.sub' J J)) J J J J J J (fun v _=>Ao (K:=4) (N:=1) Tryz.func187 hI) ?_
  rintro _ _ _ _ ⟨rfl,rfl⟩
  refine Au [0] hI J J J ?_
  refine Ap<|Z<|Bo (hJ () _ _ ⟨J,J⟩)
 refine Ay<|Bo (hJ () _ _ ⟨J,J⟩)
theorem Sw (s0_l:List Token)(s0_end:Int)(l:List Volume)(l1:List Route)(h0:Ae)(o0:Nat)(o1:Nat)(o2:Nat)(w:AV)(w1:AV)(w2:AV)(w3:AV)(w4:AV)(w5:AV)(g:Nat)(v1:AV)(g1:Nat)(v2:AV)(g2:Nat)(vH:Az v1 o1 g1 l.length)(vH1:Az v2 o2 g2 l1.length)(hI0:Ids h0 [o0,o1,o2] 3):H8 s0_l s0_end l l1≠.bad→Bh Tryz.prog 186 [(.ptr o0 g 0 0)] (hp h0 [o0,o1,o2] [some (.rows g 10 [[(.sl 4 (List.map Ab s0_l)),(.int .i64 s0_end),v1,w,w1,w2,v2,w3,w4,w5]]),Ai v1 g1 2 (List.map Ar l),Ai v2 g2 7 (List.map Bs l1)]) (Ce (fun a_ v h' => ∃ (v4:AV),∃ (g5:Nat),Az v4 o2 g5 a_.2.length∧v=(.tup [])∧h'=hp h0 [o0,o1,o2] [some (.rows g 10 [[(.sl 4 (List.map Ab a_.1)),(.int .i64 s0_end),v1,w,w1,w2,v4,w3,w4,w5]]),Ai v1 g1 2 (List.map Ar l),Ai v4 g5 7 (List.map Bs a_.2)]) h0 (H8 s0_l s0_end l l1)):=by
 refine A6 (n:=9) 1 Tryz.func186 J (by decide) J J hI0 J fun ids he hI=>?_
 clear hI0
 obtain rfl:ix ids 0=o0:=he 0 rfl
 obtain rfl:ix ids 1=o1:=he 1 rfl
 obtain rfl:ix ids 2=o2:=he 2 rfl
 clear he
 refine Bk (Al (H8.eq_1 _ _ _ _) ?_)
 refine Aj ?_
 refine Y<|O<|Ck (v:=(.q ids 0 g)) (j:=3) hI J J J J J J J fun g3=>Z<|Aj ?_
 refine C2 Fa [[],[],[1],[1,2],[1,2,3],[],[0,1,2,3,4,5]] [(false,0),(false,1),(false,2),(false,3),(false,4),(false,5),(true,6)] (by kernel_rfl)<|Ag (.q ids 0 g) J J (As (Ba hI J J J Q2 J))<|Ag (.q ids 0 g) J J (As (Ba hI J J J Q2 J))<|Ag (.q ids 0 g) J J (Bg J)<|Ag (.ptr (ix ids 0) g 0 2) J J (Cb (B0 (c:=0) (off:=2) (i:=2) Wn J Eh J))<|Ag (.ptr (ix ids 0) g 0 6) J J (Cb (B0 (c:=2) (off:=4) (i:=4) Eh J Ml J))<|Ag (.func (.func 188) [] [(.q ids 3 g3)]) J J Pc ?_
 refine Qa [0,1,2,3] hI J J (Ub 64 s0_l s0_end l l1 _ (ix ids 0) (ix ids 1) (ix ids 2) (ix ids 3) w w1 w2 w3 w4 w5 g v1 g1 v2 g2 g3 vH vH1 (by exact hI.sub' J J)) J J J J J J J (fun v _ _ _=>Ao (K:=3) (N:=1) Tryz.func186 hI) ?_
 rintro r _ _ _ ⟨v3,g4,vH2,rfl,rfl⟩
 refine Rs [0,1,2,3] [some (.rows g 10 [[(.sl 4 (List.map Ab r.1)),(.I s0_end),v1,w,w1,w2,v3,w3,w4,w5]]),Ai v1 g1 2 (List.map Ar l),Ai v3 g4 7 (List.map Bs r.2),some (.rows g3 1 [[(.q ids 0 g)]])] hI J J J J ⟨(Af J (Af J (Af J (Af J (Af J (Af J Bw)))))),?_⟩
 refine R0<|Cl<|Aj ?_
 exact B2 (K:=3) (N:=1) (a:=(r.1,r.2)) (vs:=[]) [some (.rows g 10 [[(.sl 4 (List.map Ab r.1)),(.I s0_end),v1,w,w1,w2,v3,w3,w4,w5]]),Ai v1 g1 2 (List.map Ar l),Ai v3 g4 7 (List.map Bs r.2)] Tryz.func186 hI J J J (.keep (.keep (.keep (.drop .nil)))) (.same _) ⟨v3,g4,vH2,J,J⟩
theorem Tj (most:Int)(s0_l:List Token)(s0_end:Int)(l:List Volume)(l1:List Airport)(h0:Ae)(o0:Nat)(o1:Nat)(o2:Nat)(o3:Nat)(w:AV)(w1:AV)(w2:AV)(w3:AV)(w4:AV)(w5:AV)(g:Nat)(v1:AV)(g1:Nat)(v2:AV)(g2:Nat)(g3:Nat)(vH:Az v1 o1 g1 l.length)(vH1:Az v2 o2 g2 l1.length)(hI0:Ids h0 [o0,o1,o2,o3] 4):Ge most s0_l s0_end l l1≠.bad→Bh Tryz.prog 190 [(.ptr o0 g 0 0),(.ptr o0 g 0 7),(.int .i64 most),(.func (.func 191) [] [(.ptr o3 g3 0 0)])] (hp h0 [o0,o1,o2,o3] [some (.rows g 10 [[(.sl 4 (List.map Ab s0_l)),(.int .i64 s0_end),v1,w,w1,w2,w3,v2,w4,w5]]),Ai v1 g1 2 (List.map Ar l),Ai v2 g2 2 (List.map Bd l1),some (.rows g3 1 [[(.ptr o0 g 0 0)]])]) (Ce (fun a_ v h' => ∃ (v4:AV),∃ (g6:Nat),Az v4 o2 g6 a_.2.length∧v=(.tup [])∧h'=hp h0 [o0,o1,o2,o3] [some (.rows g 10 [[(.sl 4 (List.map Ab a_.1)),(.int .i64 s0_end),v1,w,w1,w2,w3,v4,w4,w5]]),Ai v1 g1 2 (List.map Ar l),Ai v4 g6 2 (List.map Bd a_.2),some (.rows g3 1 [[(.ptr o0 g 0 0)]])]) h0 (Ge most s0_l s0_end l l1)):=by
 refine A6 (n:=39) 1 Tryz.func190 J (by decide) J J hI0 J fun ids he hI=>?_
 clear hI0
 obtain rfl:ix ids 0=o0:=he 0 rfl
 obtain rfl:ix ids 1=o1:=he 1 rfl
 obtain rfl:ix ids 2=o2:=he 2 rfl
 obtain rfl:ix ids 3=o3:=he 3 rfl
 clear he
 refine Bk (Al (Ge.eq_1 _ _ _ _ _) ?_)
 refine Aj ?_
 refine Y<|Y<|O<|Ac 3 [0] [(11,v2)] ?_
 refine Aa (.I (l1.length:Int)) J (A3 (Az.len vH1 Me))<|Ac 2 [] [(14,(.bool ((l1.length:Int)==most)))] ?_
 refine Z<|Dv (π:=Unit) (fun _=>Gi s0_l s0_end l l1) (fun _=>fun(fr:Nat→AV) (h:Ae)=>fr=A2 [(0,(.q ids 0 g)),(1,(.ptr (ix ids 0) g 0 7)),(3,(.func (.func 191) [] [(.q ids 3 g3)]))]∧h=hp h0 ids [(some (.rows g 10 [[(.sl 4 (List.map Ab s0_l)),(.I s0_end),v1,w,w1,w2,w3,v2,w4,w5]])),(Ai v1 g1 2 (List.map Ar l)),(Ai v2 g2 2 (List.map Bd l1)),(some (.rows g3 1 [[(.q ids 0 g)]])),none]) ?_ fun hJ=>?_
 ·rintro _ fr h ⟨rfl,rfl⟩
  refine Al (Gi.eq_1 _ _ _ _)<|Y<|O<|Ac 5 [0] [(21,(.sl 4 (List.map Ab s0_l))),(17,(.q ids 0 g))] ?_
  refine Gb fun hs=>Aa (.sl 4 (List.map Ab (s0_l.drop 1))) J (Fg (Lw Ci Cp J hs))<|Ac 2 [] [(24,(.q ids 0 g))] ?_
  refine Aq (Aw (v:=(.sl 4 (List.map Ab (s0_l.drop 1)))) hI J J J J Ci J J J J J)<|Z<|Aj ?_
  refine Y<|O<|Ac 2 [] [(26,(.q ids 0 g)),(25,(.func (.func 191) [] [(.q ids 3 g3)]))] ?_
  refine Ak [0] hI J J (Cj (s0_l.drop 1) s0_end _ (ix ids 0) v1 w w1 w2 w3 v2 w4 w5 g (by exact hI.sub' J J)) J J J J J J (fun v _=>Ao (K:=4) (N:=1) Tryz.func190 hI) ?_
  rintro r1 _ _ _ ⟨rfl,rfl⟩
  refine Au [0] hI J J J ?_
  refine Ap<|Ak [3,0,1] hI J J (Q5 r1 ((s0_l.drop 1).drop 1) s0_end l _ (ix ids 3) (ix ids 0) (ix ids 1) g3 w w1 w2 w3 v2 w4 w5 g v1 g1 vH (by exact hI.sub' J J)) J J J J J J (fun v _=>Ao (K:=4) (N:=1) Tryz.func190 hI) ?_
  rintro r2 _ _ _ ⟨rfl,rfl⟩
  refine Au [3,0,1] hI J J J ?_
  refine Ap<|Bb (j:=4) hI J J J J Ic J fun g4=>Aq (Aw (v:=(.agg (Bd r2.1))) hI J J J J Ic J J J J J)<|Z<|Aj ?_
  refine Y<|O<|Aa (.q ids 0 g) J Ad<|Ak [0] hI J J (Cn [59] r2.2 s0_end _ (ix ids 0) v1 w w1 w2 w3 v2 w4 w5 g (by exact hI.sub' J J)) J J J J J J (fun v _=>Ao (K:=4) (N:=1) Tryz.func190 hI) ?_
  rintro _ _ _ _ ⟨rfl,rfl⟩
  refine Au [0] hI J J J ?_
  refine Ap<|Z<|Aj ?_
  refine C2 Fa [[],[],[1],[1,2],[],[4],[1,2,3,4,5],[0,0,1,2,3,4,5,6],[0,1,2,3,4,5,6,6,6,7]] [(false,0),(false,1),(false,2),(false,3),(false,4),(true,5),(true,6),(false,7),(true,8)] (by kernel_rfl)<|Ag (.ptr (ix ids 0) g 0 7) J J Ad<|Ag (.ptr (ix ids 0) g 0 7) J J Ad<|Ag (.ptr (ix ids 0) g 0 7) J J (Bg J)<|Ag v2 J J (As (Ba hI J J J Me J))<|Ag (.agg (Bd r2.1)) J J (As (Ba hI J J J Ic J))<|Hj J J (fun _ _=>J) (fun K hK=>Kx (e:=Bd) (L:=[r2.1]) (st:=2) (rows:=[[(.str r2.1.Name),(.sl 2 (List.map Da r2.1.Modes))]]) Me Ic J J J J J (.cons (RowSim.refl _) .nil) (fun x=>Tv x) J J (hK _ _ (Af J (Bp J (As (Ba hI J J J Me J)) (Bp J (Bg J) (Bp J Ad (Bp J Ad Bw))))) ?_))
  clear hK K
  refine Jg fun hl=>Hj J J (fun _ _=>J) (fun K hK=>Gx (e:=Bd) (L:=l1) (L2:=[r2.1]) (v:=v2) (g:=g2) (st:=2) (j:=2) hI J J J vH1 J (Lv J) Me Me J Ic J J J hl fun v3 g5 vH2=>hK _ _ (Af J (Af J (Af J (Af J (Bp J Ad Bw))))) ?_)
  clear hK K
  refine Ag (.ptr (ix ids 0) g 0 7) J J (Bg J)<|Fk J (fun _ _=>J) (fun K hK=>Dj (Lm vH2 hI J J J J Me J J J) (hK _ _ (Af J (Af J (Af J (Af J (Af J (Af J Bw)))))) ?_))
  clear hK K
  refine Cl<|Aj ?_
  exact B2 (K:=4) (N:=1) (a:=((r2.2.drop 1),(l1++[r2.1]))) (vs:=[]) [some (.rows g 10 [[(.sl 4 (List.map Ab (r2.2.drop 1))),(.I s0_end),v1,w,w1,w2,w3,v3,w4,w5]]),Ai v1 g1 2 (List.map Ar l),Ai v3 g5 2 (List.map Bd (l1++[r2.1])),some (.rows g3 1 [[(.q ids 0 g)]])] Tryz.func190 hI J J J (.keep (.keep (.keep (.keep (.drop .nil))))) (.same _) ⟨v3,g5,vH2,J,J⟩
 refine B3 J (fun hc=>?_) (fun hc=>?_)
 ·refine O<|Aa (.q ids 0 g) J Ad<|Ak [0] hI J J (B7 2 s0_l s0_end _ (ix ids 0) v1 w w1 w2 w3 v2 w4 w5 g (by exact hI.sub' J J)) J J J J J J (fun v _=>Ao (K:=4) (N:=1) Tryz.func190 hI) ?_
  rintro _ _ _ _ ⟨rfl,rfl⟩
  refine Au [0] hI J J J ?_
  refine Ap<|Z<|Bo (hJ () _ _ ⟨J,J⟩)
 refine Ay<|Bo (hJ () _ _ ⟨J,J⟩)
theorem Ti (s0_l:List Token)(s0_end:Int)(l:List Volume)(l1:List Airport)(h0:Ae)(o0:Nat)(o1:Nat)(o2:Nat)(w:AV)(w1:AV)(w2:AV)(w3:AV)(w4:AV)(w5:AV)(g:Nat)(v1:AV)(g1:Nat)(v2:AV)(g2:Nat)(vH:Az v1 o1 g1 l.length)(vH1:Az v2 o2 g2 l1.length)(hI0:Ids h0 [o0,o1,o2] 3):H7 s0_l s0_end l l1≠.bad→Bh Tryz.prog 189 [(.ptr o0 g 0 0)] (hp h0 [o0,o1,o2] [some (.rows g 10 [[(.sl 4 (List.map Ab s0_l)),(.int .i64 s0_end),v1,w,w1,w2,w3,v2,w4,w5]]),Ai v1 g1 2 (List.map Ar l),Ai v2 g2 2 (List.map Bd l1)]) (Ce (fun a_ v h' => ∃ (v4:AV),∃ (g5:Nat),Az v4 o2 g5 a_.2.length∧v=(.tup [])∧h'=hp h0 [o0,o1,o2] [some (.rows g 10 [[(.sl 4 (List.map Ab a_.1)),(.int .i64 s0_end),v1,w,w1,w2,w3,v4,w4,w5]]),Ai v1 g1 2 (List.map Ar l),Ai v4 g5 2 (List.map Bd a_.2)]) h0 (H7 s0_l s0_end l l1)):=by
 refine A6 (n:=9) 1 Tryz.func189 J (by decide) J J hI0 J fun ids he hI=>?_
 clear hI0
 obtain rfl:ix ids 0=o0:=he 0 rfl
 obtain rfl:ix ids 1=o1:=he 1 rfl
 obtain rfl:ix ids 2=o2:=he 2 rfl
 clear he
 refine Bk (Al (H7.eq_1 _ _ _ _) ?_)
 refine Aj ?_
 refine Y<|O<|Ck (v:=(.q ids 0 g)) (j:=3) hI J J J J J J J fun g3=>Z<|Aj ?_
 refine C2 Fa [[],[],[1],[1,2],[1,2,3],[],[0,1,2,3,4,5]] [(false,0),(false,1),(false,2),(false,3),(false,4),(false,5),(true,6)] (by kernel_rfl)<|Ag (.q ids 0 g) J J (As (Ba hI J J J Q2 J))<|Ag (.q ids 0 g) J J (As (Ba hI J J J Q2 J))<|Ag (.q ids 0 g) J J (Bg J)<|Ag (.ptr (ix ids 0) g 0 2) J J (Cb (B0 (c:=0) (off:=2) (i:=2) Wn J Eh J))<|Ag (.ptr (ix ids 0) g 0 7) J J (Cb (B0 (c:=2) (off:=5) (i:=5) Eh J Me J))<|Ag (.func (.func 191) [] [(.q ids 3 g3)]) J J Pc ?_
 refine Qa [0,1,2,3] hI J J (Tj 16 s0_l s0_end l l1 _ (ix ids 0) (ix ids 1) (ix ids 2) (ix ids 3) w w1 w2 w3 w4 w5 g v1 g1 v2 g2 g3 vH vH1 (by exact hI.sub' J J)) J J J J J J J (fun v _ _ _=>Ao (K:=3) (N:=1) Tryz.func189 hI) ?_
 rintro r _ _ _ ⟨v3,g4,vH2,rfl,rfl⟩
 refine Rs [0,1,2,3] [some (.rows g 10 [[(.sl 4 (List.map Ab r.1)),(.I s0_end),v1,w,w1,w2,w3,v3,w4,w5]]),Ai v1 g1 2 (List.map Ar l),Ai v3 g4 2 (List.map Bd r.2),some (.rows g3 1 [[(.q ids 0 g)]])] hI J J J J ⟨(Af J (Af J (Af J (Af J (Af J (Af J Bw)))))),?_⟩
 refine R0<|Cl<|Aj ?_
 exact B2 (K:=3) (N:=1) (a:=(r.1,r.2)) (vs:=[]) [some (.rows g 10 [[(.sl 4 (List.map Ab r.1)),(.I s0_end),v1,w,w1,w2,w3,v3,w4,w5]]),Ai v1 g1 2 (List.map Ar l),Ai v3 g4 2 (List.map Bd r.2)] Tryz.func189 hI J J J (.keep (.keep (.keep (.drop .nil)))) (.same _) ⟨v3,g4,vH2,J,J⟩
theorem T6 (most:Int)(s0_l:List Token)(s0_end:Int)(l:List Class)(h0:Ae)(o0:Nat)(o1:Nat)(o2:Nat)(w:AV)(w1:AV)(w2:AV)(w3:AV)(w4:AV)(w5:AV)(w6:AV)(g:Nat)(v1:AV)(g1:Nat)(g2:Nat)(vH:Az v1 o1 g1 l.length)(hI0:Ids h0 [o0,o1,o2] 3):G3 most s0_l s0_end l≠.bad→Bh Tryz.prog 195 [(.ptr o0 g 0 0),(.ptr o0 g 0 8),(.int .i64 most),(.func (.func 196) [] [(.ptr o2 g2 0 0)])] (hp h0 [o0,o1,o2] [some (.rows g 10 [[(.sl 4 (List.map Ab s0_l)),(.int .i64 s0_end),w,w1,w2,w3,w4,w5,v1,w6]]),Ai v1 g1 4 (List.map B6 l),some (.rows g2 1 [[(.ptr o0 g 0 0)]])]) (Ce (fun a_ v h' => ∃ (v3:AV),∃ (g5:Nat),Az v3 o1 g5 a_.length∧v=(.tup [])∧h'=hp h0 [o0,o1,o2] [some (.rows g 10 [[(.sl 4 (List.map Ab (((((((((s0_l.drop 1).drop 1).drop 1).drop 1).drop 1).drop 1).drop 1).drop 1).drop 1))),(.int .i64 s0_end),w,w1,w2,w3,w4,w5,v3,w6]]),Ai v3 g5 4 (List.map B6 a_),some (.rows g2 1 [[(.ptr o0 g 0 0)]])]) h0 (G3 most s0_l s0_end l)):=by
 refine A6 (n:=39) 1 Tryz.func195 J (by decide) J J hI0 J fun ids he hI=>?_
 clear hI0
 obtain rfl:ix ids 0=o0:=he 0 rfl
 obtain rfl:ix ids 1=o1:=he 1 rfl
 obtain rfl:ix ids 2=o2:=he 2 rfl
 clear he
 refine Bk (Al (G3.eq_1 _ _ _ _) ?_)
 refine Aj ?_
 refine Y<|Y<|O<|Ac 3 [0] [(11,v1)] ?_
 refine Aa (.I (l.length:Int)) J (A3 (Az.len vH Ld))<|Ac 2 [] [(14,(.bool ((l.length:Int)==most)))] ?_
 refine Z<|Dv (π:=Unit) (fun _=>G8 s0_l s0_end l) (fun _=>fun(fr:Nat→AV) (h:Ae)=>fr=A2 [(0,(.q ids 0 g)),(1,(.ptr (ix ids 0) g 0 8)),(3,(.func (.func 196) [] [(.q ids 2 g2)]))]∧h=hp h0 ids [(some (.rows g 10 [[(.sl 4 (List.map Ab s0_l)),(.I s0_end),w,w1,w2,w3,w4,w5,v1,w6]])),(Ai v1 g1 4 (List.map B6 l)),(some (.rows g2 1 [[(.q ids 0 g)]])),none]) ?_ fun hJ=>?_
 ·rintro _ fr h ⟨rfl,rfl⟩
  refine Al (G8.eq_1 _ _ _)<|Y<|O<|Ac 5 [0] [(21,(.sl 4 (List.map Ab s0_l))),(17,(.q ids 0 g))] ?_
  refine Gb fun hs=>Aa (.sl 4 (List.map Ab (s0_l.drop 1))) J (Fg (Lw Ci Cp J hs))<|Ac 2 [] [(24,(.q ids 0 g))] ?_
  refine Aq (Aw (v:=(.sl 4 (List.map Ab (s0_l.drop 1)))) hI J J J J Ci J J J J J)<|Z<|Aj ?_
  refine Y<|O<|Ac 2 [] [(26,(.q ids 0 g)),(25,(.func (.func 196) [] [(.q ids 2 g2)]))] ?_
  refine Ak [0] hI J J (Cj (s0_l.drop 1) s0_end _ (ix ids 0) w w1 w2 w3 w4 w5 v1 w6 g (by exact hI.sub' J J)) J J J J J J (fun v _=>Ao (K:=3) (N:=1) Tryz.func195 hI) ?_
  rintro r1 _ _ _ ⟨rfl,rfl⟩
  refine Au [0] hI J J J ?_
  refine Ap<|Ak [2,0] hI J J (Sj r1 ((s0_l.drop 1).drop 1) s0_end _ (ix ids 2) (ix ids 0) g2 w w1 w2 w3 w4 w5 v1 w6 g (by exact hI.sub' J J)) J J J J J J (fun v _=>Ao (K:=3) (N:=1) Tryz.func195 hI) ?_
  rintro r2 _ _ _ ⟨rfl,rfl⟩
  refine Au [2,0] hI J J J ?_
  refine Ap<|Bb (j:=3) hI J J J J K9 J fun g3=>Aq (Aw (v:=(.agg (B6 r2))) hI J J J J K9 J J J J J)<|Z<|Aj ?_
  refine Y<|O<|Aa (.q ids 0 g) J Ad<|Ak [0] hI J J (Cn [59] ((((((((s0_l.drop 1).drop 1).drop 1).drop 1).drop 1).drop 1).drop 1).drop 1) s0_end _ (ix ids 0) w w1 w2 w3 w4 w5 v1 w6 g (by exact hI.sub' J J)) J J J J J J (fun v _=>Ao (K:=3) (N:=1) Tryz.func195 hI) ?_
  rintro _ _ _ _ ⟨rfl,rfl⟩
  refine Au [0] hI J J J ?_
  refine Ap<|Z<|Aj ?_
  refine C2 Fa [[],[],[1],[1,2],[],[4],[1,2,3,4,5],[0,0,1,2,3,4,5,6],[0,1,2,3,4,5,6,6,6,7]] [(false,0),(false,1),(false,2),(false,3),(false,4),(true,5),(true,6),(false,7),(true,8)] (by kernel_rfl)<|Ag (.ptr (ix ids 0) g 0 8) J J Ad<|Ag (.ptr (ix ids 0) g 0 8) J J Ad<|Ag (.ptr (ix ids 0) g 0 8) J J (Bg J)<|Ag v1 J J (As (Ba hI J J J Ld J))<|Ag (.agg (B6 r2)) J J (As (Ba hI J J J K9 J))<|Hj J J (fun _ _=>J) (fun K hK=>Kx (e:=B6) (L:=[r2]) (st:=4) (rows:=[[(.str r2.Name),(.I r2.Slow),(.I r2.Fast),(.I r2.Places)]]) Ld K9 J J J J J (.cons (RowSim.refl _) .nil) (fun x=>Y5 x) J J (hK _ _ (Af J (Bp J (As (Ba hI J J J Ld J)) (Bp J (Bg J) (Bp J Ad (Bp J Ad Bw))))) ?_))
  clear hK K
  refine Jg fun hl=>Hj J J (fun _ _=>J) (fun K hK=>Gx (e:=B6) (L:=l) (L2:=[r2]) (v:=v1) (g:=g1) (st:=4) (j:=1) hI J J J vH J (Lv J) Ld Ld J K9 J J J hl fun v2 g4 vH1=>hK _ _ (Af J (Af J (Af J (Af J (Bp J Ad Bw))))) ?_)
  clear hK K
  refine Ag (.ptr (ix ids 0) g 0 8) J J (Bg J)<|Fk J (fun _ _=>J) (fun K hK=>Dj (Lm vH1 hI J J J J Ld J J J) (hK _ _ (Af J (Af J (Af J (Af J (Af J (Af J Bw)))))) ?_))
  clear hK K
  refine Cl<|Aj ?_
  exact B2 (K:=3) (N:=1) (a:=(l++[r2])) (vs:=[]) [some (.rows g 10 [[(.sl 4 (List.map Ab (((((((((s0_l.drop 1).drop 1).drop 1).drop 1).drop 1).drop 1).drop 1).drop 1).drop 1))),(.I s0_end),w,w1,w2,w3,w4,w5,v2,w6]]),Ai v2 g4 4 (List.map B6 (l++[r2])),some (.rows g2 1 [[(.q ids 0 g)]])] Tryz.func195 hI J J J (.keep (.keep (.keep (.drop .nil)))) (.same _) ⟨v2,g4,vH1,J,J⟩
 refine B3 J (fun hc=>?_) (fun hc=>?_)
 ·refine O<|Aa (.q ids 0 g) J Ad<|Ak [0] hI J J (B7 2 s0_l s0_end _ (ix ids 0) w w1 w2 w3 w4 w5 v1 w6 g (by exact hI.sub' J J)) J J J J J J (fun v _=>Ao (K:=3) (N:=1) Tryz.func195 hI) ?_
  rintro _ _ _ _ ⟨rfl,rfl⟩
  refine Au [0] hI J J J ?_
  refine Ap<|Z<|Bo (hJ () _ _ ⟨J,J⟩)
 refine Ay<|Bo (hJ () _ _ ⟨J,J⟩)
theorem S9 (s0_l:List Token)(s0_end:Int)(l:List Class)(h0:Ae)(o0:Nat)(o1:Nat)(w:AV)(w1:AV)(w2:AV)(w3:AV)(w4:AV)(w5:AV)(w6:AV)(g:Nat)(v1:AV)(g1:Nat)(vH:Az v1 o1 g1 l.length)(hI0:Ids h0 [o0,o1] 2):H2 s0_l s0_end l≠.bad→Bh Tryz.prog 194 [(.ptr o0 g 0 0)] (hp h0 [o0,o1] [some (.rows g 10 [[(.sl 4 (List.map Ab s0_l)),(.int .i64 s0_end),w,w1,w2,w3,w4,w5,v1,w6]]),Ai v1 g1 4 (List.map B6 l)]) (Ce (fun a_ v h' => ∃ (v3:AV),∃ (g4:Nat),Az v3 o1 g4 a_.length∧v=(.tup [])∧h'=hp h0 [o0,o1] [some (.rows g 10 [[(.sl 4 (List.map Ab (((((((((s0_l.drop 1).drop 1).drop 1).drop 1).drop 1).drop 1).drop 1).drop 1).drop 1))),(.int .i64 s0_end),w,w1,w2,w3,w4,w5,v3,w6]]),Ai v3 g4 4 (List.map B6 a_)]) h0 (H2 s0_l s0_end l)):=by
 refine A6 (n:=9) 1 Tryz.func194 J (by decide) J J hI0 J fun ids he hI=>?_
 clear hI0
 obtain rfl:ix ids 0=o0:=he 0 rfl
 obtain rfl:ix ids 1=o1:=he 1 rfl
 clear he
 refine Bk (Al (H2.eq_1 _ _ _) ?_)
 refine Aj ?_
 refine Y<|O<|Ck (v:=(.q ids 0 g)) (j:=2) hI J J J J J J J fun g2=>Z<|Aj ?_
 refine C2 Fa [[],[],[1],[1,2],[1,2,3],[],[0,1,2,3,4,5]] [(false,0),(false,1),(false,2),(false,3),(false,4),(false,5),(true,6)] (by kernel_rfl)<|Ag (.q ids 0 g) J J (As (Ba hI J J J Q2 J))<|Ag (.q ids 0 g) J J (As (Ba hI J J J Q2 J))<|Ag (.q ids 0 g) J J (Bg J)<|Ag (.ptr (ix ids 0) g 0 2) J J (Cb (B0 (c:=0) (off:=2) (i:=2) Wn J Eh J))<|Ag (.ptr (ix ids 0) g 0 8) J J (Cb (B0 (c:=2) (off:=6) (i:=6) Eh J Ld J))<|Ag (.func (.func 196) [] [(.q ids 2 g2)]) J J Pc ?_
 refine Qa [0,1,2] hI J J (T6 8 s0_l s0_end l _ (ix ids 0) (ix ids 1) (ix ids 2) w w1 w2 w3 w4 w5 w6 g v1 g1 g2 vH (by exact hI.sub' J J)) J J J J J J J (fun v _ _ _=>Ao (K:=2) (N:=1) Tryz.func194 hI) ?_
 rintro r _ _ _ ⟨v2,g3,vH1,rfl,rfl⟩
 refine Rs [0,1,2] [some (.rows g 10 [[(.sl 4 (List.map Ab (((((((((s0_l.drop 1).drop 1).drop 1).drop 1).drop 1).drop 1).drop 1).drop 1).drop 1))),(.I s0_end),w,w1,w2,w3,w4,w5,v2,w6]]),Ai v2 g3 4 (List.map B6 r),some (.rows g2 1 [[(.q ids 0 g)]])] hI J J J J ⟨(Af J (Af J (Af J (Af J (Af J (Af J Bw)))))),?_⟩
 refine R0<|Cl<|Aj ?_
 exact B2 (K:=2) (N:=1) (a:=r) (vs:=[]) [some (.rows g 10 [[(.sl 4 (List.map Ab (((((((((s0_l.drop 1).drop 1).drop 1).drop 1).drop 1).drop 1).drop 1).drop 1).drop 1))),(.I s0_end),w,w1,w2,w3,w4,w5,v2,w6]]),Ai v2 g3 4 (List.map B6 r)] Tryz.func194 hI J J J (.keep (.keep (.drop .nil))) (.same _) ⟨v2,g3,vH1,J,J⟩
theorem Uv (most:Int)(s0_l:List Token)(s0_end:Int)(l:List Rule)(s2:Int)(h0:Ae)(o0:Nat)(o1:Nat)(o2:Nat)(o3:Nat)(o4:Nat)(w:AV)(w1:AV)(w2:AV)(w3:AV)(w4:AV)(w5:AV)(w6:AV)(g:Nat)(v1:AV)(g1:Nat)(g2:Nat)(g3:Nat)(g4:Nat)(vH:Az v1 o1 g1 l.length)(hI0:Ids h0 [o0,o1,o2,o3,o4] 5):Hu most s0_l s0_end l s2≠.bad→Bh Tryz.prog 215 [(.ptr o0 g 0 0),(.ptr o0 g 0 9),(.int .i64 most),(.func (.func 216) [] [(.ptr o2 g2 0 0),(.ptr o3 g3 0 0)])] (hp h0 [o0,o1,o2,o3,o4] [some (.rows g 10 [[(.sl 4 (List.map Ab s0_l)),(.int .i64 s0_end),w,w1,w2,w3,w4,w5,w6,v1]]),Ai v1 g1 8 (List.map A4 l),some (.rows g2 1 [[(.int .i64 s2)]]),some (.rows g3 1 [[(.func (.func 199) [] [(.ptr o4 g4 0 0)])]]),some (.rows g4 1 [[(.ptr o0 g 0 0)]])]) (Ce (fun a_ v h' => ∃ (v3:AV),∃ (g7:Nat),Az v3 o1 g7 a_.length∧v=(.tup [])∧h'=hp h0 [o0,o1,o2,o3,o4] [some (.rows g 10 [[(.sl 4 (List.map Ab ((((((((s0_l.drop 1).drop 1).drop 1).drop 1).drop 1).drop 1).drop 1).drop 1))),(.int .i64 s0_end),w,w1,w2,w3,w4,w5,w6,v3]]),Ai v3 g7 8 (List.map A4 a_),some (.rows g2 1 [[(.int .i64 s2)]]),some (.rows g3 1 [[(.func (.func 199) [] [(.ptr o4 g4 0 0)])]]),some (.rows g4 1 [[(.ptr o0 g 0 0)]])]) h0 (Hu most s0_l s0_end l s2)):=by
 refine A6 (n:=39) 1 Tryz.func215 J (by decide) J J hI0 J fun ids he hI=>?_
 clear hI0
 obtain rfl:ix ids 0=o0:=he 0 rfl
 obtain rfl:ix ids 1=o1:=he 1 rfl
 obtain rfl:ix ids 2=o2:=he 2 rfl
 obtain rfl:ix ids 3=o3:=he 3 rfl
 obtain rfl:ix ids 4=o4:=he 4 rfl
 clear he
 refine Bk (Al (Hu.eq_1 _ _ _ _ _) ?_)
 refine Aj ?_
 refine Y<|Y<|O<|Ac 3 [0] [(11,v1)] ?_
 refine Aa (.I (l.length:Int)) J (A3 (Az.len vH E7))<|Ac 2 [] [(14,(.bool ((l.length:Int)==most)))] ?_
 refine Z<|Dv (π:=Unit) (fun _=>H0 s0_l s0_end l s2) (fun _=>fun(fr:Nat→AV) (h:Ae)=>fr=A2 [(0,(.q ids 0 g)),(1,(.ptr (ix ids 0) g 0 9)),(3,(.func (.func 216) [] [(.q ids 2 g2),(.q ids 3 g3)]))]∧h=hp h0 ids [(some (.rows g 10 [[(.sl 4 (List.map Ab s0_l)),(.I s0_end),w,w1,w2,w3,w4,w5,w6,v1]])),(Ai v1 g1 8 (List.map A4 l)),(some (.rows g2 1 [[(.I s2)]])),(some (.rows g3 1 [[(.func (.func 199) [] [(.q ids 4 g4)])]])),(some (.rows g4 1 [[(.q ids 0 g)]])),none]) ?_ fun hJ=>?_
 ·rintro _ fr h ⟨rfl,rfl⟩
  refine Al (H0.eq_1 _ _ _ _)<|Y<|O<|Ac 5 [0] [(21,(.sl 4 (List.map Ab s0_l))),(17,(.q ids 0 g))] ?_
  refine Gb fun hs=>Aa (.sl 4 (List.map Ab (s0_l.drop 1))) J (Fg (Lw Ci Cp J hs))<|Ac 2 [] [(24,(.q ids 0 g))] ?_
  refine Aq (Aw (v:=(.sl 4 (List.map Ab (s0_l.drop 1)))) hI J J J J Ci J J J J J)<|Z<|Aj ?_
  refine Y<|O<|Ac 2 [] [(26,(.q ids 0 g)),(25,(.func (.func 216) [] [(.q ids 2 g2),(.q ids 3 g3)]))] ?_
  refine Ak [0] hI J J (Cj (s0_l.drop 1) s0_end _ (ix ids 0) w w1 w2 w3 w4 w5 w6 v1 g (by exact hI.sub' J J)) J J J J J J (fun v _=>Ao (K:=5) (N:=1) Tryz.func215 hI) ?_
  rintro r1 _ _ _ ⟨rfl,rfl⟩
  refine Au [0] hI J J J ?_
  refine Ap<|Ak [2,3,4,0] hI J J (Tc r1 s2 ((s0_l.drop 1).drop 1) s0_end _ (ix ids 2) (ix ids 3) (ix ids 4) (ix ids 0) g2 g3 g4 w w1 w2 w3 w4 w5 w6 v1 g (by exact hI.sub' J J)) J J J J J J (fun v _=>Ao (K:=5) (N:=1) Tryz.func215 hI) ?_
  rintro r2 _ _ _ ⟨rfl,rfl⟩
  refine Au [2,3,4,0] hI J J J ?_
  refine Ap<|Bb (j:=5) hI J J J J Dk J fun g5=>Aq (Aw (v:=(.agg (A4 r2))) hI J J J J Dk J J J J J)<|Z<|Aj ?_
  refine Y<|O<|Aa (.q ids 0 g) J Ad<|Ak [0] hI J J (Cn [59] (((((((s0_l.drop 1).drop 1).drop 1).drop 1).drop 1).drop 1).drop 1) s0_end _ (ix ids 0) w w1 w2 w3 w4 w5 w6 v1 g (by exact hI.sub' J J)) J J J J J J (fun v _=>Ao (K:=5) (N:=1) Tryz.func215 hI) ?_
  rintro _ _ _ _ ⟨rfl,rfl⟩
  refine Au [0] hI J J J ?_
  refine Ap<|Z<|Aj ?_
  refine C2 Fa [[],[],[1],[1,2],[],[4],[1,2,3,4,5],[0,0,1,2,3,4,5,6],[0,1,2,3,4,5,6,6,6,7]] [(false,0),(false,1),(false,2),(false,3),(false,4),(true,5),(true,6),(false,7),(true,8)] (by kernel_rfl)<|Ag (.ptr (ix ids 0) g 0 9) J J Ad<|Ag (.ptr (ix ids 0) g 0 9) J J Ad<|Ag (.ptr (ix ids 0) g 0 9) J J (Bg J)<|Ag v1 J J (As (Ba hI J J J E7 J))<|Ag (.agg (A4 r2)) J J (As (Ba hI J J J Dk J))<|Hj J J (fun _ _=>J) (fun K hK=>Kx (e:=A4) (L:=[r2]) (st:=8) (rows:=[[(.I r2.Kind),(.str r2.C),(.str r2.A),(.I r2.Class),(.I r2.Airport),(.I r2.N),(.I r2.Hours.From),(.I r2.Hours.To)]]) E7 Dk J J J J J (.cons (RowSim.refl _) .nil) (fun x=>Rt x) J J (hK _ _ (Af J (Bp J (As (Ba hI J J J E7 J)) (Bp J (Bg J) (Bp J Ad (Bp J Ad Bw))))) ?_))
  clear hK K
  refine Jg fun hl=>Hj J J (fun _ _=>J) (fun K hK=>Gx (e:=A4) (L:=l) (L2:=[r2]) (v:=v1) (g:=g1) (st:=8) (j:=1) hI J J J vH J (Lv J) E7 E7 J Dk J J J hl fun v2 g6 vH1=>hK _ _ (Af J (Af J (Af J (Af J (Bp J Ad Bw))))) ?_)
  clear hK K
  refine Ag (.ptr (ix ids 0) g 0 9) J J (Bg J)<|Fk J (fun _ _=>J) (fun K hK=>Dj (Lm vH1 hI J J J J E7 J J J) (hK _ _ (Af J (Af J (Af J (Af J (Af J (Af J Bw)))))) ?_))
  clear hK K
  refine Cl<|Aj ?_
  exact B2 (K:=5) (N:=1) (a:=(l++[r2])) (vs:=[]) [some (.rows g 10 [[(.sl 4 (List.map Ab ((((((((s0_l.drop 1).drop 1).drop 1).drop 1).drop 1).drop 1).drop 1).drop 1))),(.I s0_end),w,w1,w2,w3,w4,w5,w6,v2]]),Ai v2 g6 8 (List.map A4 (l++[r2])),some (.rows g2 1 [[(.I s2)]]),some (.rows g3 1 [[(.func (.func 199) [] [(.q ids 4 g4)])]]),some (.rows g4 1 [[(.q ids 0 g)]])] Tryz.func215 hI J J J (.keep (.keep (.keep (.keep (.keep (.drop .nil)))))) (.same _) ⟨v2,g6,vH1,J,J⟩
 refine B3 J (fun hc=>?_) (fun hc=>?_)
 ·refine O<|Aa (.q ids 0 g) J Ad<|Ak [0] hI J J (B7 2 s0_l s0_end _ (ix ids 0) w w1 w2 w3 w4 w5 w6 v1 g (by exact hI.sub' J J)) J J J J J J (fun v _=>Ao (K:=5) (N:=1) Tryz.func215 hI) ?_
  rintro _ _ _ _ ⟨rfl,rfl⟩
  refine Au [0] hI J J J ?_
  refine Ap<|Z<|Bo (hJ () _ _ ⟨J,J⟩)
 refine Ay<|Bo (hJ () _ _ ⟨J,J⟩)
theorem Sa (kind:Int)(s0_l:List Token)(s0_end:Int)(l:List Rule)(h0:Ae)(o0:Nat)(o1:Nat)(o2:Nat)(w:AV)(w1:AV)(w2:AV)(w3:AV)(w4:AV)(w5:AV)(w6:AV)(g:Nat)(v1:AV)(g1:Nat)(g2:Nat)(vH:Az v1 o1 g1 l.length)(hI0:Ids h0 [o0,o1,o2] 3):Jw kind s0_l s0_end l≠.bad→Bh Tryz.prog 198 [(.ptr o0 g 0 0),(.int .i64 kind),(.func (.func 199) [] [(.ptr o2 g2 0 0)])] (hp h0 [o0,o1,o2] [some (.rows g 10 [[(.sl 4 (List.map Ab s0_l)),(.int .i64 s0_end),w,w1,w2,w3,w4,w5,w6,v1]]),Ai v1 g1 8 (List.map A4 l),some (.rows g2 1 [[(.ptr o0 g 0 0)]])]) (Ce (fun a_ v h' => ∃ (v3:AV),∃ (g6:Nat),Az v3 o1 g6 a_.length∧v=(.tup [])∧h'=hp h0 [o0,o1,o2] [some (.rows g 10 [[(.sl 4 (List.map Ab ((((((((s0_l.drop 1).drop 1).drop 1).drop 1).drop 1).drop 1).drop 1).drop 1))),(.int .i64 s0_end),w,w1,w2,w3,w4,w5,w6,v3]]),Ai v3 g6 8 (List.map A4 a_),some (.rows g2 1 [[(.ptr o0 g 0 0)]])]) h0 (Jw kind s0_l s0_end l)):=by
 refine A6 (n:=13) 2 Tryz.func198 J (by decide) J J hI0 J fun ids he hI=>?_
 clear hI0
 obtain rfl:ix ids 0=o0:=he 0 rfl
 obtain rfl:ix ids 1=o1:=he 1 rfl
 obtain rfl:ix ids 2=o2:=he 2 rfl
 clear he
 refine Bk (Al (Jw.eq_1 _ _ _ _) ?_)
 refine Aj ?_
 refine Y<|O<|Ck (v:=(.I kind)) (j:=3) hI J J J J J J J fun g3=>Ck (v:=(.func (.func 199) [] [(.q ids 2 g2)])) (j:=4) hI J J J J J J J fun g4=>Z<|Aj ?_
 refine O<|Ac 6 [] [(11,(.func (.func 216) [] [(.q ids 3 g3),(.q ids 4 g4)])),(10,(.ptr (ix ids 0) g 0 9)),(6,(.q ids 0 g))] ?_
 refine Ak [0,1,3,4,2] hI J J (Uv 64 s0_l s0_end l kind _ (ix ids 0) (ix ids 1) (ix ids 3) (ix ids 4) (ix ids 2) w w1 w2 w3 w4 w5 w6 g v1 g1 g3 g4 g2 vH (by exact hI.sub' J J)) J J J J J J (fun v _=>Ao (K:=3) (N:=2) Tryz.func198 hI) ?_
 rintro r _ _ _ ⟨v2,g5,vH1,rfl,rfl⟩
 refine Au [0,1,3,4,2] hI J J J ?_
 refine Ap<|Z<|Aj ?_
 exact B2 (K:=3) (N:=2) (a:=r) (vs:=[]) [some (.rows g 10 [[(.sl 4 (List.map Ab ((((((((s0_l.drop 1).drop 1).drop 1).drop 1).drop 1).drop 1).drop 1).drop 1))),(.I s0_end),w,w1,w2,w3,w4,w5,w6,v2]]),Ai v2 g5 8 (List.map A4 r),some (.rows g2 1 [[(.q ids 0 g)]])] Tryz.func198 hI J J J (.keep (.keep (.keep (.drop (.drop .nil))))) (.same _) ⟨v2,g5,vH1,J,J⟩
theorem Sv (s0_l:List Token)(s0_end:Int)(l:List Rule)(h0:Ae)(o0:Nat)(o1:Nat)(w:AV)(w1:AV)(w2:AV)(w3:AV)(w4:AV)(w5:AV)(w6:AV)(g:Nat)(v1:AV)(g1:Nat)(vH:Az v1 o1 g1 l.length)(hI0:Ids h0 [o0,o1] 2):Hy s0_l s0_end l≠.bad→Bh Tryz.prog 197 [(.ptr o0 g 0 0)] (hp h0 [o0,o1] [some (.rows g 10 [[(.sl 4 (List.map Ab s0_l)),(.int .i64 s0_end),w,w1,w2,w3,w4,w5,w6,v1]]),Ai v1 g1 8 (List.map A4 l)]) (Ce (fun a_ v h' => ∃ (v3:AV),∃ (g4:Nat),Az v3 o1 g4 a_.length∧v=(.tup [])∧h'=hp h0 [o0,o1] [some (.rows g 10 [[(.sl 4 (List.map Ab ((((((((s0_l.drop 1).drop 1).drop 1).drop 1).drop 1).drop 1).drop 1).drop 1))),(.int .i64 s0_end),w,w1,w2,w3,w4,w5,w6,v3]]),Ai v3 g4 8 (List.map A4 a_)]) h0 (Hy s0_l s0_end l)):=by
 refine A6 (n:=5) 1 Tryz.func197 J (by decide) J J hI0 J fun ids he hI=>?_
 clear hI0
 obtain rfl:ix ids 0=o0:=he 0 rfl
 obtain rfl:ix ids 1=o1:=he 1 rfl
 clear he
 refine Bk (Al (Hy.eq_1 _ _ _) ?_)
 refine Aj ?_
 refine Y<|O<|Ck (v:=(.q ids 0 g)) (j:=2) hI J J J J J J J fun g2=>Z<|Aj ?_
 refine O<|Ac 2 [2] [(3,(.func (.func 199) [] [(.q ids 2 g2)])),(2,(.q ids 0 g))] ?_
 refine Ak [0,1,2] hI J J (Sa 1 s0_l s0_end l _ (ix ids 0) (ix ids 1) (ix ids 2) w w1 w2 w3 w4 w5 w6 g v1 g1 g2 vH (by exact hI.sub' J J)) J J J J J J (fun v _=>Ao (K:=2) (N:=1) Tryz.func197 hI) ?_
 rintro r _ _ _ ⟨v2,g3,vH1,rfl,rfl⟩
 refine Au [0,1,2] hI J J J ?_
 refine Ap<|Z<|Aj ?_
 exact B2 (K:=2) (N:=1) (a:=r) (vs:=[]) [some (.rows g 10 [[(.sl 4 (List.map Ab ((((((((s0_l.drop 1).drop 1).drop 1).drop 1).drop 1).drop 1).drop 1).drop 1))),(.I s0_end),w,w1,w2,w3,w4,w5,w6,v2]]),Ai v2 g3 8 (List.map A4 r)] Tryz.func197 hI J J J (.keep (.keep (.drop .nil))) (.same _) ⟨v2,g3,vH1,J,J⟩
theorem Uy (most:Int)(s0_l:List Token)(s0_end:Int)(l:List Rule)(s2:Int)(h0:Ae)(o0:Nat)(o1:Nat)(o2:Nat)(o3:Nat)(w:AV)(w1:AV)(w2:AV)(w3:AV)(w4:AV)(w5:AV)(w6:AV)(g:Nat)(v1:AV)(g1:Nat)(g2:Nat)(g3:Nat)(vH:Az v1 o1 g1 l.length)(hI0:Ids h0 [o0,o1,o2,o3] 4):Hi most s0_l s0_end l s2≠.bad→Bh Tryz.prog 215 [(.ptr o0 g 0 0),(.ptr o0 g 0 9),(.int .i64 most),(.func (.func 216) [] [(.ptr o2 g2 0 0),(.ptr o3 g3 0 0)])] (hp h0 [o0,o1,o2,o3] [some (.rows g 10 [[(.sl 4 (List.map Ab s0_l)),(.int .i64 s0_end),w,w1,w2,w3,w4,w5,w6,v1]]),Ai v1 g1 8 (List.map A4 l),some (.rows g2 1 [[(.int .i64 s2)]]),some (.rows g3 1 [[(.func (.func 202) [] [])]])]) (Ce (fun a_ v h' => ∃ (v3:AV),∃ (g6:Nat),Az v3 o1 g6 a_.length∧v=(.tup [])∧h'=hp h0 [o0,o1,o2,o3] [some (.rows g 10 [[(.sl 4 (List.map Ab (((s0_l.drop 1).drop 1).drop 1))),(.int .i64 s0_end),w,w1,w2,w3,w4,w5,w6,v3]]),Ai v3 g6 8 (List.map A4 a_),some (.rows g2 1 [[(.int .i64 s2)]]),some (.rows g3 1 [[(.func (.func 202) [] [])]])]) h0 (Hi most s0_l s0_end l s2)):=by
 refine A6 (n:=39) 1 Tryz.func215 J (by decide) J J hI0 J fun ids he hI=>?_
 clear hI0
 obtain rfl:ix ids 0=o0:=he 0 rfl
 obtain rfl:ix ids 1=o1:=he 1 rfl
 obtain rfl:ix ids 2=o2:=he 2 rfl
 obtain rfl:ix ids 3=o3:=he 3 rfl
 clear he
 refine Bk (Al (Hi.eq_1 _ _ _ _ _) ?_)
 refine Aj ?_
 refine Y<|Y<|O<|Ac 3 [0] [(11,v1)] ?_
 refine Aa (.I (l.length:Int)) J (A3 (Az.len vH E7))<|Ac 2 [] [(14,(.bool ((l.length:Int)==most)))] ?_
 refine Z<|Dv (π:=Unit) (fun _=>H4 s0_l s0_end l s2) (fun _=>fun(fr:Nat→AV) (h:Ae)=>fr=A2 [(0,(.q ids 0 g)),(1,(.ptr (ix ids 0) g 0 9)),(3,(.func (.func 216) [] [(.q ids 2 g2),(.q ids 3 g3)]))]∧h=hp h0 ids [(some (.rows g 10 [[(.sl 4 (List.map Ab s0_l)),(.I s0_end),w,w1,w2,w3,w4,w5,w6,v1]])),(Ai v1 g1 8 (List.map A4 l)),(some (.rows g2 1 [[(.I s2)]])),(some (.rows g3 1 [[(.func (.func 202) [] [])]])),none]) ?_ fun hJ=>?_
 ·rintro _ fr h ⟨rfl,rfl⟩
  refine Al (H4.eq_1 _ _ _ _)<|Y<|O<|Ac 5 [0] [(21,(.sl 4 (List.map Ab s0_l))),(17,(.q ids 0 g))] ?_
  refine Gb fun hs=>Aa (.sl 4 (List.map Ab (s0_l.drop 1))) J (Fg (Lw Ci Cp J hs))<|Ac 2 [] [(24,(.q ids 0 g))] ?_
  refine Aq (Aw (v:=(.sl 4 (List.map Ab (s0_l.drop 1)))) hI J J J J Ci J J J J J)<|Z<|Aj ?_
  refine Y<|O<|Ac 2 [] [(26,(.q ids 0 g)),(25,(.func (.func 216) [] [(.q ids 2 g2),(.q ids 3 g3)]))] ?_
  refine Ak [0] hI J J (Cj (s0_l.drop 1) s0_end _ (ix ids 0) w w1 w2 w3 w4 w5 w6 v1 g (by exact hI.sub' J J)) J J J J J J (fun v _=>Ao (K:=4) (N:=1) Tryz.func215 hI) ?_
  rintro r1 _ _ _ ⟨rfl,rfl⟩
  refine Au [0] hI J J J ?_
  refine Ap<|Ak [2,3] hI J J (S6 r1 s2 _ (ix ids 2) (ix ids 3) g2 g3 (by exact hI.sub' J J)) J J J J J J (fun v _=>Ao (K:=4) (N:=1) Tryz.func215 hI) ?_
  rintro _ _ _ _ ⟨rfl,rfl⟩
  refine Au [2,3] hI J J J ?_
  refine Ap<|Bb (j:=4) hI J J J J Dk J fun g4=>Aq (Aw (v:=(.agg [(.I s2),(.str r1),(.str []),(.I 0),(.I 0),(.I 0),(.I 0),(.I 0)])) hI J J J J Dk J J J J J)<|Z<|Aj ?_
  refine Y<|O<|Aa (.q ids 0 g) J Ad<|Ak [0] hI J J (Cn [59] ((s0_l.drop 1).drop 1) s0_end _ (ix ids 0) w w1 w2 w3 w4 w5 w6 v1 g (by exact hI.sub' J J)) J J J J J J (fun v _=>Ao (K:=4) (N:=1) Tryz.func215 hI) ?_
  rintro _ _ _ _ ⟨rfl,rfl⟩
  refine Au [0] hI J J J ?_
  refine Ap<|Z<|Aj ?_
  refine C2 Fa [[],[],[1],[1,2],[],[4],[1,2,3,4,5],[0,0,1,2,3,4,5,6],[0,1,2,3,4,5,6,6,6,7]] [(false,0),(false,1),(false,2),(false,3),(false,4),(true,5),(true,6),(false,7),(true,8)] (by kernel_rfl)<|Ag (.ptr (ix ids 0) g 0 9) J J Ad<|Ag (.ptr (ix ids 0) g 0 9) J J Ad<|Ag (.ptr (ix ids 0) g 0 9) J J (Bg J)<|Ag v1 J J (As (Ba hI J J J E7 J))<|Ag (.agg [(.I s2),(.str r1),(.str []),(.I 0),(.I 0),(.I 0),(.I 0),(.I 0)]) J J (As (Ba hI J J J Dk J))<|Hj J J (fun _ _=>J) (fun K hK=>Kx (e:=A4) (L:=[({ Kind:=s2,C:=r1,A:=[],Class:=0,Airport:=0,N:=0,Hours:=({ From:=0,To:=0 }:Span) }:Rule)]) (st:=8) (rows:=[[(.I s2),(.str r1),(.str []),(.I 0),(.I 0),(.I 0),(.I 0),(.I 0)]]) E7 Dk J J J J J (.cons (.cons (.same _) (.cons (.same _) (.cons (.same _) (.cons (.same _) (.cons (.same _) (.cons (.same _) (.cons (.same _) (.cons (.same _) .nil)))))))) .nil) (fun x=>Rt x) J J (hK _ _ (Af J (Bp J (As (Ba hI J J J E7 J)) (Bp J (Bg J) (Bp J Ad (Bp J Ad Bw))))) ?_))
  clear hK K
  refine Jg fun hl=>Hj J J (fun _ _=>J) (fun K hK=>Gx (e:=A4) (L:=l) (L2:=[({ Kind:=s2,C:=r1,A:=[],Class:=0,Airport:=0,N:=0,Hours:=({ From:=0,To:=0 }:Span) }:Rule)]) (v:=v1) (g:=g1) (st:=8) (j:=1) hI J J J vH J (Lv J) E7 E7 J Dk J J J hl fun v2 g5 vH1=>hK _ _ (Af J (Af J (Af J (Af J (Bp J Ad Bw))))) ?_)
  clear hK K
  refine Ag (.ptr (ix ids 0) g 0 9) J J (Bg J)<|Fk J (fun _ _=>J) (fun K hK=>Dj (Lm vH1 hI J J J J E7 J J J) (hK _ _ (Af J (Af J (Af J (Af J (Af J (Af J Bw)))))) ?_))
  clear hK K
  refine Cl<|Aj ?_
  exact B2 (K:=4) (N:=1) (a:=(l++[({ Kind:=s2,C:=r1,A:=[],Class:=0,Airport:=0,N:=0,Hours:=({ From:=0,To:=0 }:Span) }:Rule)])) (vs:=[]) [some (.rows g 10 [[(.sl 4 (List.map Ab (((s0_l.drop 1).drop 1).drop 1))),(.I s0_end),w,w1,w2,w3,w4,w5,w6,v2]]),Ai v2 g5 8 (List.map A4 (l++[({ Kind:=s2,C:=r1,A:=[],Class:=0,Airport:=0,N:=0,Hours:=({ From:=0,To:=0 }:Span) }:Rule)])),some (.rows g2 1 [[(.I s2)]]),some (.rows g3 1 [[(.func (.func 202) [] [])]])] Tryz.func215 hI J J J (.keep (.keep (.keep (.keep (.drop .nil))))) (.same _) ⟨v2,g5,vH1,J,J⟩
 refine B3 J (fun hc=>?_) (fun hc=>?_)
 ·refine O<|Aa (.q ids 0 g) J Ad<|Ak [0] hI J J (B7 2 s0_l s0_end _ (ix ids 0) w w1 w2 w3 w4 w5 w6 v1 g (by exact hI.sub' J J)) J J J J J J (fun v _=>Ao (K:=4) (N:=1) Tryz.func215 hI) ?_
  rintro _ _ _ _ ⟨rfl,rfl⟩
  refine Au [0] hI J J J ?_
  refine Ap<|Z<|Bo (hJ () _ _ ⟨J,J⟩)
 refine Ay<|Bo (hJ () _ _ ⟨J,J⟩)
theorem Sk (kind:Int)(s0_l:List Token)(s0_end:Int)(l:List Rule)(h0:Ae)(o0:Nat)(o1:Nat)(w:AV)(w1:AV)(w2:AV)(w3:AV)(w4:AV)(w5:AV)(w6:AV)(g:Nat)(v1:AV)(g1:Nat)(vH:Az v1 o1 g1 l.length)(hI0:Ids h0 [o0,o1] 2):J8 kind s0_l s0_end l≠.bad→Bh Tryz.prog 198 [(.ptr o0 g 0 0),(.int .i64 kind),(.func (.func 202) [] [])] (hp h0 [o0,o1] [some (.rows g 10 [[(.sl 4 (List.map Ab s0_l)),(.int .i64 s0_end),w,w1,w2,w3,w4,w5,w6,v1]]),Ai v1 g1 8 (List.map A4 l)]) (Ce (fun a_ v h' => ∃ (v3:AV),∃ (g5:Nat),Az v3 o1 g5 a_.length∧v=(.tup [])∧h'=hp h0 [o0,o1] [some (.rows g 10 [[(.sl 4 (List.map Ab (((s0_l.drop 1).drop 1).drop 1))),(.int .i64 s0_end),w,w1,w2,w3,w4,w5,w6,v3]]),Ai v3 g5 8 (List.map A4 a_)]) h0 (J8 kind s0_l s0_end l)):=by
 refine A6 (n:=13) 2 Tryz.func198 J (by decide) J J hI0 J fun ids he hI=>?_
 clear hI0
 obtain rfl:ix ids 0=o0:=he 0 rfl
 obtain rfl:ix ids 1=o1:=he 1 rfl
 clear he
 refine Bk (Al (J8.eq_1 _ _ _ _) ?_)
 refine Aj ?_
 refine Y<|O<|Ck (v:=(.I kind)) (j:=2) hI J J J J J J J fun g2=>Ck (v:=(.func (.func 202) [] [])) (j:=3) hI J J J J J J J fun g3=>Z<|Aj ?_
 refine O<|Ac 6 [] [(11,(.func (.func 216) [] [(.q ids 2 g2),(.q ids 3 g3)])),(10,(.ptr (ix ids 0) g 0 9)),(6,(.q ids 0 g))] ?_
 refine Ak [0,1,2,3] hI J J (Uy 64 s0_l s0_end l kind _ (ix ids 0) (ix ids 1) (ix ids 2) (ix ids 3) w w1 w2 w3 w4 w5 w6 g v1 g1 g2 g3 vH (by exact hI.sub' J J)) J J J J J J (fun v _=>Ao (K:=2) (N:=2) Tryz.func198 hI) ?_
 rintro r _ _ _ ⟨v2,g4,vH1,rfl,rfl⟩
 refine Au [0,1,2,3] hI J J J ?_
 refine Ap<|Z<|Aj ?_
 exact B2 (K:=2) (N:=2) (a:=r) (vs:=[]) [some (.rows g 10 [[(.sl 4 (List.map Ab (((s0_l.drop 1).drop 1).drop 1))),(.I s0_end),w,w1,w2,w3,w4,w5,w6,v2]]),Ai v2 g4 8 (List.map A4 r)] Tryz.func198 hI J J J (.keep (.keep (.drop (.drop .nil)))) (.same _) ⟨v2,g4,vH1,J,J⟩
theorem S8 (s0_l:List Token)(s0_end:Int)(l:List Rule)(h0:Ae)(o0:Nat)(o1:Nat)(w:AV)(w1:AV)(w2:AV)(w3:AV)(w4:AV)(w5:AV)(w6:AV)(g:Nat)(v1:AV)(g1:Nat)(vH:Az v1 o1 g1 l.length)(hI0:Ids h0 [o0,o1] 2):Hx s0_l s0_end l≠.bad→Bh Tryz.prog 201 [(.ptr o0 g 0 0)] (hp h0 [o0,o1] [some (.rows g 10 [[(.sl 4 (List.map Ab s0_l)),(.int .i64 s0_end),w,w1,w2,w3,w4,w5,w6,v1]]),Ai v1 g1 8 (List.map A4 l)]) (Ce (fun a_ v h' => ∃ (v3:AV),∃ (g3:Nat),Az v3 o1 g3 a_.length∧v=(.tup [])∧h'=hp h0 [o0,o1] [some (.rows g 10 [[(.sl 4 (List.map Ab (((s0_l.drop 1).drop 1).drop 1))),(.int .i64 s0_end),w,w1,w2,w3,w4,w5,w6,v3]]),Ai v3 g3 8 (List.map A4 a_)]) h0 (Hx s0_l s0_end l)):=by
 refine A6 (n:=4) 0 Tryz.func201 J (by decide) J J hI0 J fun ids he hI=>?_
 clear hI0
 obtain rfl:ix ids 0=o0:=he 0 rfl
 obtain rfl:ix ids 1=o1:=he 1 rfl
 clear he
 refine Bk (Al (Hx.eq_1 _ _ _) ?_)
 refine O<|Aa (.q ids 0 g) J Ad<|Ak [0,1] hI J J (Sk 2 s0_l s0_end l _ (ix ids 0) (ix ids 1) w w1 w2 w3 w4 w5 w6 g v1 g1 vH (by exact hI.sub' J J)) J J J J J J (fun v _=>Ao (K:=2) (N:=0) Tryz.func201 hI) ?_
 rintro r _ _ _ ⟨v2,g2,vH1,rfl,rfl⟩
 refine Au [0,1] hI J J J ?_
 refine Ap<|Z<|Aj ?_
 exact B2 (K:=2) (N:=0) (a:=r) (vs:=[]) [some (.rows g 10 [[(.sl 4 (List.map Ab (((s0_l.drop 1).drop 1).drop 1))),(.I s0_end),w,w1,w2,w3,w4,w5,w6,v2]]),Ai v2 g2 8 (List.map A4 r)] Tryz.func201 hI J J J (.keep (.keep .nil)) (.same _) ⟨v2,g2,vH1,J,J⟩
theorem Ut (most:Int)(s0_l:List Token)(s0_end:Int)(l:List Rule)(s2:Int)(h0:Ae)(o0:Nat)(o1:Nat)(o2:Nat)(o3:Nat)(o4:Nat)(w:AV)(w1:AV)(w2:AV)(w3:AV)(w4:AV)(w5:AV)(w6:AV)(g:Nat)(v1:AV)(g1:Nat)(g2:Nat)(g3:Nat)(g4:Nat)(vH:Az v1 o1 g1 l.length)(hI0:Ids h0 [o0,o1,o2,o3,o4] 5):Hr most s0_l s0_end l s2≠.bad→Bh Tryz.prog 215 [(.ptr o0 g 0 0),(.ptr o0 g 0 9),(.int .i64 most),(.func (.func 216) [] [(.ptr o2 g2 0 0),(.ptr o3 g3 0 0)])] (hp h0 [o0,o1,o2,o3,o4] [some (.rows g 10 [[(.sl 4 (List.map Ab s0_l)),(.int .i64 s0_end),w,w1,w2,w3,w4,w5,w6,v1]]),Ai v1 g1 8 (List.map A4 l),some (.rows g2 1 [[(.int .i64 s2)]]),some (.rows g3 1 [[(.func (.func 206) [] [(.ptr o4 g4 0 0)])]]),some (.rows g4 1 [[(.ptr o0 g 0 0)]])]) (Ce (fun a_ v h' => ∃ (v3:AV),∃ (g7:Nat),Az v3 o1 g7 a_.length∧v=(.tup [])∧h'=hp h0 [o0,o1,o2,o3,o4] [some (.rows g 10 [[(.sl 4 (List.map Ab ((((s0_l.drop 1).drop 1).drop 1).drop 1))),(.int .i64 s0_end),w,w1,w2,w3,w4,w5,w6,v3]]),Ai v3 g7 8 (List.map A4 a_),some (.rows g2 1 [[(.int .i64 s2)]]),some (.rows g3 1 [[(.func (.func 206) [] [(.ptr o4 g4 0 0)])]]),some (.rows g4 1 [[(.ptr o0 g 0 0)]])]) h0 (Hr most s0_l s0_end l s2)):=by
 refine A6 (n:=39) 1 Tryz.func215 J (by decide) J J hI0 J fun ids he hI=>?_
 clear hI0
 obtain rfl:ix ids 0=o0:=he 0 rfl
 obtain rfl:ix ids 1=o1:=he 1 rfl
 obtain rfl:ix ids 2=o2:=he 2 rfl
 obtain rfl:ix ids 3=o3:=he 3 rfl
 obtain rfl:ix ids 4=o4:=he 4 rfl
 clear he
 refine Bk (Al (Hr.eq_1 _ _ _ _ _) ?_)
 refine Aj ?_
 refine Y<|Y<|O<|Ac 3 [0] [(11,v1)] ?_
 refine Aa (.I (l.length:Int)) J (A3 (Az.len vH E7))<|Ac 2 [] [(14,(.bool ((l.length:Int)==most)))] ?_
 refine Z<|Dv (π:=Unit) (fun _=>Hv s0_l s0_end l s2) (fun _=>fun(fr:Nat→AV) (h:Ae)=>fr=A2 [(0,(.q ids 0 g)),(1,(.ptr (ix ids 0) g 0 9)),(3,(.func (.func 216) [] [(.q ids 2 g2),(.q ids 3 g3)]))]∧h=hp h0 ids [(some (.rows g 10 [[(.sl 4 (List.map Ab s0_l)),(.I s0_end),w,w1,w2,w3,w4,w5,w6,v1]])),(Ai v1 g1 8 (List.map A4 l)),(some (.rows g2 1 [[(.I s2)]])),(some (.rows g3 1 [[(.func (.func 206) [] [(.q ids 4 g4)])]])),(some (.rows g4 1 [[(.q ids 0 g)]])),none]) ?_ fun hJ=>?_
 ·rintro _ fr h ⟨rfl,rfl⟩
  refine Al (Hv.eq_1 _ _ _ _)<|Y<|O<|Ac 5 [0] [(21,(.sl 4 (List.map Ab s0_l))),(17,(.q ids 0 g))] ?_
  refine Gb fun hs=>Aa (.sl 4 (List.map Ab (s0_l.drop 1))) J (Fg (Lw Ci Cp J hs))<|Ac 2 [] [(24,(.q ids 0 g))] ?_
  refine Aq (Aw (v:=(.sl 4 (List.map Ab (s0_l.drop 1)))) hI J J J J Ci J J J J J)<|Z<|Aj ?_
  refine Y<|O<|Ac 2 [] [(26,(.q ids 0 g)),(25,(.func (.func 216) [] [(.q ids 2 g2),(.q ids 3 g3)]))] ?_
  refine Ak [0] hI J J (Cj (s0_l.drop 1) s0_end _ (ix ids 0) w w1 w2 w3 w4 w5 w6 v1 g (by exact hI.sub' J J)) J J J J J J (fun v _=>Ao (K:=5) (N:=1) Tryz.func215 hI) ?_
  rintro r1 _ _ _ ⟨rfl,rfl⟩
  refine Au [0] hI J J J ?_
  refine Ap<|Ak [2,3,4,0] hI J J (S5 r1 s2 ((s0_l.drop 1).drop 1) s0_end _ (ix ids 2) (ix ids 3) (ix ids 4) (ix ids 0) g2 g3 g4 w w1 w2 w3 w4 w5 w6 v1 g (by exact hI.sub' J J)) J J J J J J (fun v _=>Ao (K:=5) (N:=1) Tryz.func215 hI) ?_
  rintro r2 _ _ _ ⟨rfl,rfl⟩
  refine Au [2,3,4,0] hI J J J ?_
  refine Ap<|Bb (j:=5) hI J J J J Dk J fun g5=>Aq (Aw (v:=(.agg (A4 r2))) hI J J J J Dk J J J J J)<|Z<|Aj ?_
  refine Y<|O<|Aa (.q ids 0 g) J Ad<|Ak [0] hI J J (Cn [59] (((s0_l.drop 1).drop 1).drop 1) s0_end _ (ix ids 0) w w1 w2 w3 w4 w5 w6 v1 g (by exact hI.sub' J J)) J J J J J J (fun v _=>Ao (K:=5) (N:=1) Tryz.func215 hI) ?_
  rintro _ _ _ _ ⟨rfl,rfl⟩
  refine Au [0] hI J J J ?_
  refine Ap<|Z<|Aj ?_
  refine C2 Fa [[],[],[1],[1,2],[],[4],[1,2,3,4,5],[0,0,1,2,3,4,5,6],[0,1,2,3,4,5,6,6,6,7]] [(false,0),(false,1),(false,2),(false,3),(false,4),(true,5),(true,6),(false,7),(true,8)] (by kernel_rfl)<|Ag (.ptr (ix ids 0) g 0 9) J J Ad<|Ag (.ptr (ix ids 0) g 0 9) J J Ad<|Ag (.ptr (ix ids 0) g 0 9) J J (Bg J)<|Ag v1 J J (As (Ba hI J J J E7 J))<|Ag (.agg (A4 r2)) J J (As (Ba hI J J J Dk J))<|Hj J J (fun _ _=>J) (fun K hK=>Kx (e:=A4) (L:=[r2]) (st:=8) (rows:=[[(.I r2.Kind),(.str r2.C),(.str r2.A),(.I r2.Class),(.I r2.Airport),(.I r2.N),(.I r2.Hours.From),(.I r2.Hours.To)]]) E7 Dk J J J J J (.cons (RowSim.refl _) .nil) (fun x=>Rt x) J J (hK _ _ (Af J (Bp J (As (Ba hI J J J E7 J)) (Bp J (Bg J) (Bp J Ad (Bp J Ad Bw))))) ?_))
  clear hK K
  refine Jg fun hl=>Hj J J (fun _ _=>J) (fun K hK=>Gx (e:=A4) (L:=l) (L2:=[r2]) (v:=v1) (g:=g1) (st:=8) (j:=1) hI J J J vH J (Lv J) E7 E7 J Dk J J J hl fun v2 g6 vH1=>hK _ _ (Af J (Af J (Af J (Af J (Bp J Ad Bw))))) ?_)
  clear hK K
  refine Ag (.ptr (ix ids 0) g 0 9) J J (Bg J)<|Fk J (fun _ _=>J) (fun K hK=>Dj (Lm vH1 hI J J J J E7 J J J) (hK _ _ (Af J (Af J (Af J (Af J (Af J (Af J Bw)))))) ?_))
  clear hK K
  refine Cl<|Aj ?_
  exact B2 (K:=5) (N:=1) (a:=(l++[r2])) (vs:=[]) [some (.rows g 10 [[(.sl 4 (List.map Ab ((((s0_l.drop 1).drop 1).drop 1).drop 1))),(.I s0_end),w,w1,w2,w3,w4,w5,w6,v2]]),Ai v2 g6 8 (List.map A4 (l++[r2])),some (.rows g2 1 [[(.I s2)]]),some (.rows g3 1 [[(.func (.func 206) [] [(.q ids 4 g4)])]]),some (.rows g4 1 [[(.q ids 0 g)]])] Tryz.func215 hI J J J (.keep (.keep (.keep (.keep (.keep (.drop .nil)))))) (.same _) ⟨v2,g6,vH1,J,J⟩
 refine B3 J (fun hc=>?_) (fun hc=>?_)
 ·refine O<|Aa (.q ids 0 g) J Ad<|Ak [0] hI J J (B7 2 s0_l s0_end _ (ix ids 0) w w1 w2 w3 w4 w5 w6 v1 g (by exact hI.sub' J J)) J J J J J J (fun v _=>Ao (K:=5) (N:=1) Tryz.func215 hI) ?_
  rintro _ _ _ _ ⟨rfl,rfl⟩
  refine Au [0] hI J J J ?_
  refine Ap<|Z<|Bo (hJ () _ _ ⟨J,J⟩)
 refine Ay<|Bo (hJ () _ _ ⟨J,J⟩)
theorem Sh (kind:Int)(s0_l:List Token)(s0_end:Int)(l:List Rule)(h0:Ae)(o0:Nat)(o1:Nat)(o2:Nat)(w:AV)(w1:AV)(w2:AV)(w3:AV)(w4:AV)(w5:AV)(w6:AV)(g:Nat)(v1:AV)(g1:Nat)(g2:Nat)(vH:Az v1 o1 g1 l.length)(hI0:Ids h0 [o0,o1,o2] 3):J5 kind s0_l s0_end l≠.bad→Bh Tryz.prog 198 [(.ptr o0 g 0 0),(.int .i64 kind),(.func (.func 206) [] [(.ptr o2 g2 0 0)])] (hp h0 [o0,o1,o2] [some (.rows g 10 [[(.sl 4 (List.map Ab s0_l)),(.int .i64 s0_end),w,w1,w2,w3,w4,w5,w6,v1]]),Ai v1 g1 8 (List.map A4 l),some (.rows g2 1 [[(.ptr o0 g 0 0)]])]) (Ce (fun a_ v h' => ∃ (v3:AV),∃ (g6:Nat),Az v3 o1 g6 a_.length∧v=(.tup [])∧h'=hp h0 [o0,o1,o2] [some (.rows g 10 [[(.sl 4 (List.map Ab ((((s0_l.drop 1).drop 1).drop 1).drop 1))),(.int .i64 s0_end),w,w1,w2,w3,w4,w5,w6,v3]]),Ai v3 g6 8 (List.map A4 a_),some (.rows g2 1 [[(.ptr o0 g 0 0)]])]) h0 (J5 kind s0_l s0_end l)):=by
 refine A6 (n:=13) 2 Tryz.func198 J (by decide) J J hI0 J fun ids he hI=>?_
 clear hI0
 obtain rfl:ix ids 0=o0:=he 0 rfl
 obtain rfl:ix ids 1=o1:=he 1 rfl
 obtain rfl:ix ids 2=o2:=he 2 rfl
 clear he
 refine Bk (Al (J5.eq_1 _ _ _ _) ?_)
 refine Aj ?_
 refine Y<|O<|Ck (v:=(.I kind)) (j:=3) hI J J J J J J J fun g3=>Ck (v:=(.func (.func 206) [] [(.q ids 2 g2)])) (j:=4) hI J J J J J J J fun g4=>Z<|Aj ?_
 refine O<|Ac 6 [] [(11,(.func (.func 216) [] [(.q ids 3 g3),(.q ids 4 g4)])),(10,(.ptr (ix ids 0) g 0 9)),(6,(.q ids 0 g))] ?_
 refine Ak [0,1,3,4,2] hI J J (Ut 64 s0_l s0_end l kind _ (ix ids 0) (ix ids 1) (ix ids 3) (ix ids 4) (ix ids 2) w w1 w2 w3 w4 w5 w6 g v1 g1 g3 g4 g2 vH (by exact hI.sub' J J)) J J J J J J (fun v _=>Ao (K:=3) (N:=2) Tryz.func198 hI) ?_
 rintro r _ _ _ ⟨v2,g5,vH1,rfl,rfl⟩
 refine Au [0,1,3,4,2] hI J J J ?_
 refine Ap<|Z<|Aj ?_
 exact B2 (K:=3) (N:=2) (a:=r) (vs:=[]) [some (.rows g 10 [[(.sl 4 (List.map Ab ((((s0_l.drop 1).drop 1).drop 1).drop 1))),(.I s0_end),w,w1,w2,w3,w4,w5,w6,v2]]),Ai v2 g5 8 (List.map A4 r),some (.rows g2 1 [[(.q ids 0 g)]])] Tryz.func198 hI J J J (.keep (.keep (.keep (.drop (.drop .nil))))) (.same _) ⟨v2,g5,vH1,J,J⟩
theorem Sn (s0_l:List Token)(s0_end:Int)(l:List Rule)(h0:Ae)(o0:Nat)(o1:Nat)(w:AV)(w1:AV)(w2:AV)(w3:AV)(w4:AV)(w5:AV)(w6:AV)(g:Nat)(v1:AV)(g1:Nat)(vH:Az v1 o1 g1 l.length)(hI0:Ids h0 [o0,o1] 2):G9 s0_l s0_end l≠.bad→Bh Tryz.prog 205 [(.ptr o0 g 0 0)] (hp h0 [o0,o1] [some (.rows g 10 [[(.sl 4 (List.map Ab s0_l)),(.int .i64 s0_end),w,w1,w2,w3,w4,w5,w6,v1]]),Ai v1 g1 8 (List.map A4 l)]) (Ce (fun a_ v h' => ∃ (v3:AV),∃ (g4:Nat),Az v3 o1 g4 a_.length∧v=(.tup [])∧h'=hp h0 [o0,o1] [some (.rows g 10 [[(.sl 4 (List.map Ab ((((s0_l.drop 1).drop 1).drop 1).drop 1))),(.int .i64 s0_end),w,w1,w2,w3,w4,w5,w6,v3]]),Ai v3 g4 8 (List.map A4 a_)]) h0 (G9 s0_l s0_end l)):=by
 refine A6 (n:=5) 1 Tryz.func205 J (by decide) J J hI0 J fun ids he hI=>?_
 clear hI0
 obtain rfl:ix ids 0=o0:=he 0 rfl
 obtain rfl:ix ids 1=o1:=he 1 rfl
 clear he
 refine Bk (Al (G9.eq_1 _ _ _) ?_)
 refine Aj ?_
 refine Y<|O<|Ck (v:=(.q ids 0 g)) (j:=2) hI J J J J J J J fun g2=>Z<|Aj ?_
 refine O<|Ac 2 [2] [(3,(.func (.func 206) [] [(.q ids 2 g2)])),(2,(.q ids 0 g))] ?_
 refine Ak [0,1,2] hI J J (Sh 4 s0_l s0_end l _ (ix ids 0) (ix ids 1) (ix ids 2) w w1 w2 w3 w4 w5 w6 g v1 g1 g2 vH (by exact hI.sub' J J)) J J J J J J (fun v _=>Ao (K:=2) (N:=1) Tryz.func205 hI) ?_
 rintro r _ _ _ ⟨v2,g3,vH1,rfl,rfl⟩
 refine Au [0,1,2] hI J J J ?_
 refine Ap<|Z<|Aj ?_
 exact B2 (K:=2) (N:=1) (a:=r) (vs:=[]) [some (.rows g 10 [[(.sl 4 (List.map Ab ((((s0_l.drop 1).drop 1).drop 1).drop 1))),(.I s0_end),w,w1,w2,w3,w4,w5,w6,v2]]),Ai v2 g3 8 (List.map A4 r)] Tryz.func205 hI J J J (.keep (.keep (.drop .nil))) (.same _) ⟨v2,g3,vH1,J,J⟩
theorem Uw (most:Int)(s0_l:List Token)(s0_end:Int)(l:List Rule)(s2:Int)(h0:Ae)(o0:Nat)(o1:Nat)(o2:Nat)(o3:Nat)(o4:Nat)(w:AV)(w1:AV)(w2:AV)(w3:AV)(w4:AV)(w5:AV)(w6:AV)(g:Nat)(v1:AV)(g1:Nat)(g2:Nat)(g3:Nat)(g4:Nat)(vH:Az v1 o1 g1 l.length)(hI0:Ids h0 [o0,o1,o2,o3,o4] 5):Hn most s0_l s0_end l s2≠.bad→Bh Tryz.prog 215 [(.ptr o0 g 0 0),(.ptr o0 g 0 9),(.int .i64 most),(.func (.func 216) [] [(.ptr o2 g2 0 0),(.ptr o3 g3 0 0)])] (hp h0 [o0,o1,o2,o3,o4] [some (.rows g 10 [[(.sl 4 (List.map Ab s0_l)),(.int .i64 s0_end),w,w1,w2,w3,w4,w5,w6,v1]]),Ai v1 g1 8 (List.map A4 l),some (.rows g2 1 [[(.int .i64 s2)]]),some (.rows g3 1 [[(.func (.func 204) [] [(.ptr o4 g4 0 0)])]]),some (.rows g4 1 [[(.ptr o0 g 0 0)]])]) (Ce (fun a_ v h' => ∃ (v3:AV),∃ (g7:Nat),Az v3 o1 g7 a_.length∧v=(.tup [])∧h'=hp h0 [o0,o1,o2,o3,o4] [some (.rows g 10 [[(.sl 4 (List.map Ab ((((s0_l.drop 1).drop 1).drop 1).drop 1))),(.int .i64 s0_end),w,w1,w2,w3,w4,w5,w6,v3]]),Ai v3 g7 8 (List.map A4 a_),some (.rows g2 1 [[(.int .i64 s2)]]),some (.rows g3 1 [[(.func (.func 204) [] [(.ptr o4 g4 0 0)])]]),some (.rows g4 1 [[(.ptr o0 g 0 0)]])]) h0 (Hn most s0_l s0_end l s2)):=by
 refine A6 (n:=39) 1 Tryz.func215 J (by decide) J J hI0 J fun ids he hI=>?_
 clear hI0
 obtain rfl:ix ids 0=o0:=he 0 rfl
 obtain rfl:ix ids 1=o1:=he 1 rfl
 obtain rfl:ix ids 2=o2:=he 2 rfl
 obtain rfl:ix ids 3=o3:=he 3 rfl
 obtain rfl:ix ids 4=o4:=he 4 rfl
 clear he
 refine Bk (Al (Hn.eq_1 _ _ _ _ _) ?_)
 refine Aj ?_
 refine Y<|Y<|O<|Ac 3 [0] [(11,v1)] ?_
 refine Aa (.I (l.length:Int)) J (A3 (Az.len vH E7))<|Ac 2 [] [(14,(.bool ((l.length:Int)==most)))] ?_
 refine Z<|Dv (π:=Unit) (fun _=>H3 s0_l s0_end l s2) (fun _=>fun(fr:Nat→AV) (h:Ae)=>fr=A2 [(0,(.q ids 0 g)),(1,(.ptr (ix ids 0) g 0 9)),(3,(.func (.func 216) [] [(.q ids 2 g2),(.q ids 3 g3)]))]∧h=hp h0 ids [(some (.rows g 10 [[(.sl 4 (List.map Ab s0_l)),(.I s0_end),w,w1,w2,w3,w4,w5,w6,v1]])),(Ai v1 g1 8 (List.map A4 l)),(some (.rows g2 1 [[(.I s2)]])),(some (.rows g3 1 [[(.func (.func 204) [] [(.q ids 4 g4)])]])),(some (.rows g4 1 [[(.q ids 0 g)]])),none]) ?_ fun hJ=>?_
 ·rintro _ fr h ⟨rfl,rfl⟩
  refine Al (H3.eq_1 _ _ _ _)<|Y<|O<|Ac 5 [0] [(21,(.sl 4 (List.map Ab s0_l))),(17,(.q ids 0 g))] ?_
  refine Gb fun hs=>Aa (.sl 4 (List.map Ab (s0_l.drop 1))) J (Fg (Lw Ci Cp J hs))<|Ac 2 [] [(24,(.q ids 0 g))] ?_
  refine Aq (Aw (v:=(.sl 4 (List.map Ab (s0_l.drop 1)))) hI J J J J Ci J J J J J)<|Z<|Aj ?_
  refine Y<|O<|Ac 2 [] [(26,(.q ids 0 g)),(25,(.func (.func 216) [] [(.q ids 2 g2),(.q ids 3 g3)]))] ?_
  refine Ak [0] hI J J (Cj (s0_l.drop 1) s0_end _ (ix ids 0) w w1 w2 w3 w4 w5 w6 v1 g (by exact hI.sub' J J)) J J J J J J (fun v _=>Ao (K:=5) (N:=1) Tryz.func215 hI) ?_
  rintro r1 _ _ _ ⟨rfl,rfl⟩
  refine Au [0] hI J J J ?_
  refine Ap<|Ak [2,3,4,0] hI J J (Ss r1 s2 ((s0_l.drop 1).drop 1) s0_end _ (ix ids 2) (ix ids 3) (ix ids 4) (ix ids 0) g2 g3 g4 w w1 w2 w3 w4 w5 w6 v1 g (by exact hI.sub' J J)) J J J J J J (fun v _=>Ao (K:=5) (N:=1) Tryz.func215 hI) ?_
  rintro r2 _ _ _ ⟨rfl,rfl⟩
  refine Au [2,3,4,0] hI J J J ?_
  refine Ap<|Bb (j:=5) hI J J J J Dk J fun g5=>Aq (Aw (v:=(.agg (A4 r2))) hI J J J J Dk J J J J J)<|Z<|Aj ?_
  refine Y<|O<|Aa (.q ids 0 g) J Ad<|Ak [0] hI J J (Cn [59] (((s0_l.drop 1).drop 1).drop 1) s0_end _ (ix ids 0) w w1 w2 w3 w4 w5 w6 v1 g (by exact hI.sub' J J)) J J J J J J (fun v _=>Ao (K:=5) (N:=1) Tryz.func215 hI) ?_
  rintro _ _ _ _ ⟨rfl,rfl⟩
  refine Au [0] hI J J J ?_
  refine Ap<|Z<|Aj ?_
  refine C2 Fa [[],[],[1],[1,2],[],[4],[1,2,3,4,5],[0,0,1,2,3,4,5,6],[0,1,2,3,4,5,6,6,6,7]] [(false,0),(false,1),(false,2),(false,3),(false,4),(true,5),(true,6),(false,7),(true,8)] (by kernel_rfl)<|Ag (.ptr (ix ids 0) g 0 9) J J Ad<|Ag (.ptr (ix ids 0) g 0 9) J J Ad<|Ag (.ptr (ix ids 0) g 0 9) J J (Bg J)<|Ag v1 J J (As (Ba hI J J J E7 J))<|Ag (.agg (A4 r2)) J J (As (Ba hI J J J Dk J))<|Hj J J (fun _ _=>J) (fun K hK=>Kx (e:=A4) (L:=[r2]) (st:=8) (rows:=[[(.I r2.Kind),(.str r2.C),(.str r2.A),(.I r2.Class),(.I r2.Airport),(.I r2.N),(.I r2.Hours.From),(.I r2.Hours.To)]]) E7 Dk J J J J J (.cons (RowSim.refl _) .nil) (fun x=>Rt x) J J (hK _ _ (Af J (Bp J (As (Ba hI J J J E7 J)) (Bp J (Bg J) (Bp J Ad (Bp J Ad Bw))))) ?_))
  clear hK K
  refine Jg fun hl=>Hj J J (fun _ _=>J) (fun K hK=>Gx (e:=A4) (L:=l) (L2:=[r2]) (v:=v1) (g:=g1) (st:=8) (j:=1) hI J J J vH J (Lv J) E7 E7 J Dk J J J hl fun v2 g6 vH1=>hK _ _ (Af J (Af J (Af J (Af J (Bp J Ad Bw))))) ?_)
  clear hK K
  refine Ag (.ptr (ix ids 0) g 0 9) J J (Bg J)<|Fk J (fun _ _=>J) (fun K hK=>Dj (Lm vH1 hI J J J J E7 J J J) (hK _ _ (Af J (Af J (Af J (Af J (Af J (Af J Bw)))))) ?_))
  clear hK K
  refine Cl<|Aj ?_
  exact B2 (K:=5) (N:=1) (a:=(l++[r2])) (vs:=[]) [some (.rows g 10 [[(.sl 4 (List.map Ab ((((s0_l.drop 1).drop 1).drop 1).drop 1))),(.I s0_end),w,w1,w2,w3,w4,w5,w6,v2]]),Ai v2 g6 8 (List.map A4 (l++[r2])),some (.rows g2 1 [[(.I s2)]]),some (.rows g3 1 [[(.func (.func 204) [] [(.q ids 4 g4)])]]),some (.rows g4 1 [[(.q ids 0 g)]])] Tryz.func215 hI J J J (.keep (.keep (.keep (.keep (.keep (.drop .nil)))))) (.same _) ⟨v2,g6,vH1,J,J⟩
 refine B3 J (fun hc=>?_) (fun hc=>?_)
 ·refine O<|Aa (.q ids 0 g) J Ad<|Ak [0] hI J J (B7 2 s0_l s0_end _ (ix ids 0) w w1 w2 w3 w4 w5 w6 v1 g (by exact hI.sub' J J)) J J J J J J (fun v _=>Ao (K:=5) (N:=1) Tryz.func215 hI) ?_
  rintro _ _ _ _ ⟨rfl,rfl⟩
  refine Au [0] hI J J J ?_
  refine Ap<|Z<|Bo (hJ () _ _ ⟨J,J⟩)
 refine Ay<|Bo (hJ () _ _ ⟨J,J⟩)
theorem Se (kind:Int)(s0_l:List Token)(s0_end:Int)(l:List Rule)(h0:Ae)(o0:Nat)(o1:Nat)(o2:Nat)(w:AV)(w1:AV)(w2:AV)(w3:AV)(w4:AV)(w5:AV)(w6:AV)(g:Nat)(v1:AV)(g1:Nat)(g2:Nat)(vH:Az v1 o1 g1 l.length)(hI0:Ids h0 [o0,o1,o2] 3):Jz kind s0_l s0_end l≠.bad→Bh Tryz.prog 198 [(.ptr o0 g 0 0),(.int .i64 kind),(.func (.func 204) [] [(.ptr o2 g2 0 0)])] (hp h0 [o0,o1,o2] [some (.rows g 10 [[(.sl 4 (List.map Ab s0_l)),(.int .i64 s0_end),w,w1,w2,w3,w4,w5,w6,v1]]),Ai v1 g1 8 (List.map A4 l),some (.rows g2 1 [[(.ptr o0 g 0 0)]])]) (Ce (fun a_ v h' => ∃ (v3:AV),∃ (g6:Nat),Az v3 o1 g6 a_.length∧v=(.tup [])∧h'=hp h0 [o0,o1,o2] [some (.rows g 10 [[(.sl 4 (List.map Ab ((((s0_l.drop 1).drop 1).drop 1).drop 1))),(.int .i64 s0_end),w,w1,w2,w3,w4,w5,w6,v3]]),Ai v3 g6 8 (List.map A4 a_),some (.rows g2 1 [[(.ptr o0 g 0 0)]])]) h0 (Jz kind s0_l s0_end l)):=by
 refine A6 (n:=13) 2 Tryz.func198 J (by decide) J J hI0 J fun ids he hI=>?_
 clear hI0
 obtain rfl:ix ids 0=o0:=he 0 rfl
 obtain rfl:ix ids 1=o1:=he 1 rfl
 obtain rfl:ix ids 2=o2:=he 2 rfl
 clear he
 refine Bk (Al (Jz.eq_1 _ _ _ _) ?_)
 refine Aj ?_
 refine Y<|O<|Ck (v:=(.I kind)) (j:=3) hI J J J J J J J fun g3=>Ck (v:=(.func (.func 204) [] [(.q ids 2 g2)])) (j:=4) hI J J J J J J J fun g4=>Z<|Aj ?_
 refine O<|Ac 6 [] [(11,(.func (.func 216) [] [(.q ids 3 g3),(.q ids 4 g4)])),(10,(.ptr (ix ids 0) g 0 9)),(6,(.q ids 0 g))] ?_
 refine Ak [0,1,3,4,2] hI J J (Uw 64 s0_l s0_end l kind _ (ix ids 0) (ix ids 1) (ix ids 3) (ix ids 4) (ix ids 2) w w1 w2 w3 w4 w5 w6 g v1 g1 g3 g4 g2 vH (by exact hI.sub' J J)) J J J J J J (fun v _=>Ao (K:=3) (N:=2) Tryz.func198 hI) ?_
 rintro r _ _ _ ⟨v2,g5,vH1,rfl,rfl⟩
 refine Au [0,1,3,4,2] hI J J J ?_
 refine Ap<|Z<|Aj ?_
 exact B2 (K:=3) (N:=2) (a:=r) (vs:=[]) [some (.rows g 10 [[(.sl 4 (List.map Ab ((((s0_l.drop 1).drop 1).drop 1).drop 1))),(.I s0_end),w,w1,w2,w3,w4,w5,w6,v2]]),Ai v2 g5 8 (List.map A4 r),some (.rows g2 1 [[(.q ids 0 g)]])] Tryz.func198 hI J J J (.keep (.keep (.keep (.drop (.drop .nil))))) (.same _) ⟨v2,g5,vH1,J,J⟩
theorem R7 (s0_l:List Token)(s0_end:Int)(l:List Rule)(h0:Ae)(o0:Nat)(o1:Nat)(w:AV)(w1:AV)(w2:AV)(w3:AV)(w4:AV)(w5:AV)(w6:AV)(g:Nat)(v1:AV)(g1:Nat)(vH:Az v1 o1 g1 l.length)(hI0:Ids h0 [o0,o1] 2):He s0_l s0_end l≠.bad→Bh Tryz.prog 203 [(.ptr o0 g 0 0)] (hp h0 [o0,o1] [some (.rows g 10 [[(.sl 4 (List.map Ab s0_l)),(.int .i64 s0_end),w,w1,w2,w3,w4,w5,w6,v1]]),Ai v1 g1 8 (List.map A4 l)]) (Ce (fun a_ v h' => ∃ (v3:AV),∃ (g4:Nat),Az v3 o1 g4 a_.length∧v=(.tup [])∧h'=hp h0 [o0,o1] [some (.rows g 10 [[(.sl 4 (List.map Ab ((((s0_l.drop 1).drop 1).drop 1).drop 1))),(.int .i64 s0_end),w,w1,w2,w3,w4,w5,w6,v3]]),Ai v3 g4 8 (List.map A4 a_)]) h0 (He s0_l s0_end l)):=by
 refine A6 (n:=5) 1 Tryz.func203 J (by decide) J J hI0 J fun ids he hI=>?_
 clear hI0
 obtain rfl:ix ids 0=o0:=he 0 rfl
 obtain rfl:ix ids 1=o1:=he 1 rfl
 clear he
 refine Bk (Al (He.eq_1 _ _ _) ?_)
 refine Aj ?_
 refine Y<|O<|Ck (v:=(.q ids 0 g)) (j:=2) hI J J J J J J J fun g2=>Z<|Aj ?_
 refine O<|Ac 2 [2] [(3,(.func (.func 204) [] [(.q ids 2 g2)])),(2,(.q ids 0 g))] ?_
 refine Ak [0,1,2] hI J J (Se 3 s0_l s0_end l _ (ix ids 0) (ix ids 1) (ix ids 2) w w1 w2 w3 w4 w5 w6 g v1 g1 g2 vH (by exact hI.sub' J J)) J J J J J J (fun v _=>Ao (K:=2) (N:=1) Tryz.func203 hI) ?_
 rintro r _ _ _ ⟨v2,g3,vH1,rfl,rfl⟩
 refine Au [0,1,2] hI J J J ?_
 refine Ap<|Z<|Aj ?_
 exact B2 (K:=2) (N:=1) (a:=r) (vs:=[]) [some (.rows g 10 [[(.sl 4 (List.map Ab ((((s0_l.drop 1).drop 1).drop 1).drop 1))),(.I s0_end),w,w1,w2,w3,w4,w5,w6,v2]]),Ai v2 g3 8 (List.map A4 r)] Tryz.func203 hI J J J (.keep (.keep (.drop .nil))) (.same _) ⟨v2,g3,vH1,J,J⟩
theorem Qm (s0_l:List Token)(s0_end:Int)(l:List Volume)(l1:List Sector)(l2:List Config)(l3:List Segment)(l4:List Route)(l5:List Airport)(l6:List Class)(l7:List Rule)(h0:Ae)(o0:Nat)(o1:Nat)(o2:Nat)(o3:Nat)(o4:Nat)(o5:Nat)(o6:Nat)(o7:Nat)(o8:Nat)(g:Nat)(v1:AV)(g1:Nat)(v2:AV)(g2:Nat)(v3:AV)(g3:Nat)(v4:AV)(g4:Nat)(v5:AV)(g5:Nat)(v6:AV)(g6:Nat)(v7:AV)(g7:Nat)(v8:AV)(g8:Nat)(vH:Az v1 o1 g1 l.length)(vH1:Az v2 o2 g2 l1.length)(vH2:Az v3 o3 g3 l2.length)(vH3:Az v4 o4 g4 l3.length)(vH4:Az v5 o5 g5 l4.length)(vH5:Az v6 o6 g6 l5.length)(vH6:Az v7 o7 g7 l6.length)(vH7:Az v8 o8 g8 l7.length)(hI0:Ids h0 [o0,o1,o2,o3,o4,o5,o6,o7,o8] 9):E9 s0_l s0_end l l1 l2 l3 l4 l5 l6 l7≠.bad→Bh Tryz.prog 21 [(.ptr o0 g 0 0)] (hp h0 [o0,o1,o2,o3,o4,o5,o6,o7,o8] [some (.rows g 10 [[(.sl 4 (List.map Ab s0_l)),(.int .i64 s0_end),v1,v2,v3,v4,v5,v6,v7,v8]]),Ai v1 g1 2 (List.map Ar l),Ai v2 g2 5 (List.map A8 l1),Ai v3 g3 3 (List.map Bl l2),Ai v4 g4 5 (List.map Bf l3),Ai v5 g5 7 (List.map Bs l4),Ai v6 g6 2 (List.map Bd l5),Ai v7 g7 4 (List.map B6 l6),Ai v8 g8 8 (List.map A4 l7)]) (Ce (fun a_ v h' => ∃ (v20:AV),∃ (g20:Nat),∃ (v21:AV),∃ (g21:Nat),∃ (v22:AV),∃ (g22:Nat),∃ (v23:AV),∃ (g23:Nat),∃ (v24:AV),∃ (g24:Nat),∃ (v25:AV),∃ (g25:Nat),∃ (v26:AV),∃ (g26:Nat),∃ (v27:AV),∃ (g27:Nat),Az v20 o1 g20 a_.2.1.length∧Az v21 o2 g21 a_.2.2.1.length∧Az v22 o3 g22 a_.2.2.2.1.length∧Az v23 o4 g23 a_.2.2.2.2.1.length∧Az v24 o5 g24 a_.2.2.2.2.2.1.length∧Az v25 o6 g25 a_.2.2.2.2.2.2.1.length∧Az v26 o7 g26 a_.2.2.2.2.2.2.2.1.length∧Az v27 o8 g27 a_.2.2.2.2.2.2.2.2.length∧v=(.tup [])∧h'=hp h0 [o0,o1,o2,o3,o4,o5,o6,o7,o8] [some (.rows g 10 [[(.sl 4 (List.map Ab a_.1)),(.int .i64 s0_end),v20,v21,v22,v23,v24,v25,v26,v27]]),Ai v20 g20 2 (List.map Ar a_.2.1),Ai v21 g21 5 (List.map A8 a_.2.2.1),Ai v22 g22 3 (List.map Bl a_.2.2.2.1),Ai v23 g23 5 (List.map Bf a_.2.2.2.2.1),Ai v24 g24 7 (List.map Bs a_.2.2.2.2.2.1),Ai v25 g25 2 (List.map Bd a_.2.2.2.2.2.2.1),Ai v26 g26 4 (List.map B6 a_.2.2.2.2.2.2.2.1),Ai v27 g27 8 (List.map A4 a_.2.2.2.2.2.2.2.2)]) h0 (E9 s0_l s0_end l l1 l2 l3 l4 l5 l6 l7)):=by
 refine A6 (n:=30) 0 Tryz.func21 J (by decide) J J hI0 J fun ids he hI=>?_
 clear hI0
 obtain rfl:ix ids 0=o0:=he 0 rfl
 obtain rfl:ix ids 1=o1:=he 1 rfl
 obtain rfl:ix ids 2=o2:=he 2 rfl
 obtain rfl:ix ids 3=o3:=he 3 rfl
 obtain rfl:ix ids 4=o4:=he 4 rfl
 obtain rfl:ix ids 5=o5:=he 5 rfl
 obtain rfl:ix ids 6=o6:=he 6 rfl
 obtain rfl:ix ids 7=o7:=he 7 rfl
 obtain rfl:ix ids 8=o8:=he 8 rfl
 clear he
 refine Bk (Al (E9.eq_1 _ _ _ _ _ _ _ _ _ _) ?_)
 refine Y<|Y<|O<|Ac 4 [0] [(7,(.sl 4 (List.map Ab s0_l)))] ?_
 refine Ea fun a hz hx1=>Aa (.cp (Ab a) 0) J (Bt (De Ci Cp J hz hx1))<|Ac 3 [] [(11,(.bool (a.Kind==1)))] ?_
 refine Z<|Dv (π:=Unit) (fun _=>El s0_l s0_end l l1 l2 l3 l4 l5 l6 l7) (fun _=>fun(fr:Nat→AV) (h:Ae)=>fr=A2 [(0,(.q ids 0 g))]∧h=hp h0 ids [(some (.rows g 10 [[(.sl 4 (List.map Ab s0_l)),(.I s0_end),v1,v2,v3,v4,v5,v6,v7,v8]])),(Ai v1 g1 2 (List.map Ar l)),(Ai v2 g2 5 (List.map A8 l1)),(Ai v3 g3 3 (List.map Bl l2)),(Ai v4 g4 5 (List.map Bf l3)),(Ai v5 g5 7 (List.map Bs l4)),(Ai v6 g6 2 (List.map Bd l5)),(Ai v7 g7 4 (List.map B6 l6)),(Ai v8 g8 8 (List.map A4 l7))]) ?_ fun hJ=>?_
 ·rintro _ fr h ⟨rfl,rfl⟩
  refine Al (El.eq_1 _ _ _ _ _ _ _ _ _ _)<|O<|Aa (.q ids 0 g) J Ad<|Bx [(.q ids 0 g),(.I 80)] J J J J (CP.lend (V0 ({ fL:=s0_l,fEnd:=s0_end,fA:=({ Volumes:=l,Sectors:=l1,Configs:=l2,Segments:=l3,Routes:=l4,Airports:=l5,Classes:=l6,Rules:=l7 }:Airspace) }:T67) 80) (LF.lfz (.cons (.ptrL (hI.at J J) J J (.cons (.same _) (.cons (.same _) (.cons (Fp vH (hI.at J J) J (fun x=>U7 x)) (.cons (Fp vH1 (hI.at J J) J (fun x=>Sm x)) (.cons (Fp vH2 (hI.at J J) J (fun x=>X5 x)) (.cons (Fp vH3 (hI.at J J) J (fun x=>W3 x)) (.cons (Fp vH4 (hI.at J J) J (fun x=>Y7 x)) (.cons (Fp vH5 (hI.at J J) J (fun x=>Tv x)) (.cons (Fp vH6 (hI.at J J) J (fun x=>Y5 x)) (.cons (Fp vH7 (hI.at J J) J (fun x=>Rt x)) .nil))))))))))) (.cons (.same _) .nil))) (fun _ _=>.tup0)) (fun v _=>Ao (K:=9) (N:=0) Tryz.func21 hI) fun _ _=>Z<|B2 (K:=9) (N:=0) (a:=(s0_l,l,l1,l2,l3,l4,l5,l6,l7)) (vs:=[]) [some (.rows g 10 [[(.sl 4 (List.map Ab s0_l)),(.I s0_end),v1,v2,v3,v4,v5,v6,v7,v8]]),Ai v1 g1 2 (List.map Ar l),Ai v2 g2 5 (List.map A8 l1),Ai v3 g3 3 (List.map Bl l2),Ai v4 g4 5 (List.map Bf l3),Ai v5 g5 7 (List.map Bs l4),Ai v6 g6 2 (List.map Bd l5),Ai v7 g7 4 (List.map B6 l6),Ai v8 g8 8 (List.map A4 l7)] Tryz.func21 hI J J J (.keep (.keep (.keep (.keep (.keep (.keep (.keep (.keep (.keep .nil))))))))) (.same _) ⟨v1,g1,v2,g2,v3,g3,v4,g4,v5,g5,v6,g6,v7,g7,v8,g8,vH,vH1,vH2,vH3,vH4,vH5,vH6,vH7,J,J⟩
 refine B3 J (fun hc=>?_) (fun hc=>?_)
 ·refine Y<|C2 Fa [[],[],[1],[1,2],[1,2,3],[1,2,3,4],[1,2,3,4,5],[1,2,3,4,5,6],[0,1,2,3,4,5,6,7],[0,1,2,3,4,5,6,7,8],[0,1,2,3,4,5,6,7,8,9],[0,1,2,3,4,5,6,7,8,9],[0,1,2,3,4,5,6,7,8,9,10,10],[0,1,2,3,4,5,6,7,8,9,10,11,11,12,12]] [(false,0),(false,1),(false,2),(false,3),(false,4),(false,5),(false,6),(false,7),(false,8),(false,9),(false,10),(false,11),(false,12),(false,13)] (by kernel_rfl)<|Ag (.mapc (Jb Nk)) J J (As (Amm (b:=0) (c:=0) J Pg J))<|Ag (.q ids 0 g) J J Ad<|Ag (.q ids 0 g) J J (Bg J)<|Ag (.q ids 0 g) J J (Cb (B0 (c:=0) (off:=0) (i:=0) Wn J Ci J))<|Ag (.sl 4 (List.map Ab s0_l)) J J (As (Ba hI J J J Ci J)) ?_
  refine Ag (.cp (Ab a) 0) J J (Bt (De Ci Cp J hz hx1))<|Ag (.cp (Ab a) 1) J J (Cb (Wl (c:=0) (off:=1) (i:=1) Cp J Cg J))<|Ag (.str a.Text) J J (As (Cf Cg J))<|Lo (fun hk=>?_) (fun hk=>?_)
  ·refine Ag (.tup [(.func (.func 189) [] []),(.bool true)]) J J (Mo (Ny (es:=Jb Nk) Pg Cg J P0 hk J))<|Ag (.tup [(.func (.func 189) [] []),(.bool true)]) J J Ad<|Ag (.func (.func 189) [] []) J J (Gw J)<|Ag (.bool true) J J (Gw J)<|Ag (.func (.func 189) [] []) J J An<|Ag (.bool true) J J An<|Cl ?_
   refine Y<|O<|Aa (.bool true) J Ad<|Z<|Je true J<|Y<|O ?_
   refine Ac 2 [] [(26,(.q ids 0 g)),(25,(.func (.func 189) [] []))] ?_
   refine Ak [0,1,6] hI J J (Ti s0_l s0_end l l5 _ (ix ids 0) (ix ids 1) (ix ids 6) v2 v3 v4 v5 v7 v8 g v1 g1 v6 g6 vH vH5 (by exact hI.sub' J J)) J J J J J J (fun v _=>Ao (K:=9) (N:=0) Tryz.func21 hI) ?_
   rintro r _ _ _ ⟨v9,g9,vH8,rfl,rfl⟩
   refine Au [0,1,6] hI J J J ?_
   refine Ap<|Z<|Aj ?_
   exact Dh (K:=9) (N:=0) (a:=(r.1,l,l1,l2,l3,l4,r.2,l6,l7)) (vs:=[]) [some (.rows g 10 [[(.sl 4 (List.map Ab r.1)),(.I s0_end),v1,v2,v3,v4,v5,v9,v7,v8]]),Ai v1 g1 2 (List.map Ar l),Ai v2 g2 5 (List.map A8 l1),Ai v3 g3 3 (List.map Bl l2),Ai v4 g4 5 (List.map Bf l3),Ai v5 g5 7 (List.map Bs l4),Ai v9 g9 2 (List.map Bd r.2),Ai v7 g7 4 (List.map B6 l6),Ai v8 g8 8 (List.map A4 l7)] Tryz.func21 hI J J J (.keep (.keep (.keep (.keep (.keep (.keep (.keep (.keep (.keep .nil))))))))) (.same _) ⟨v1,g1,v2,g2,v3,g3,v4,g4,v5,g5,v9,g9,v7,g7,v8,g8,vH,vH1,vH2,vH3,vH4,vH8,vH6,vH7,J,J⟩
  refine Lo (fun hk1=>?_) (fun hk1=>?_)
  ·refine Ag (.tup [(.func (.func 194) [] []),(.bool true)]) J J (Mo (Ny (es:=Jb Nk) Pg Cg J P0 hk1 J))<|Ag (.tup [(.func (.func 194) [] []),(.bool true)]) J J Ad<|Ag (.func (.func 194) [] []) J J (Gw J)<|Ag (.bool true) J J (Gw J)<|Ag (.func (.func 194) [] []) J J An<|Ag (.bool true) J J An<|Cl ?_
   refine Y<|O<|Aa (.bool true) J Ad<|Z<|Je true J<|Y<|O ?_
   refine Ac 2 [] [(26,(.q ids 0 g)),(25,(.func (.func 194) [] []))] ?_
   refine Ak [0,7] hI J J (S9 s0_l s0_end l6 _ (ix ids 0) (ix ids 7) v1 v2 v3 v4 v5 v6 v8 g v7 g7 vH6 (by exact hI.sub' J J)) J J J J J J (fun v _=>Ao (K:=9) (N:=0) Tryz.func21 hI) ?_
   rintro r1 _ _ _ ⟨v10,g10,vH9,rfl,rfl⟩
   refine Au [0,7] hI J J J ?_
   refine Ap<|Z<|Aj ?_
   exact Dh (K:=9) (N:=0) (a:=((((((((((s0_l.drop 1).drop 1).drop 1).drop 1).drop 1).drop 1).drop 1).drop 1).drop 1),l,l1,l2,l3,l4,l5,r1,l7)) (vs:=[]) [some (.rows g 10 [[(.sl 4 (List.map Ab (((((((((s0_l.drop 1).drop 1).drop 1).drop 1).drop 1).drop 1).drop 1).drop 1).drop 1))),(.I s0_end),v1,v2,v3,v4,v5,v6,v10,v8]]),Ai v1 g1 2 (List.map Ar l),Ai v2 g2 5 (List.map A8 l1),Ai v3 g3 3 (List.map Bl l2),Ai v4 g4 5 (List.map Bf l3),Ai v5 g5 7 (List.map Bs l4),Ai v6 g6 2 (List.map Bd l5),Ai v10 g10 4 (List.map B6 r1),Ai v8 g8 8 (List.map A4 l7)] Tryz.func21 hI J J J (.keep (.keep (.keep (.keep (.keep (.keep (.keep (.keep (.keep .nil))))))))) (.same _) ⟨v1,g1,v2,g2,v3,g3,v4,g4,v5,g5,v6,g6,v10,g10,v8,g8,vH,vH1,vH2,vH3,vH4,vH5,vH9,vH7,J,J⟩
  refine Lo (fun hk2=>?_) (fun hk2=>?_)
  ·refine Ag (.tup [(.func (.func 180) [] []),(.bool true)]) J J (Mo (Ny (es:=Jb Nk) Pg Cg J P0 hk2 J))<|Ag (.tup [(.func (.func 180) [] []),(.bool true)]) J J Ad<|Ag (.func (.func 180) [] []) J J (Gw J)<|Ag (.bool true) J J (Gw J)<|Ag (.func (.func 180) [] []) J J An<|Ag (.bool true) J J An<|Cl ?_
   refine Y<|O<|Aa (.bool true) J Ad<|Z<|Je true J<|Y<|O ?_
   refine Ac 2 [] [(26,(.q ids 0 g)),(25,(.func (.func 180) [] []))] ?_
   refine Ak [0,1,3] hI J J (Tf s0_l s0_end l l2 _ (ix ids 0) (ix ids 1) (ix ids 3) v2 v4 v5 v6 v7 v8 g v1 g1 v3 g3 vH vH2 (by exact hI.sub' J J)) J J J J J J (fun v _=>Ao (K:=9) (N:=0) Tryz.func21 hI) ?_
   rintro r2 _ _ _ ⟨v11,g11,vH10,rfl,rfl⟩
   refine Au [0,1,3] hI J J J ?_
   refine Ap<|Z<|Aj ?_
   exact Dh (K:=9) (N:=0) (a:=(r2.1,l,l1,r2.2,l3,l4,l5,l6,l7)) (vs:=[]) [some (.rows g 10 [[(.sl 4 (List.map Ab r2.1)),(.I s0_end),v1,v2,v11,v4,v5,v6,v7,v8]]),Ai v1 g1 2 (List.map Ar l),Ai v2 g2 5 (List.map A8 l1),Ai v11 g11 3 (List.map Bl r2.2),Ai v4 g4 5 (List.map Bf l3),Ai v5 g5 7 (List.map Bs l4),Ai v6 g6 2 (List.map Bd l5),Ai v7 g7 4 (List.map B6 l6),Ai v8 g8 8 (List.map A4 l7)] Tryz.func21 hI J J J (.keep (.keep (.keep (.keep (.keep (.keep (.keep (.keep (.keep .nil))))))))) (.same _) ⟨v1,g1,v2,g2,v11,g11,v4,g4,v5,g5,v6,g6,v7,g7,v8,g8,vH,vH1,vH10,vH3,vH4,vH5,vH6,vH7,J,J⟩
  refine Lo (fun hk3=>?_) (fun hk3=>?_)
  ·refine Ag (.tup [(.func (.func 197) [] []),(.bool true)]) J J (Mo (Ny (es:=Jb Nk) Pg Cg J P0 hk3 J))<|Ag (.tup [(.func (.func 197) [] []),(.bool true)]) J J Ad<|Ag (.func (.func 197) [] []) J J (Gw J)<|Ag (.bool true) J J (Gw J)<|Ag (.func (.func 197) [] []) J J An<|Ag (.bool true) J J An<|Cl ?_
   refine Y<|O<|Aa (.bool true) J Ad<|Z<|Je true J<|Y<|O ?_
   refine Ac 2 [] [(26,(.q ids 0 g)),(25,(.func (.func 197) [] []))] ?_
   refine Ak [0,8] hI J J (Sv s0_l s0_end l7 _ (ix ids 0) (ix ids 8) v1 v2 v3 v4 v5 v6 v7 g v8 g8 vH7 (by exact hI.sub' J J)) J J J J J J (fun v _=>Ao (K:=9) (N:=0) Tryz.func21 hI) ?_
   rintro r3 _ _ _ ⟨v12,g12,vH11,rfl,rfl⟩
   refine Au [0,8] hI J J J ?_
   refine Ap<|Z<|Aj ?_
   exact Dh (K:=9) (N:=0) (a:=(((((((((s0_l.drop 1).drop 1).drop 1).drop 1).drop 1).drop 1).drop 1).drop 1),l,l1,l2,l3,l4,l5,l6,r3)) (vs:=[]) [some (.rows g 10 [[(.sl 4 (List.map Ab ((((((((s0_l.drop 1).drop 1).drop 1).drop 1).drop 1).drop 1).drop 1).drop 1))),(.I s0_end),v1,v2,v3,v4,v5,v6,v7,v12]]),Ai v1 g1 2 (List.map Ar l),Ai v2 g2 5 (List.map A8 l1),Ai v3 g3 3 (List.map Bl l2),Ai v4 g4 5 (List.map Bf l3),Ai v5 g5 7 (List.map Bs l4),Ai v6 g6 2 (List.map Bd l5),Ai v7 g7 4 (List.map B6 l6),Ai v12 g12 8 (List.map A4 r3)] Tryz.func21 hI J J J (.keep (.keep (.keep (.keep (.keep (.keep (.keep (.keep (.keep .nil))))))))) (.same _) ⟨v1,g1,v2,g2,v3,g3,v4,g4,v5,g5,v6,g6,v7,g7,v12,g12,vH,vH1,vH2,vH3,vH4,vH5,vH6,vH11,J,J⟩
  refine Lo (fun hk4=>?_) (fun hk4=>?_)
  ·refine Ag (.tup [(.func (.func 201) [] []),(.bool true)]) J J (Mo (Ny (es:=Jb Nk) Pg Cg J P0 hk4 J))<|Ag (.tup [(.func (.func 201) [] []),(.bool true)]) J J Ad<|Ag (.func (.func 201) [] []) J J (Gw J)<|Ag (.bool true) J J (Gw J)<|Ag (.func (.func 201) [] []) J J An<|Ag (.bool true) J J An<|Cl ?_
   refine Y<|O<|Aa (.bool true) J Ad<|Z<|Je true J<|Y<|O ?_
   refine Ac 2 [] [(26,(.q ids 0 g)),(25,(.func (.func 201) [] []))] ?_
   refine Ak [0,8] hI J J (S8 s0_l s0_end l7 _ (ix ids 0) (ix ids 8) v1 v2 v3 v4 v5 v6 v7 g v8 g8 vH7 (by exact hI.sub' J J)) J J J J J J (fun v _=>Ao (K:=9) (N:=0) Tryz.func21 hI) ?_
   rintro r4 _ _ _ ⟨v13,g13,vH12,rfl,rfl⟩
   refine Au [0,8] hI J J J ?_
   refine Ap<|Z<|Aj ?_
   exact Dh (K:=9) (N:=0) (a:=((((s0_l.drop 1).drop 1).drop 1),l,l1,l2,l3,l4,l5,l6,r4)) (vs:=[]) [some (.rows g 10 [[(.sl 4 (List.map Ab (((s0_l.drop 1).drop 1).drop 1))),(.I s0_end),v1,v2,v3,v4,v5,v6,v7,v13]]),Ai v1 g1 2 (List.map Ar l),Ai v2 g2 5 (List.map A8 l1),Ai v3 g3 3 (List.map Bl l2),Ai v4 g4 5 (List.map Bf l3),Ai v5 g5 7 (List.map Bs l4),Ai v6 g6 2 (List.map Bd l5),Ai v7 g7 4 (List.map B6 l6),Ai v13 g13 8 (List.map A4 r4)] Tryz.func21 hI J J J (.keep (.keep (.keep (.keep (.keep (.keep (.keep (.keep (.keep .nil))))))))) (.same _) ⟨v1,g1,v2,g2,v3,g3,v4,g4,v5,g5,v6,g6,v7,g7,v13,g13,vH,vH1,vH2,vH3,vH4,vH5,vH6,vH12,J,J⟩
  refine Lo (fun hk5=>?_) (fun hk5=>?_)
  ·refine Ag (.tup [(.func (.func 205) [] []),(.bool true)]) J J (Mo (Ny (es:=Jb Nk) Pg Cg J P0 hk5 J))<|Ag (.tup [(.func (.func 205) [] []),(.bool true)]) J J Ad<|Ag (.func (.func 205) [] []) J J (Gw J)<|Ag (.bool true) J J (Gw J)<|Ag (.func (.func 205) [] []) J J An<|Ag (.bool true) J J An<|Cl ?_
   refine Y<|O<|Aa (.bool true) J Ad<|Z<|Je true J<|Y<|O ?_
   refine Ac 2 [] [(26,(.q ids 0 g)),(25,(.func (.func 205) [] []))] ?_
   refine Ak [0,8] hI J J (Sn s0_l s0_end l7 _ (ix ids 0) (ix ids 8) v1 v2 v3 v4 v5 v6 v7 g v8 g8 vH7 (by exact hI.sub' J J)) J J J J J J (fun v _=>Ao (K:=9) (N:=0) Tryz.func21 hI) ?_
   rintro r5 _ _ _ ⟨v14,g14,vH13,rfl,rfl⟩
   refine Au [0,8] hI J J J ?_
   refine Ap<|Z<|Aj ?_
   exact Dh (K:=9) (N:=0) (a:=(((((s0_l.drop 1).drop 1).drop 1).drop 1),l,l1,l2,l3,l4,l5,l6,r5)) (vs:=[]) [some (.rows g 10 [[(.sl 4 (List.map Ab ((((s0_l.drop 1).drop 1).drop 1).drop 1))),(.I s0_end),v1,v2,v3,v4,v5,v6,v7,v14]]),Ai v1 g1 2 (List.map Ar l),Ai v2 g2 5 (List.map A8 l1),Ai v3 g3 3 (List.map Bl l2),Ai v4 g4 5 (List.map Bf l3),Ai v5 g5 7 (List.map Bs l4),Ai v6 g6 2 (List.map Bd l5),Ai v7 g7 4 (List.map B6 l6),Ai v14 g14 8 (List.map A4 r5)] Tryz.func21 hI J J J (.keep (.keep (.keep (.keep (.keep (.keep (.keep (.keep (.keep .nil))))))))) (.same _) ⟨v1,g1,v2,g2,v3,g3,v4,g4,v5,g5,v6,g6,v7,g7,v14,g14,vH,vH1,vH2,vH3,vH4,vH5,vH6,vH13,J,J⟩
  refine Lo (fun hk6=>?_) (fun hk6=>?_)
  ·refine Ag (.tup [(.func (.func 186) [] []),(.bool true)]) J J (Mo (Ny (es:=Jb Nk) Pg Cg J P0 hk6 J))<|Ag (.tup [(.func (.func 186) [] []),(.bool true)]) J J Ad<|Ag (.func (.func 186) [] []) J J (Gw J)<|Ag (.bool true) J J (Gw J)<|Ag (.func (.func 186) [] []) J J An<|Ag (.bool true) J J An<|Cl ?_
   refine Y<|O<|Aa (.bool true) J Ad<|Z<|Je true J<|Y<|O ?_
   refine Ac 2 [] [(26,(.q ids 0 g)),(25,(.func (.func 186) [] []))] ?_
   refine Ak [0,1,5] hI J J (Sw s0_l s0_end l l4 _ (ix ids 0) (ix ids 1) (ix ids 5) v2 v3 v4 v6 v7 v8 g v1 g1 v5 g5 vH vH4 (by exact hI.sub' J J)) J J J J J J (fun v _=>Ao (K:=9) (N:=0) Tryz.func21 hI) ?_
   rintro r6 _ _ _ ⟨v15,g15,vH14,rfl,rfl⟩
   refine Au [0,1,5] hI J J J ?_
   refine Ap<|Z<|Aj ?_
   exact Dh (K:=9) (N:=0) (a:=(r6.1,l,l1,l2,l3,r6.2,l5,l6,l7)) (vs:=[]) [some (.rows g 10 [[(.sl 4 (List.map Ab r6.1)),(.I s0_end),v1,v2,v3,v4,v15,v6,v7,v8]]),Ai v1 g1 2 (List.map Ar l),Ai v2 g2 5 (List.map A8 l1),Ai v3 g3 3 (List.map Bl l2),Ai v4 g4 5 (List.map Bf l3),Ai v15 g15 7 (List.map Bs r6.2),Ai v6 g6 2 (List.map Bd l5),Ai v7 g7 4 (List.map B6 l6),Ai v8 g8 8 (List.map A4 l7)] Tryz.func21 hI J J J (.keep (.keep (.keep (.keep (.keep (.keep (.keep (.keep (.keep .nil))))))))) (.same _) ⟨v1,g1,v2,g2,v3,g3,v4,g4,v15,g15,v6,g6,v7,g7,v8,g8,vH,vH1,vH2,vH3,vH14,vH5,vH6,vH7,J,J⟩
  refine Lo (fun hk7=>?_) (fun hk7=>?_)
  ·refine Ag (.tup [(.func (.func 172) [] []),(.bool true)]) J J (Mo (Ny (es:=Jb Nk) Pg Cg J P0 hk7 J))<|Ag (.tup [(.func (.func 172) [] []),(.bool true)]) J J Ad<|Ag (.func (.func 172) [] []) J J (Gw J)<|Ag (.bool true) J J (Gw J)<|Ag (.func (.func 172) [] []) J J An<|Ag (.bool true) J J An<|Cl ?_
   refine Y<|O<|Aa (.bool true) J Ad<|Z<|Je true J<|Y<|O ?_
   refine Ac 2 [] [(26,(.q ids 0 g)),(25,(.func (.func 172) [] []))] ?_
   refine Ak [0,1,2] hI J J (Tb s0_l s0_end l l1 _ (ix ids 0) (ix ids 1) (ix ids 2) v3 v4 v5 v6 v7 v8 g v1 g1 v2 g2 vH vH1 (by exact hI.sub' J J)) J J J J J J (fun v _=>Ao (K:=9) (N:=0) Tryz.func21 hI) ?_
   rintro r7 _ _ _ ⟨v16,g16,vH15,rfl,rfl⟩
   refine Au [0,1,2] hI J J J ?_
   refine Ap<|Z<|Aj ?_
   exact Dh (K:=9) (N:=0) (a:=(r7.1,l,r7.2,l2,l3,l4,l5,l6,l7)) (vs:=[]) [some (.rows g 10 [[(.sl 4 (List.map Ab r7.1)),(.I s0_end),v1,v16,v3,v4,v5,v6,v7,v8]]),Ai v1 g1 2 (List.map Ar l),Ai v16 g16 5 (List.map A8 r7.2),Ai v3 g3 3 (List.map Bl l2),Ai v4 g4 5 (List.map Bf l3),Ai v5 g5 7 (List.map Bs l4),Ai v6 g6 2 (List.map Bd l5),Ai v7 g7 4 (List.map B6 l6),Ai v8 g8 8 (List.map A4 l7)] Tryz.func21 hI J J J (.keep (.keep (.keep (.keep (.keep (.keep (.keep (.keep (.keep .nil))))))))) (.same _) ⟨v1,g1,v16,g16,v3,g3,v4,g4,v5,g5,v6,g6,v7,g7,v8,g8,vH,vH15,vH2,vH3,vH4,vH5,vH6,vH7,J,J⟩
  refine Lo (fun hk8=>?_) (fun hk8=>?_)
  ·refine Ag (.tup [(.func (.func 183) [] []),(.bool true)]) J J (Mo (Ny (es:=Jb Nk) Pg Cg J P0 hk8 J))<|Ag (.tup [(.func (.func 183) [] []),(.bool true)]) J J Ad<|Ag (.func (.func 183) [] []) J J (Gw J)<|Ag (.bool true) J J (Gw J)<|Ag (.func (.func 183) [] []) J J An<|Ag (.bool true) J J An<|Cl ?_
   refine Y<|O<|Aa (.bool true) J Ad<|Z<|Je true J<|Y<|O ?_
   refine Ac 2 [] [(26,(.q ids 0 g)),(25,(.func (.func 183) [] []))] ?_
   refine Ak [0,1,4] hI J J (S7 s0_l s0_end l l3 _ (ix ids 0) (ix ids 1) (ix ids 4) v2 v3 v5 v6 v7 v8 g v1 g1 v4 g4 vH vH3 (by exact hI.sub' J J)) J J J J J J (fun v _=>Ao (K:=9) (N:=0) Tryz.func21 hI) ?_
   rintro r8 _ _ _ ⟨v17,g17,vH16,rfl,rfl⟩
   refine Au [0,1,4] hI J J J ?_
   refine Ap<|Z<|Aj ?_
   exact Dh (K:=9) (N:=0) (a:=(r8.1,l,l1,l2,r8.2,l4,l5,l6,l7)) (vs:=[]) [some (.rows g 10 [[(.sl 4 (List.map Ab r8.1)),(.I s0_end),v1,v2,v3,v17,v5,v6,v7,v8]]),Ai v1 g1 2 (List.map Ar l),Ai v2 g2 5 (List.map A8 l1),Ai v3 g3 3 (List.map Bl l2),Ai v17 g17 5 (List.map Bf r8.2),Ai v5 g5 7 (List.map Bs l4),Ai v6 g6 2 (List.map Bd l5),Ai v7 g7 4 (List.map B6 l6),Ai v8 g8 8 (List.map A4 l7)] Tryz.func21 hI J J J (.keep (.keep (.keep (.keep (.keep (.keep (.keep (.keep (.keep .nil))))))))) (.same _) ⟨v1,g1,v2,g2,v3,g3,v17,g17,v5,g5,v6,g6,v7,g7,v8,g8,vH,vH1,vH2,vH16,vH4,vH5,vH6,vH7,J,J⟩
  refine Lo (fun hk9=>?_) (fun hk9=>?_)
  ·refine Ag (.tup [(.func (.func 168) [] []),(.bool true)]) J J (Mo (Ny (es:=Jb Nk) Pg Cg J P0 hk9 J))<|Ag (.tup [(.func (.func 168) [] []),(.bool true)]) J J Ad<|Ag (.func (.func 168) [] []) J J (Gw J)<|Ag (.bool true) J J (Gw J)<|Ag (.func (.func 168) [] []) J J An<|Ag (.bool true) J J An<|Cl ?_
   refine Y<|O<|Aa (.bool true) J Ad<|Z<|Je true J<|Y<|O ?_
   refine Ac 2 [] [(26,(.q ids 0 g)),(25,(.func (.func 168) [] []))] ?_
   refine Ak [0,1] hI J J (Td s0_l s0_end l _ (ix ids 0) (ix ids 1) v2 v3 v4 v5 v6 v7 v8 g v1 g1 vH (by exact hI.sub' J J)) J J J J J J (fun v _=>Ao (K:=9) (N:=0) Tryz.func21 hI) ?_
   rintro r9 _ _ _ ⟨v18,g18,vH17,rfl,rfl⟩
   refine Au [0,1] hI J J J ?_
   refine Ap<|Z<|Aj ?_
   exact Dh (K:=9) (N:=0) (a:=(r9.1,r9.2,l1,l2,l3,l4,l5,l6,l7)) (vs:=[]) [some (.rows g 10 [[(.sl 4 (List.map Ab r9.1)),(.I s0_end),v18,v2,v3,v4,v5,v6,v7,v8]]),Ai v18 g18 2 (List.map Ar r9.2),Ai v2 g2 5 (List.map A8 l1),Ai v3 g3 3 (List.map Bl l2),Ai v4 g4 5 (List.map Bf l3),Ai v5 g5 7 (List.map Bs l4),Ai v6 g6 2 (List.map Bd l5),Ai v7 g7 4 (List.map B6 l6),Ai v8 g8 8 (List.map A4 l7)] Tryz.func21 hI J J J (.keep (.keep (.keep (.keep (.keep (.keep (.keep (.keep (.keep .nil))))))))) (.same _) ⟨v18,g18,v2,g2,v3,g3,v4,g4,v5,g5,v6,g6,v7,g7,v8,g8,vH17,vH1,vH2,vH3,vH4,vH5,vH6,vH7,J,J⟩
  refine Lo (fun hk10=>?_) (fun hk10=>?_)
  ·refine Ag (.tup [(.func (.func 203) [] []),(.bool true)]) J J (Mo (Ny (es:=Jb Nk) Pg Cg J P0 hk10 J))<|Ag (.tup [(.func (.func 203) [] []),(.bool true)]) J J Ad<|Ag (.func (.func 203) [] []) J J (Gw J)<|Ag (.bool true) J J (Gw J)<|Ag (.func (.func 203) [] []) J J An<|Ag (.bool true) J J An<|Cl ?_
   refine Y<|O<|Aa (.bool true) J Ad<|Z<|Je true J<|Y<|O ?_
   refine Ac 2 [] [(26,(.q ids 0 g)),(25,(.func (.func 203) [] []))] ?_
   refine Ak [0,8] hI J J (R7 s0_l s0_end l7 _ (ix ids 0) (ix ids 8) v1 v2 v3 v4 v5 v6 v7 g v8 g8 vH7 (by exact hI.sub' J J)) J J J J J J (fun v _=>Ao (K:=9) (N:=0) Tryz.func21 hI) ?_
   rintro r10 _ _ _ ⟨v19,g19,vH18,rfl,rfl⟩
   refine Au [0,8] hI J J J ?_
   refine Ap<|Z<|Aj ?_
   exact Dh (K:=9) (N:=0) (a:=(((((s0_l.drop 1).drop 1).drop 1).drop 1),l,l1,l2,l3,l4,l5,l6,r10)) (vs:=[]) [some (.rows g 10 [[(.sl 4 (List.map Ab ((((s0_l.drop 1).drop 1).drop 1).drop 1))),(.I s0_end),v1,v2,v3,v4,v5,v6,v7,v19]]),Ai v1 g1 2 (List.map Ar l),Ai v2 g2 5 (List.map A8 l1),Ai v3 g3 3 (List.map Bl l2),Ai v4 g4 5 (List.map Bf l3),Ai v5 g5 7 (List.map Bs l4),Ai v6 g6 2 (List.map Bd l5),Ai v7 g7 4 (List.map B6 l6),Ai v19 g19 8 (List.map A4 r10)] Tryz.func21 hI J J J (.keep (.keep (.keep (.keep (.keep (.keep (.keep (.keep (.keep .nil))))))))) (.same _) ⟨v1,g1,v2,g2,v3,g3,v4,g4,v5,g5,v6,g6,v7,g7,v19,g19,vH,vH1,vH2,vH3,vH4,vH5,vH6,vH18,J,J⟩
  refine Ag (.tup [.nilf,(.bool false)]) J J (Mo (Ai9 (es:=Jb Nk) Pg Cg J P0 J (Qp hk (Qp hk1 (Qp hk2 (Qp hk3 (Qp hk4 (Qp hk5 (Qp hk6 (Qp hk7 (Qp hk8 (Qp hk9 (Qp hk10 J)))))))))))))<|Ag (.tup [.nilf,(.bool false)]) J J Ad<|Ag .nilf J J (Gw J)<|Ag (.bool false) J J (Gw J)<|Ag .nilf J J An<|Ag (.bool false) J J An<|Cl ?_
  refine Y<|O<|Aa (.bool false) J Ad<|Z<|Je false J<|Ay<|Bo (hJ () _ _ ⟨J,J⟩)
 refine Ay<|Bo (hJ () _ _ ⟨J,J⟩)
theorem Xi (a0:AV)(a1:AV)(a2:AV)(h:Ae):N0 Tryz.prog 20 [a0,a1,a2] .ret h (X4 (fun _:Unit=>h) .ret (.ok ())):=by
 refine Y2 (n:=22) Tryz.func20 J (by decide) J J ?_ ⟨(),J⟩
 refine Y<|O<|Afb J<|Aa .nili J An<|Z<|Y<|O ?_
 refine Aa .nili J Ad<|Aa (.bool false) J (Bc J J (Aao Afv))<|Z<|Je false J<|Ay<|Yg Tryz.func20 J J J
theorem Ur (n:Int)(n2:Int)(h0:Ae)(ids:List Nat)(hI:Ids h0 ids 3)(g0_:Nat)(g1_:Nat)(g2_:Nat)(r0_:List AV)(r1_:List AV)(r2_:List AV)(hr0_:r0_.length=8)(hr1_:r1_.length=1)(hr2_:r2_.length=1):(∃ a,Fv n n2=.ok a)→N0 Tryz.prog 20 [(.ptr (ix ids 0) g0_ 0 0),(.ptr (ix ids 1) g1_ 0 0),(.ptr (ix ids 2) g2_ 0 0)] (.pan (.iface 64 (.agg [.int .i64 n,.int .i64 n2])) false) (hp h0 ids [some (.rows g0_ 8 [r0_]),some (.rows g1_ 1 [r1_]),some (.rows g2_ 1 [r2_])]) (X4 (fun p=>hp h0 ids [some (.rows g0_ 8 [[.emp,.emp,.emp,.emp,.emp,.emp,.emp,.emp]]),some (.rows g1_ 1 [[(.int .i64 p.1)]]),some (.rows g2_ 1 [[(.int .i64 p.2)]])]) (.pan (.iface 64 (.agg [.int .i64 n,.int .i64 n2])) true) (Fv n n2)):=by
 have hI0_:=hI
 clear hI
 refine Agx (n:=22) (ysf:=fun(p:(Int×Int))=>[some (.rows g0_ 8 [[.emp,.emp,.emp,.emp,.emp,.emp,.emp,.emp]]),some (.rows g1_ 1 [[(.I p.1)]]),some (.rows g2_ 1 [[(.I p.2)]])]) 1 Tryz.func20 J (by decide) J J hI0_ J (fun _=>J) fun ids2 he hI=>?_
 rw [← he 0 rfl,← he 1 rfl,← he 2 rfl]
 clear he hI0_
 revert hI
 generalize ids2=ids
 intro hI
 refine Bk (Al (Fv.eq_1 _ _) ?_)
 refine Aj ?_
 refine Y<|O<|Ae0 J<|Aa (.iface 64 (.agg [(.I n),(.I n2)])) J An<|Z<|Y<|O ?_
 refine Aa (.iface 64 (.agg [(.I n),(.I n2)])) J Ad<|Aa (.bool true) J (Bc J J (Y3 Afv))<|Z<|Je true J<|Y<|O<|Aa (.iface 64 (.agg [(.I n),(.I n2)])) J Ad ?_
 refine Aa (.tup [(.agg [(.I n),(.I n2)]),(.bool true)]) J (Af9 (Al2 X0 (by decide)))<|Ac 3 [] [(13,(.bool true)),(12,(.agg [(.I n),(.I n2)]))] ?_
 refine Bb (j:=3) hI J J J J X0 J fun g=>Aq (Aw (v:=(.agg [(.I n),(.I n2)])) hI J J J J X0 J J J J J)<|Aa (.bool true) J An<|Z<|Aj ?_
 refine Y<|Y<|O<|Ac 2 [] [(15,(.bool false))] ?_
 refine Z<|Je false J<|Ay<|C2 Fa [[],[],[1],[],[3],[0,0],[0,1,2,2,5,5],[0,1,2,3,4,4,5,6,6]] [(false,0),(false,1),(false,2),(false,3),(false,4),(true,5),(true,6),(true,7)] (by kernel_rfl)<|Ag (.agg [.emp,.emp,.emp,.emp,.emp,.emp,.emp,.emp]) J J (Kw (Pd Eh Afy J))<|Ag (.q ids 3 g) J J (Cb (B0 (c:=0) (off:=0) (i:=0) X0 J Dq J))<|Ag (.I n) J J (As (Ba hI J J J Dq J)) ?_
 refine Ag (.ptr (ix ids 3) g 0 1) J J (Cb (B0 (c:=0) (off:=1) (i:=1) X0 J L6 J))<|Ag (.I n2) J J (As (Ba hI J J J L6 J))<|Fk J (fun _ _=>J) (fun K hK=>Dj (T2 (v:=(.agg [.emp,.emp,.emp,.emp,.emp,.emp,.emp,.emp])) hI J J J Eh J J J hr0_ J) (hK _ _ (Bp J (As (Ba hI J J J L6 J)) (Bp J (Cb (B0 (c:=0) (off:=1) (i:=1) X0 J L6 J)) (Bp J (As (Ba hI J J J Dq J)) (Bp J (Cb (B0 (c:=0) (off:=0) (i:=0) X0 J Dq J)) (Af J Bw))))) ?_))
 clear hK K
 refine Fk J (fun _ _=>J) (fun K hK=>Dj (T2 (v:=(.I n)) hI J J J Dq J J J hr1_ J) (hK _ _ (Bp J (As (Ba hI J J J L6 J)) (Bp J (Cb (B0 (c:=0) (off:=1) (i:=1) X0 J L6 J)) (Af J (Af J (Af J Bw))))) ?_))
 clear hK K
 refine Fk J (fun _ _=>J) (fun K hK=>Dj (T2 (v:=(.I n2)) hI J J J L6 J J J hr2_ J) (hK _ _ (Af J (Af J (Af J (Af J (Af J Bw))))) ?_))
 clear hK K
 refine Cl<|Aj ?_
 refine D2 [(some (.rows g0_ 8 [[.emp,.emp,.emp,.emp,.emp,.emp,.emp,.emp]])),(some (.rows g1_ 1 [[(.I n)]])),(some (.rows g2_ 1 [[(.I n2)]])),none] hI J (.keep (.keep (.keep (.drop .nil))))<|Yg (a:=(n,n2)) Tryz.func20 J J J
theorem J1 (src:Av):CP Tryz.prog 10 [(.str src)] (Gl src) (fun(p:(Airspace×Int×Int))=>AV.tup [(.agg (A0 p.1)),(.int .i64 p.2.1),(.int .i64 p.2.2)]):=by
 show CP _ _ _ ((Pa src).catch' (Mv 64 .i64 .i64 (fun n n2=>(Fv n n2).bind fun p=>.ok (({ Volumes:=[],Sectors:=[],Configs:=[],Segments:=[],Routes:=[],Airports:=[],Classes:=[],Rules:=[] }:Airspace),p.1,p.2)) (fun _=>.bad))) _
 refine Abt (n:=36) 12 Tryz.func10 J (by decide) J J fun h0 ids hI=>?_
 have hU : ∀ (v:PV) (fr:Nat→AV) (xs:List (Option AO)) (g0_:Nat) (r0_:List AV) (g1_:Nat) (r1_:List AV) (g2_:Nat) (r2_:List AV) (hl_:xs.length=12) (hr0_:r0_.length=8) (hr1_:r1_.length=1) (hr2_:r2_.length=1) (hy_:xs.take 3=[some (.rows g0_ 8 [r0_]),some (.rows g1_ 1 [r1_]),some (.rows g2_ 1 [r2_])]) (hq2_:fr 2=.q ids 0 g0_) (hq3_:fr 3=.q ids 1 g1_) (hq4_:fr 4=.q ids 2 g2_),WU Tryz.prog 10 36 false (Ot (fun(p:(Airspace×Int×Int))=>AV.tup [(.agg (A0 p.1)),(.I p.2.1),(.I p.2.2)]) h0 (Mv 64 .i64 .i64 (fun n n2=>(Fv n n2).bind fun p=>.ok (({ Volumes:=[],Sectors:=[],Configs:=[],Segments:=[],Routes:=[],Airports:=[],Classes:=[],Rules:=[] }:Airspace),p.1,p.2)) (fun _=>.bad))) (.pan v) (.pan v.av false) fr [⟨20,[.q ids 0 g0_,.q ids 1 g1_,.q ids 2 g2_]⟩] (hp h0 ids xs) .ret:=by
  intro v fr xs g0_ r0_ g1_ r1_ g2_ r2_ hl_ hr0_ hr1_ hr2_ hy_ hq2_ hq3_ hq4_
  refine Amu (t:=64) (k1:=.i64) (k2:=.i64) J (fun n n2 hv=>?_) (fun hne64=>?_)
  ·subst hv
   exact Acm (Hc:=Fv n n2) (fin:=fun p=>(({ Volumes:=[],Sectors:=[],Configs:=[],Segments:=[],Routes:=[],Airports:=[],Classes:=[],Rules:=[] }:Airspace),p.1,p.2)) (c:=3) (cells:=fun p=>[some (.rows g0_ 8 [[.emp,.emp,.emp,.emp,.emp,.emp,.emp,.emp]]),some (.rows g1_ 1 [[(.I p.1)]]),some (.rows g2_ 1 [[(.I p.2)]])]) (vs:=fun p=>[(.agg [.emp,.emp,.emp,.emp,.emp,.emp,.emp,.emp]),(.I p.1),(.I p.2)]) Tryz.func10 hI hl_ J hy_ (by first | (rw [Abk]; done) | (rw [Abk]; rfl)) (fun hx=>by have:=Ur n n2 h0 (ids.take 3) (hI.take J) g0_ g1_ g2_ r0_ r1_ r2_ hr0_ hr1_ hr2_ hx; simp only [Mq (c:=3) (j:=0) J,Mq (c:=3) (j:=1) J,Mq (c:=3) (j:=2) J] at this; exact this) (by intro w; simp [Fv]) (fun p=>(O9 hq2_ (T1 (hI.take J) (Mq J) J J J Eh J) (O9 hq3_ (T1 (hI.take J) (Mq J) J J J Dq J) (O9 hq4_ (T1 (hI.take J) (Mq J) J J J L6 J) E1)))) (fun p=>(.tupL (.cons (.aggL (.cons (.emp _) (.cons (.emp _) (.cons (.emp _) (.cons (.emp _) (.cons (.emp _) (.cons (.emp _) (.cons (.emp _) (.cons (.emp _) .nil))))))))) (.cons (.same _) (.cons (.same _) .nil)))))
  exact Ajn (by rw [Age hne64])
 refine Bk (Al (Pa.eq_1 _) ?_)
 refine Y<|O<|Bb (j:=0) hI J J J J Eh J fun g=>Bb (j:=1) hI J J J J Dq J fun g1=>Bb (j:=2) hI J J J J L6 J fun g2=>Z<|Aj ?_
 refine Y<|O<|Aa (.str src) J Ad<|Aml fun hne=>Bx [(.str src)] J J J J ((Zi src) _) (fun v hv=>absurd hv (hne v)) fun r _=>Ac 5 [] [(5,(.sl 4 (List.map Ab r.1))),(12,(.I r.2.2)),(11,(.I r.2.1))] ?_
 refine Aq (Aw (v:=(.I r.2.1)) hI J J J J Dq J J J J J)<|Aq (Aw (v:=(.I r.2.2)) hI J J J J L6 J J J J J)<|Z<|Aj ?_
 refine Y<|Y<|O<|Ac 2 [2] [(14,(.bool (r.2.2 != 0)))] ?_
 refine Z<|B3 J (fun hc=>?_) (fun hc=>?_)
 ·refine Y<|C2 Fa [[],[],[],[0,0],[0,1,1,3,3],[0,1,2,2,3,4,4]] [(false,0),(false,1),(false,2),(true,3),(true,4),(true,5)] (by kernel_rfl)<|Ag (.agg [.emp,.emp,.emp,.emp,.emp,.emp,.emp,.emp]) J J (As (Ba hI J J J Eh J))<|Ag (.I r.2.1) J J (As (Ba hI J J J Dq J))<|Ag (.I r.2.2) J J (As (Ba hI J J J L6 J))<|Fk J (fun _ _=>J) (fun K hK=>Dj (Aw (v:=(.agg [.emp,.emp,.emp,.emp,.emp,.emp,.emp,.emp])) hI J J J J Eh J J J J J) (hK _ _ (Bp J (As (Ba hI J J J L6 J)) (Bp J (As (Ba hI J J J Dq J)) (Af J Bw))) ?_))
  clear hK K
  refine Fk J (fun _ _=>J) (fun K hK=>Dj (Aw (v:=(.I r.2.1)) hI J J J J Dq J J J J J) (hK _ _ (Bp J (As (Ba hI J J J L6 J)) (Af J (Af J Bw))) ?_))
  clear hK K
  refine Fk J (fun _ _=>J) (fun K hK=>Dj (Aw (v:=(.I r.2.2)) hI J J J J L6 J J J J J) (hK _ _ (Af J (Af J (Af J Bw))) ?_))
  clear hK K
  refine Cl<|Acn (a:=(({ Volumes:=[],Sectors:=[],Configs:=[],Segments:=[],Routes:=[],Airports:=[],Classes:=[],Rules:=[] }:Airspace),r.2.1,r.2.2)) (vs:=[(.agg [.emp,.emp,.emp,.emp,.emp,.emp,.emp,.emp]),(.I r.2.1),(.I r.2.2)]) Tryz.func10 hI (Df (Ba hI J J J Eh J) (Df (Ba hI J J J Dq J) (Df (Ba hI J J J L6 J) E1))) (.tupL (.cons (.aggL (.cons (.emp _) (.cons (.emp _) (.cons (.emp _) (.cons (.emp _) (.cons (.emp _) (.cons (.emp _) (.cons (.emp _) (.cons (.emp _) .nil))))))))) (.cons (.same _) (.cons (.same _) .nil))))
 refine Ay<|Y<|O<|Aa (.func (.func 20) [] [(.q ids 0 g),(.q ids 1 g1),(.q ids 2 g2)]) J Pc<|Adr J J J ?_
 refine Z<|Y<|O<|Ac 2 [] [(20,(.str src)),(19,(.sl 4 (List.map Ab r.1)))] ?_
 refine Aa (.I (src.length:Int)) J (A3 (Jl Cg))<|Aa (.agg [(.sl 4 (List.map Ab r.1)),(.I (src.length:Int)),.emp,.emp,.emp,.emp,.emp,.emp,.emp,.emp]) J (Kw (Pd Wn Am1 J))<|Ck (v:=(.agg [(.sl 4 (List.map Ab r.1)),(.I (src.length:Int)),.emp,.emp,.emp,.emp,.emp,.emp,.emp,.emp])) (j:=3) hI J J J J J J J fun g3=>Aa (.q ids 3 g3) J An<|Z<|Aj ?_
 refine Y<|Dv (Yz fun fL3 l8 l9 l10 l11 l12 l13 l14 l15=>Ou fL3 l8 l9 l10 l11 l12 l13 l14 l15) (Yz fun fL3 l8 l9 l10 l11 l12 l13 l14 l15=>fun(fr:Nat→AV) (h:Ae) => ∃ (v16:AV),∃ (g20:Nat),∃ (v17:AV),∃ (g21:Nat),∃ (v18:AV),∃ (g22:Nat),∃ (v19:AV),∃ (g23:Nat),∃ (v20:AV),∃ (g24:Nat),∃ (v21:AV),∃ (g25:Nat),∃ (v22:AV),∃ (g26:Nat),∃ (v23:AV),∃ (g27:Nat),Az v16 (ix ids 4) g20 l8.length∧Az v17 (ix ids 5) g21 l9.length∧Az v18 (ix ids 6) g22 l10.length∧Az v19 (ix ids 7) g23 l11.length∧Az v20 (ix ids 8) g24 l12.length∧Az v21 (ix ids 9) g25 l13.length∧Az v22 (ix ids 10) g26 l14.length∧Az v23 (ix ids 11) g27 l15.length∧fr=A2 [(2,(.q ids 0 g)),(3,(.q ids 1 g1)),(4,(.q ids 2 g2)),(6,(.q ids 3 g3))]∧h=hp h0 ids [(some (.rows g 8 [[.emp,.emp,.emp,.emp,.emp,.emp,.emp,.emp]])),(some (.rows g1 1 [[(.I r.2.1)]])),(some (.rows g2 1 [[(.I r.2.2)]])),(some (.rows g3 10 [[(.sl 4 (List.map Ab fL3)),(.I (src.length:Int)),v23,v21,v18,v22,v20,v16,v17,v19]])),(Ai v16 g20 2 (List.map Bd l8)),(Ai v17 g21 4 (List.map B6 l9)),(Ai v18 g22 3 (List.map Bl l10)),(Ai v19 g23 8 (List.map A4 l11)),(Ai v20 g24 7 (List.map Bs l12)),(Ai v21 g25 5 (List.map A8 l13)),(Ai v22 g26 5 (List.map Bf l14)),(Ai v23 g27 2 (List.map Ar l15))]) ?_ fun hJ=>?_
 ·rintro⟨fL3,l8,l9,l10,l11,l12,l13,l14,l15⟩ fr h ⟨v16,g20,v17,g21,v18,g22,v19,g23,v20,g24,v21,g25,v22,g26,v23,g27,vH16,vH17,vH18,vH19,vH20,vH21,vH22,vH23,rfl,rfl⟩
  refine Al (Ou.eq_1 _ _ _ _ _ _ _ _ _)<|Y<|O<|Ac 4 [3] [(35,(.agg [v23,v21,v18,v22,v20,v16,v17,v19]))] ?_
  refine Aq (Aw (v:=(.agg [v23,v21,v18,v22,v20,v16,v17,v19])) hI J J J J Eh J J J J (C9 (Az.flat vH23) (C9 (Az.flat vH21) (C9 (Az.flat vH18) (C9 (Az.flat vH22) (C9 (Az.flat vH20) (C9 (Az.flat vH16) (C9 (Az.flat vH17) (C9 (Az.flat vH19) W8)))))))))<|Aq (Aw (v:=(.I 0)) hI J J J J Dq J J J J J)<|Aq (Aw (v:=(.I 0)) hI J J J J L6 J J J J J)<|Z<|Aj ?_
  exact Afn (a:=(({ Volumes:=l15,Sectors:=l13,Configs:=l10,Segments:=l14,Routes:=l12,Airports:=l8,Classes:=l9,Rules:=l11 }:Airspace),0,0)) (vs:=[(.agg [v23,v21,v18,v22,v20,v16,v17,v19]),(.I 0),(.I 0)]) Tryz.func10 hI (Xi _ _ _ _) (Df (Ba hI J J J Eh J) (Df (Ba hI J J J Dq J) (Df (Ba hI J J J L6 J) E1))) (.tupL (.cons (.aggL (.cons (Fp vH23 (hI.at J J) (hI.out J) (fun x=>U7 x)) (.cons (Fp vH21 (hI.at J J) (hI.out J) (fun x=>Sm x)) (.cons (Fp vH18 (hI.at J J) (hI.out J) (fun x=>X5 x)) (.cons (Fp vH22 (hI.at J J) (hI.out J) (fun x=>W3 x)) (.cons (Fp vH20 (hI.at J J) (hI.out J) (fun x=>Y7 x)) (.cons (Fp vH16 (hI.at J J) (hI.out J) (fun x=>Tv x)) (.cons (Fp vH17 (hI.at J J) (hI.out J) (fun x=>Y5 x)) (.cons (Fp vH19 (hI.at J J) (hI.out J) (fun x=>Rt x)) .nil))))))))) (.cons (.same _) (.cons (.same _) .nil))))
 refine A9<|D0 [(2,(.q ids 0 g)),(3,(.q ids 1 g1)),(4,(.q ids 2 g2)),(6,(.q ids 3 g3))] (FI J)<|Rf (P:=Tryz.prog) (Yz fun fL l l1 l2 l3 l4 l5 l6 l7=>Iq src fL l l1 l2 l3 l4 l5 l6 l7) ((Yz fun fL3 l8 l9 l10 l11 l12 l13 l14 l15=>Ou fL3 l8 l9 l10 l11 l12 l13 l14 l15):((List Token)×(List Airport)×(List Class)×(List Config)×(List Rule)×(List Route)×(List Sector)×(List Segment)×(List Volume))→R (Airspace×Int×Int)) (Yz fun fL l l1 l2 l3 l4 l5 l6 l7=>fun(fr:Nat→AV) (h:Ae) => ∃ (v:AV),∃ (g4:Nat),∃ (v1:AV),∃ (g5:Nat),∃ (v2:AV),∃ (g6:Nat),∃ (v3:AV),∃ (g7:Nat),∃ (v4:AV),∃ (g8:Nat),∃ (v5:AV),∃ (g9:Nat),∃ (v6:AV),∃ (g10:Nat),∃ (v7:AV),∃ (g11:Nat),Az v (ix ids 4) g4 l.length∧Az v1 (ix ids 5) g5 l1.length∧Az v2 (ix ids 6) g6 l2.length∧Az v3 (ix ids 7) g7 l3.length∧Az v4 (ix ids 8) g8 l4.length∧Az v5 (ix ids 9) g9 l5.length∧Az v6 (ix ids 10) g10 l6.length∧Az v7 (ix ids 11) g11 l7.length∧fr=A2 [(2,(.q ids 0 g)),(3,(.q ids 1 g1)),(4,(.q ids 2 g2)),(6,(.q ids 3 g3))]∧h=hp h0 ids [(some (.rows g 8 [[.emp,.emp,.emp,.emp,.emp,.emp,.emp,.emp]])),(some (.rows g1 1 [[(.I r.2.1)]])),(some (.rows g2 1 [[(.I r.2.2)]])),(some (.rows g3 10 [[(.sl 4 (List.map Ab fL)),(.I (src.length:Int)),v7,v5,v2,v6,v4,v,v1,v3]])),(Ai v g4 2 (List.map Bd l)),(Ai v1 g5 4 (List.map B6 l1)),(Ai v2 g6 3 (List.map Bl l2)),(Ai v3 g7 8 (List.map A4 l3)),(Ai v4 g8 7 (List.map Bs l4)),(Ai v5 g9 5 (List.map A8 l5)),(Ai v6 g10 5 (List.map Bf l6)),(Ai v7 g11 2 (List.map Ar l7))]) (r.1,[],[],[],[],[],[],[],[]) ?_ ?_
 ·exact⟨.emp,0,.emp,0,.emp,0,.emp,0,.emp,0,.emp,0,.emp,0,.emp,0,.nil,.nil,.nil,.nil,.nil,.nil,.nil,.nil,J,J⟩
 rintro vW hW ⟨fL,l,l1,l2,l3,l4,l5,l6,l7⟩ fr h ⟨v,g4,v1,g5,v2,g6,v3,g7,v4,g8,v5,g9,v6,g10,v7,g11,vH,vH1,vH2,vH3,vH4,vH5,vH6,vH7,rfl,rfl⟩
 refine Al (m':=Iq src fL l l1 l2 l3 l4 l5 l6 l7) J (Al (Iq.eq_1 _ _ _ _ _ _ _ _ _ _) ?_)
 refine Y<|Y<|O<|Ac 4 [3] [(27,(.sl 4 (List.map Ab fL)))] ?_
 refine Aa (.I (fL.length:Int)) J (A3 (Be Ci))<|Aa (.bool (decide ((fL.length:Int) > 0))) J (Bc J J J)<|Z<|Oi J (fun hc1=>?_) (fun hc1=>?_)
 ·refine Ay<|A9<|O<|Aa (.q ids 3 g3) J Ad<|Ak [3,11,9,6,10,8,4,5,7] hI J J (Qm fL (src.length:Int) l7 l5 l2 l6 l4 l l1 l3 _ (ix ids 3) (ix ids 11) (ix ids 9) (ix ids 6) (ix ids 10) (ix ids 8) (ix ids 4) (ix ids 5) (ix ids 7) g3 v7 g11 v5 g9 v2 g6 v6 g10 v4 g8 v g4 v1 g5 v3 g7 vH7 vH5 vH2 vH6 vH4 vH vH1 vH3 (by exact hI.sub' J J)) J J J J J J (fun v _=>hU v _ _ _ _ _ _ _ _ J J J J J J J J) ?_
  rintro r1 _ _ _ ⟨v8,g12,v9,g13,v10,g14,v11,g15,v12,g16,v13,g17,v14,g18,v15,g19,vH8,vH9,vH10,vH11,vH12,vH13,vH14,vH15,rfl,rfl⟩
  refine Au [3,11,9,6,10,8,4,5,7] hI J J J ?_
  refine Ap<|Z<|Aj ?_
  refine Bn<|Bo (Nq (hW (r1.1,r1.2.2.2.2.2.2.1,r1.2.2.2.2.2.2.2.1,r1.2.2.2.1,r1.2.2.2.2.2.2.2.2,r1.2.2.2.2.2.1,r1.2.2.1,r1.2.2.2.2.1,r1.2.1) _ _ ⟨v13,g17,v14,g18,v10,g14,v15,g19,v12,g16,v9,g13,v11,g15,v8,g12,vH13,vH14,vH10,vH15,vH12,vH9,vH11,vH8,J,J⟩))
 refine C4 J<|T4<|Bo (hJ (fL,l,l1,l2,l3,l4,l5,l6,l7) _ _ ⟨v,g4,v1,g5,v2,g6,v3,g7,v4,g8,v5,g9,v6,g10,v7,g11,vH,vH1,vH2,vH3,vH4,vH5,vH6,vH7,J,J⟩)
theorem K1 (ok:Bool)(t:Token)(s0_bad:Bool)(l:List Token)(h0:Ae)(o0:Nat)(o1:Nat)(g:Nat)(v1:AV)(g1:Nat)(vH:Az v1 o1 g1 l.length)(hI0:Ids h0 [o0,o1] 2):Gt ok t s0_bad l≠.bad→Bh Tryz.prog 99 [(.ptr o0 g 0 0),(.bool ok),(.agg (Ab t))] (hp h0 [o0,o1] [some (.rows g 2 [[v1,(.bool s0_bad)]]),Ai v1 g1 4 (List.map Ab l)]) (Ce (fun a_ v h' => ∃ (v3:AV),∃ (g4:Nat),Az v3 o1 g4 a_.length∧v=(.tup [])∧h'=hp h0 [o0,o1] [some (.rows g 2 [[v3,(.bool (s0_bad||(!ok)))]]),Ai v3 g4 4 (List.map Ab a_)]) h0 (Gt ok t s0_bad l)):=by
 refine A6 (n:=27) 1 Tryz.func99 J (by decide) J J hI0 J fun ids he hI=>?_
 clear hI0
 obtain rfl:ix ids 0=o0:=he 0 rfl
 obtain rfl:ix ids 1=o1:=he 1 rfl
 clear he
 refine Bk (Al (Gt.eq_1 _ _ _ _) ?_)
 refine Aj ?_
 refine Y<|O<|Ck (v:=(.agg (Ab t))) (j:=2) hI J J J J J J J fun g2=>Z<|Aj ?_
 refine Y<|O<|Ac 6 [0] [(11,(.bool s0_bad)),(6,(.q ids 0 g))] ?_
 refine Br 3 [(0,(.q ids 0 g)),(5,(.q ids 2 g2)),(6,(.q ids 0 g)),(14,(.bool (s0_bad||(!ok))))] ?_ fun hJ=>Bm s0_bad (fun hb1=>?_) (fun hb1=>?_)
 ·refine Ac 2 [] [(16,(.ptr (ix ids 0) g 0 1))] ?_
  refine Aq (Aw (v:=(.bool (s0_bad||(!ok)))) hI J J J J Og J J J J J)<|Z<|Aj ?_
  refine C2 Fa [[],[],[1],[1,2],[1,2,3],[],[5],[1,2,3,4,5,6],[0,0,1,2,3,4,5,6,7],[0,1,2,3,4,5,6,7,8],[0,1,2,3,4,5,6,7,8,9]] [(false,0),(false,1),(false,2),(false,3),(false,4),(false,5),(true,6),(true,7),(false,8),(false,9),(true,10)] (by kernel_rfl)<|Ag (.q ids 0 g) J J Ad<|Ag (.q ids 0 g) J J Ad<|Ag (.q ids 0 g) J J (Bg J)<|Ag (.q ids 0 g) J J (Cb (B0 (c:=0) (off:=0) (i:=0) Vd J Ci J))<|Ag v1 J J (As (Ba hI J J J Ci J))<|Ag (.agg (Ab t)) J J (As (Ba hI J J J Cp J)) ?_
  refine Hj J J (fun _ _=>J) (fun K hK=>Kx (e:=Ab) (L:=[t]) (st:=4) (rows:=[[(.I t.Kind),(.str t.Text),(.I t.N),(.I t.At)]]) Ci Cp J J J J J (.cons (RowSim.refl _) .nil) (fun x=>N7 x) J J (hK _ _ (Af J (Bp J (As (Ba hI J J J Ci J)) (Bp J (Cb (B0 (c:=0) (off:=0) (i:=0) Vd J Ci J)) (Bp J (Bg J) (Bp J Ad (Bp J Ad Bw)))))) ?_))
  clear hK K
  refine Jg fun hl=>Hj J J (fun _ _=>J) (fun K hK=>Gx (e:=Ab) (L:=l) (L2:=[t]) (v:=v1) (g:=g1) (st:=4) (j:=1) hI J J J vH J (Lv J) Ci Ci J Cp J J J hl fun v2 g3 vH1=>hK _ _ (Af J (Af J (Af J (Af J (Af J (Bp J Ad Bw)))))) ?_)
  clear hK K
  refine Ag (.q ids 0 g) J J (Bg J)<|Ag (.q ids 0 g) J J (Cb (B0 (c:=0) (off:=0) (i:=0) Vd J Ci J))<|Fk J (fun _ _=>J) (fun K hK=>Dj (Lm vH1 hI J J J J Ci J J J) (hK _ _ (Af J (Af J (Af J (Af J (Af J (Af J (Af J (Af J Bw)))))))) ?_))
  clear hK K
  refine Cl<|Aj ?_
  exact B2 (K:=2) (N:=1) (a:=(l++[t])) (vs:=[]) [some (.rows g 2 [[v2,(.bool (s0_bad||(!ok)))]]),Ai v2 g3 4 (List.map Ab (l++[t]))] Tryz.func99 hI J J J (.keep (.keep (.drop .nil))) (.same _) ⟨v2,g3,vH1,J,J⟩
 ·refine Ax (t:=11) hb1 J<|Ac 3 [] [(14,(.bool true))] ?_
  exact A5 hJ (.cons J (.cons J (.cons J (.cons (D9 hb1) .nil))))
 refine Ax (t:=11) hb1 J<|Ac 3 [] [(14,(.bool (!ok)))] ?_
 exact A5 hJ (.cons J (.cons J (.cons J (.cons (Eb hb1) .nil))))
theorem Cr (s:Av)(s0_bad:Bool)(l:List Token)(h0:Ae)(o0:Nat)(o1:Nat)(g:Nat)(v1:AV)(g1:Nat)(vH:Az v1 o1 g1 l.length)(hI0:Ids h0 [o0,o1] 2):Cm s s0_bad l≠.bad→Bh Tryz.prog 30 [(.ptr o0 g 0 0),(.str s)] (hp h0 [o0,o1] [some (.rows g 2 [[v1,(.bool s0_bad)]]),Ai v1 g1 4 (List.map Ab l)]) (Ce (fun a_ v h' => ∃ (v3:AV),∃ (g3:Nat),Az v3 o1 g3 a_.2.length∧v=(.tup [])∧h'=hp h0 [o0,o1] [some (.rows g 2 [[v3,(.bool a_.1)]]),Ai v3 g3 4 (List.map Ab a_.2)]) h0 (Cm s s0_bad l)):=by
 refine A6 (n:=10) 0 Tryz.func30 J (by decide) J J hI0 J fun ids he hI=>?_
 clear hI0
 obtain rfl:ix ids 0=o0:=he 0 rfl
 obtain rfl:ix ids 1=o1:=he 1 rfl
 clear he
 refine Bk (Al (Cm.eq_1 _ _ _) ?_)
 refine O<|Ac 2 [] [(5,(.str s)),(4,(.q ids 0 g))] ?_
 refine Bx [(.str s)] J J J J ((Y0 s) _) (fun v _=>Ao (K:=2) (N:=0) Tryz.func30 hI) fun r _=>Ac 2 [] [(8,(.agg [(.I 1),(.str s),(.I 0),(.I 0)]))] ?_
 refine Ak [0,1] hI J J (K1 r ({ Kind:=1,Text:=s,N:=0,At:=0 }:Token) s0_bad l _ (ix ids 0) (ix ids 1) g v1 g1 vH (by exact hI.sub' J J)) J J J J J J (fun v _=>Ao (K:=2) (N:=0) Tryz.func30 hI) ?_
 rintro r1 _ _ _ ⟨v2,g2,vH1,rfl,rfl⟩
 refine Au [0,1] hI J J J ?_
 refine Ap<|Z<|Aj ?_
 exact B2 (K:=2) (N:=0) (a:=((s0_bad||(!r)),r1)) (vs:=[]) [some (.rows g 2 [[v2,(.bool (s0_bad||(!r)))]]),Ai v2 g2 4 (List.map Ab r1)] Tryz.func30 hI J J J (.keep (.keep .nil)) (.same _) ⟨v2,g2,vH1,J,J⟩
theorem Bu (l:List Av)(s0_bad:Bool)(l1:List Token)(h0:Ae)(o0:Nat)(o1:Nat)(g:Nat)(v1:AV)(g1:Nat)(vH:Az v1 o1 g1 l1.length)(hI0:Ids h0 [o0,o1] 2):Bv l s0_bad l1≠.bad→Bh Tryz.prog 36 [(.ptr o0 g 0 0),(.sl 1 (List.map rS l))] (hp h0 [o0,o1] [some (.rows g 2 [[v1,(.bool s0_bad)]]),Ai v1 g1 4 (List.map Ab l1)]) (Ce (fun a_ v h' => ∃ (v4:AV),∃ (g4:Nat),Az v4 o1 g4 a_.2.length∧v=(.tup [])∧h'=hp h0 [o0,o1] [some (.rows g 2 [[v4,(.bool a_.1)]]),Ai v4 g4 4 (List.map Ab a_.2)]) h0 (Bv l s0_bad l1)):=by
 refine A6 (n:=17) 0 Tryz.func36 J (by decide) J J hI0 J fun ids he hI=>?_
 clear hI0
 obtain rfl:ix ids 0=o0:=he 0 rfl
 obtain rfl:ix ids 1=o1:=he 1 rfl
 clear he
 refine Bk (Al (Bv.eq_1 _ _ _) ?_)
 refine Y<|O<|Aa (.sl 1 (List.map rS l)) J Ad<|Aa (.I (l.length:Int)) J (A3 (Be Dl))<|Aa (.I 0) J Ad<|Z<|A9 ?_
 refine D0 [(0,(.q ids 0 g)),(6,(.sl 1 (List.map rS l))),(7,(.I (l.length:Int))),(8,(.I 0))] (FI J)<|Iu (P:=Tryz.prog) l (fun _ a=>Cz fun fBad l2=>J4 a fBad l2) (((Cz fun fBad l2=>.ok (fBad,l2))):(Bool×(List Token))→R (Bool×(List Token))) (fun j=>Cz fun fBad l2=>fun(fr:Nat→AV) (h:Ae) => ∃ (v2:AV),∃ (g2:Nat),Az v2 (ix ids 1) g2 l2.length∧fr=A2 [(0,(.q ids 0 g)),(6,(.sl 1 (List.map rS l))),(7,(.I (l.length:Int))),(8,(.I (j:Int)))]∧h=hp h0 ids [(some (.rows g 2 [[v2,(.bool fBad)]])),(Ai v2 g2 4 (List.map Ab l2))]) (s0_bad,l1) ?_ ?_ ?_
 ·exact⟨v1,g1,vH,J,J⟩
 ·rintro j a ha W hW ⟨fBad,l2⟩ fr h ⟨v2,g2,vH1,rfl,rfl⟩
  refine Al (m':=J4 a fBad l2) J (Al (J4.eq_1 _ _ _) ?_)
  refine Y<|O<|Aa (.bool (decide ((j:Int)<(l.length:Int)))) J (Bc J J J)<|Z<|Y<|Dz (t:=6) (L:=l) J fun hlim=>Cw J (Int.ofNat_lt.2 (A7 ha)) ?_
  refine Ay<|Y<|A9<|Y<|O<|Aa (.cp [(.str a)] 0) J (Bt (Db Dl Cg J ha))<|Ac 2 [] [(5,(.str a))] ?_
  refine Z<|O<|Ac 3 [] [(14,(.agg [(.I 1),(.str a),(.I 0),(.I 0)])),(12,(.q ids 0 g))] ?_
  refine Ak [0,1] hI J J (K1 true ({ Kind:=1,Text:=a,N:=0,At:=0 }:Token) fBad l2 _ (ix ids 0) (ix ids 1) g v2 g2 vH1 (by exact hI.sub' J J)) J J J J J J (fun v _=>Ao (K:=2) (N:=0) Tryz.func36 hI) ?_
  rintro r _ _ _ ⟨v3,g3,vH2,rfl,rfl⟩
  refine Au [0,1] hI J J J ?_
  refine Ap<|Z<|Aj ?_
  refine Bn<|O<|Ac 2 [] [(8,(.I (IntKind.wrap .i64 ((j:Int)+1))))] ?_
  refine Z<|Bo (Qy (hW ((fBad||(!true)),r) _ _ ⟨v3,g3,vH2,J,J⟩)) (.cons J (.cons J (.cons J (.cons (Dw (A7 ha) hlim) .nil))))
 rintro⟨fBad,l2⟩ fr h ⟨v2,g2,vH1,rfl,rfl⟩
 refine Al (Ns _ _ _)<|Y<|O<|Aa (.bool (decide ((l.length:Int)<(l.length:Int)))) J (Bc J J J)<|Z<|Y<|Cx J (Int.lt_irrefl _) ?_
 refine C4 J<|B2 (K:=2) (N:=0) (a:=(fBad,l2)) (vs:=[]) [some (.rows g 2 [[v2,(.bool fBad)]]),Ai v2 g2 4 (List.map Ab l2)] Tryz.func36 hI J J J (.keep (.keep .nil)) (.same _) ⟨v2,g2,vH1,J,J⟩
theorem Cy (l:List Av)(s0_bad:Bool)(l1:List Token)(h0:Ae)(o0:Nat)(o1:Nat)(g:Nat)(v1:AV)(g1:Nat)(vH:Az v1 o1 g1 l1.length)(hI0:Ids h0 [o0,o1] 2):Co l s0_bad l1≠.bad→Bh Tryz.prog 34 [(.ptr o0 g 0 0),(.sl 1 (List.map rS l))] (hp h0 [o0,o1] [some (.rows g 2 [[v1,(.bool s0_bad)]]),Ai v1 g1 4 (List.map Ab l1)]) (Ce (fun a_ v h' => ∃ (v4:AV),∃ (g4:Nat),Az v4 o1 g4 a_.2.length∧v=(.tup [])∧h'=hp h0 [o0,o1] [some (.rows g 2 [[v4,(.bool a_.1)]]),Ai v4 g4 4 (List.map Ab a_.2)]) h0 (Co l s0_bad l1)):=by
 refine A6 (n:=17) 0 Tryz.func34 J (by decide) J J hI0 J fun ids he hI=>?_
 clear hI0
 obtain rfl:ix ids 0=o0:=he 0 rfl
 obtain rfl:ix ids 1=o1:=he 1 rfl
 clear he
 refine Bk (Al (Co.eq_1 _ _ _) ?_)
 refine Y<|O<|Aa (.sl 1 (List.map rS l)) J Ad<|Aa (.I (l.length:Int)) J (A3 (Be Dl))<|Aa (.I 0) J Ad<|Z<|A9 ?_
 refine D0 [(0,(.q ids 0 g)),(6,(.sl 1 (List.map rS l))),(7,(.I (l.length:Int))),(8,(.I 0))] (FI J)<|Iu (P:=Tryz.prog) l (fun _ a=>Cz fun fBad l2=>J3 a fBad l2) (((Cz fun fBad l2=>.ok (fBad,l2))):(Bool×(List Token))→R (Bool×(List Token))) (fun j=>Cz fun fBad l2=>fun(fr:Nat→AV) (h:Ae) => ∃ (v2:AV),∃ (g2:Nat),Az v2 (ix ids 1) g2 l2.length∧fr=A2 [(0,(.q ids 0 g)),(6,(.sl 1 (List.map rS l))),(7,(.I (l.length:Int))),(8,(.I (j:Int)))]∧h=hp h0 ids [(some (.rows g 2 [[v2,(.bool fBad)]])),(Ai v2 g2 4 (List.map Ab l2))]) (s0_bad,l1) ?_ ?_ ?_
 ·exact⟨v1,g1,vH,J,J⟩
 ·rintro j a ha W hW ⟨fBad,l2⟩ fr h ⟨v2,g2,vH1,rfl,rfl⟩
  refine Al (m':=J3 a fBad l2) J (Al (J3.eq_1 _ _ _) ?_)
  refine Y<|O<|Aa (.bool (decide ((j:Int)<(l.length:Int)))) J (Bc J J J)<|Z<|Y<|Dz (t:=6) (L:=l) J fun hlim=>Cw J (Int.ofNat_lt.2 (A7 ha)) ?_
  refine Ay<|Y<|A9<|Y<|O<|Aa (.cp [(.str a)] 0) J (Bt (Db Dl Cg J ha))<|Ac 2 [] [(5,(.str a))] ?_
  refine Z<|O<|Ac 3 [] [(14,(.agg [(.I 3),(.str a),(.I 0),(.I 0)])),(12,(.q ids 0 g))] ?_
  refine Ak [0,1] hI J J (K1 true ({ Kind:=3,Text:=a,N:=0,At:=0 }:Token) fBad l2 _ (ix ids 0) (ix ids 1) g v2 g2 vH1 (by exact hI.sub' J J)) J J J J J J (fun v _=>Ao (K:=2) (N:=0) Tryz.func34 hI) ?_
  rintro r _ _ _ ⟨v3,g3,vH2,rfl,rfl⟩
  refine Au [0,1] hI J J J ?_
  refine Ap<|Z<|Aj ?_
  refine Bn<|O<|Ac 2 [] [(8,(.I (IntKind.wrap .i64 ((j:Int)+1))))] ?_
  refine Z<|Bo (Qy (hW ((fBad||(!true)),r) _ _ ⟨v3,g3,vH2,J,J⟩)) (.cons J (.cons J (.cons J (.cons (Dw (A7 ha) hlim) .nil))))
 rintro⟨fBad,l2⟩ fr h ⟨v2,g2,vH1,rfl,rfl⟩
 refine Al (Ns _ _ _)<|Y<|O<|Aa (.bool (decide ((l.length:Int)<(l.length:Int)))) J (Bc J J J)<|Z<|Y<|Cx J (Int.lt_irrefl _) ?_
 refine C4 J<|B2 (K:=2) (N:=0) (a:=(fBad,l2)) (vs:=[]) [some (.rows g 2 [[v2,(.bool fBad)]]),Ai v2 g2 4 (List.map Ab l2)] Tryz.func34 hI J J J (.keep (.keep .nil)) (.same _) ⟨v2,g2,vH1,J,J⟩
theorem C7 (n:Int)(least:Int)(most:Int)(s0_bad:Bool)(l:List Token)(h0:Ae)(o0:Nat)(o1:Nat)(g:Nat)(v1:AV)(g1:Nat)(vH:Az v1 o1 g1 l.length)(hI0:Ids h0 [o0,o1] 2):C1 n least most s0_bad l≠.bad→Bh Tryz.prog 37 [(.ptr o0 g 0 0),(.int .i64 n),(.int .i64 least),(.int .i64 most)] (hp h0 [o0,o1] [some (.rows g 2 [[v1,(.bool s0_bad)]]),Ai v1 g1 4 (List.map Ab l)]) (Ce (fun a_ v h' => ∃ (v3:AV),∃ (g3:Nat),Az v3 o1 g3 a_.length∧v=(.tup [])∧h'=hp h0 [o0,o1] [some (.rows g 2 [[v3,(.bool (s0_bad||(!((decide (n≥least))&&(decide (n≤most))))))]]),Ai v3 g3 4 (List.map Ab a_)]) h0 (C1 n least most s0_bad l)):=by
 refine A6 (n:=20) 0 Tryz.func37 J (by decide) J J hI0 J fun ids he hI=>?_
 clear hI0
 obtain rfl:ix ids 0=o0:=he 0 rfl
 obtain rfl:ix ids 1=o1:=he 1 rfl
 clear he
 refine Bk (Al (C1.eq_1 _ _ _ _ _) ?_)
 refine O<|Ac 5 [] [(12,(.bool (decide (n≥least)))),(8,(.q ids 0 g))] ?_
 refine Br 4 [(1,(.I n)),(8,(.q ids 0 g)),(16,(.bool ((decide (n≥least))&&(decide (n≤most)))))] ?_ fun hJ=>Bm (decide (n≥least)) (fun hb1=>?_) (fun hb1=>?_)
 ·refine Ac 2 [] [(18,(.agg [(.I 2),(.str []),(.I n),(.I 0)]))] ?_
  refine Ak [0,1] hI J J (K1 ((decide (n≥least))&&(decide (n≤most))) ({ Kind:=2,Text:=[],N:=n,At:=0 }:Token) s0_bad l _ (ix ids 0) (ix ids 1) g v1 g1 vH (by exact hI.sub' J J)) J J J J J J (fun v _=>Ao (K:=2) (N:=0) Tryz.func37 hI) ?_
  rintro r _ _ _ ⟨v2,g2,vH1,rfl,rfl⟩
  refine Au [0,1] hI J J J ?_
  refine Ap<|Z<|Aj ?_
  exact B2 (K:=2) (N:=0) (a:=r) (vs:=[]) [some (.rows g 2 [[v2,(.bool (s0_bad||(!((decide (n≥least))&&(decide (n≤most))))))]]),Ai v2 g2 4 (List.map Ab r)] Tryz.func37 hI J J J (.keep (.keep .nil)) (.same _) ⟨v2,g2,vH1,J,J⟩
 ·refine Ax (t:=12) hb1 J<|Ac 4 [] [(16,(.bool (decide (n≤most))))] ?_
  exact A5 hJ (.cons J (.cons J (.cons (Hk hb1) .nil)))
 refine Ax (t:=12) hb1 J<|Ac 4 [] [(16,(.bool false))] ?_
 exact A5 hJ (.cons J (.cons J (.cons (Hp hb1) .nil)))
theorem O0 (s:Span)(s0_bad:Bool)(l:List Token)(h0:Ae)(o0:Nat)(o1:Nat)(g:Nat)(v1:AV)(g1:Nat)(vH:Az v1 o1 g1 l.length)(hI0:Ids h0 [o0,o1] 2):Jf s s0_bad l≠.bad→Bh Tryz.prog 102 [(.ptr o0 g 0 0),(.agg (B4 s))] (hp h0 [o0,o1] [some (.rows g 2 [[v1,(.bool s0_bad)]]),Ai v1 g1 4 (List.map Ab l)]) (Ce (fun a_ v h' => ∃ (v5:AV),∃ (g6:Nat),Az v5 o1 g6 a_.2.length∧v=(.tup [])∧h'=hp h0 [o0,o1] [some (.rows g 2 [[v5,(.bool a_.1)]]),Ai v5 g6 4 (List.map Ab a_.2)]) h0 (Jf s s0_bad l)):=by
 refine A6 (n:=18) 1 Tryz.func102 J (by decide) J J hI0 J fun ids he hI=>?_
 clear hI0
 obtain rfl:ix ids 0=o0:=he 0 rfl
 obtain rfl:ix ids 1=o1:=he 1 rfl
 clear he
 refine Bk (Al (Jf.eq_1 _ _ _) ?_)
 refine Aj ?_
 refine Y<|O<|Ck (v:=(.agg (B4 s))) (j:=2) hI J J J J J J J fun g2=>Z<|Aj ?_
 refine Y<|O<|Ac 3 [2] [(6,(.I s.From)),(4,(.q ids 0 g))] ?_
 refine Ak [0,1] hI J J (C7 s.From 0 1439 s0_bad l _ (ix ids 0) (ix ids 1) g v1 g1 vH (by exact hI.sub' J J)) J J J J J J (fun v _=>Ao (K:=2) (N:=1) Tryz.func102 hI) ?_
 rintro r _ _ _ ⟨v2,g3,vH1,rfl,rfl⟩
 refine Au [0,1] hI J J J ?_
 refine Ap<|Z<|Aj ?_
 refine Y<|O<|Aa (.q ids 0 g) J Ad<|C8 (e:=rS) (L:=[[116,111]]) (st:=1) (rows:=[[(.str [116,111])]]) J Dl Cg J J J J J (.cons (RowSim.refl _) .nil) (fun x=>Fy x) J J<|Ak [0,1] hI J J (Bu [[116,111]] (s0_bad||(!((decide (s.From≥0))&&(decide (s.From≤1439))))) r _ (ix ids 0) (ix ids 1) g v2 g3 vH1 (by exact hI.sub' J J)) J J J J J J (fun v _=>Ao (K:=2) (N:=1) Tryz.func102 hI) ?_
 rintro r1 _ _ _ ⟨v3,g4,vH2,rfl,rfl⟩
 refine Au [0,1] hI J J J ?_
 refine Ap<|Z<|Aj ?_
 refine O<|Ac 6 [2,2] [(16,(.I (IntKind.wrap .i64 (s.From+1)))),(13,(.I s.To)),(11,(.q ids 0 g))] ?_
 refine Ak [0,1] hI J J (C7 s.To (IntKind.wrap .i64 (s.From+1)) 1440 r1.1 r1.2 _ (ix ids 0) (ix ids 1) g v3 g4 vH2 (by exact hI.sub' J J)) J J J J J J (fun v _=>Ao (K:=2) (N:=1) Tryz.func102 hI) ?_
 rintro r2 _ _ _ ⟨v4,g5,vH3,rfl,rfl⟩
 refine Au [0,1] hI J J J ?_
 refine Ap<|Z<|Aj ?_
 exact B2 (K:=2) (N:=1) (a:=((r1.1||(!((decide (s.To≥(IntKind.wrap .i64 (s.From+1))))&&(decide (s.To≤1440))))),r2)) (vs:=[]) [some (.rows g 2 [[v4,(.bool (r1.1||(!((decide (s.To≥(IntKind.wrap .i64 (s.From+1))))&&(decide (s.To≤1440))))))]]),Ai v4 g5 4 (List.map Ab r2)] Tryz.func102 hI J J J (.keep (.keep (.drop .nil))) (.same _) ⟨v4,g5,vH3,J,J⟩
theorem S3 (l:List Span)(most:Int)(s0_bad:Bool)(l1:List Token)(h0:Ae)(o0:Nat)(o1:Nat)(g:Nat)(v1:AV)(g1:Nat)(vH:Az v1 o1 g1 l1.length)(hI0:Ids h0 [o0,o1] 2):Km l most s0_bad l1≠.bad→Bh Tryz.prog 101 [(.ptr o0 g 0 0),(.sl 2 (List.map B4 l)),(.int .i64 most),(.func (.func 102) [(.ptr o0 g 0 0)] [])] (hp h0 [o0,o1] [some (.rows g 2 [[v1,(.bool s0_bad)]]),Ai v1 g1 4 (List.map Ab l1)]) (Ce (fun a_ v h' => ∃ (v6:AV),∃ (g7:Nat),Az v6 o1 g7 a_.2.length∧v=(.tup [])∧h'=hp h0 [o0,o1] [some (.rows g 2 [[v6,(.bool a_.1)]]),Ai v6 g7 4 (List.map Ab a_.2)]) h0 (Km l most s0_bad l1)):=by
 refine A6 (n:=44) 1 Tryz.func101 J (by decide) J J hI0 J fun ids he hI=>?_
 clear hI0
 obtain rfl:ix ids 0=o0:=he 0 rfl
 obtain rfl:ix ids 1=o1:=he 1 rfl
 clear he
 refine Bk (Al (Km.eq_1 _ _ _ _) ?_)
 refine Aj ?_
 refine Y<|O<|Ac 6 [0] [(15,(.bool s0_bad)),(10,(.q ids 0 g))] ?_
 refine Br 4 [(0,(.q ids 0 g)),(1,(.sl 2 (List.map B4 l))),(2,(.I most)),(3,(.func (.func 102) [(.q ids 0 g)] [])),(10,(.q ids 0 g)),(19,(.bool (s0_bad||((l.length:Int)==0))))] ?_ fun hJ=>Bm s0_bad (fun hb1=>?_) (fun hb1=>?_)
 ·refine Aa (.bool (s0_bad||((l.length:Int)==0))) J Ad<|Br 5 [(0,(.q ids 0 g)),(1,(.sl 2 (List.map B4 l))),(3,(.func (.func 102) [(.q ids 0 g)] [])),(10,(.q ids 0 g)),(25,(.bool ((s0_bad||((l.length:Int)==0))||(decide ((l.length:Int) > most)))))] ?_ fun hJ1=>Bm (s0_bad||((l.length:Int)==0)) (fun hb3=>?_) (fun hb3=>?_)
  ·refine Ac 2 [] [(27,(.ptr (ix ids 0) g 0 1))] ?_
   refine Aq (Aw (v:=(.bool ((s0_bad||((l.length:Int)==0))||(decide ((l.length:Int) > most))))) hI J J J J Og J J J J J)<|Z<|Aj ?_
   refine Y<|O<|Aa (.sl 2 (List.map B4 l)) J Ad<|Aa (.I (l.length:Int)) J (A3 (Be La))<|Aa (.I 0) J Ad<|Z<|A9 ?_
   refine D0 [(0,(.q ids 0 g)),(3,(.func (.func 102) [(.q ids 0 g)] [])),(28,(.sl 2 (List.map B4 l))),(29,(.I (l.length:Int))),(30,(.I 0))] (FI J)<|Iu (P:=Tryz.prog) l (fun j a=>Cz fun fBad l2=>I5 j a fBad l2) (((Cz fun fBad l2=>.ok (fBad,l2))):(Bool×(List Token))→R (Bool×(List Token))) (fun j=>Cz fun fBad l2=>fun(fr:Nat→AV) (h:Ae) => ∃ (v2:AV),∃ (g2:Nat),Az v2 (ix ids 1) g2 l2.length∧fr=A2 [(0,(.q ids 0 g)),(3,(.func (.func 102) [(.q ids 0 g)] [])),(28,(.sl 2 (List.map B4 l))),(29,(.I (l.length:Int))),(30,(.I (j:Int)))]∧h=hp h0 ids [(some (.rows g 2 [[v2,(.bool fBad)]])),(Ai v2 g2 4 (List.map Ab l2)),none]) (((s0_bad||((l.length:Int)==0))||(decide ((l.length:Int) > most))),l1) ?_ ?_ ?_
   ·exact⟨v1,g1,vH,J,J⟩
   ·rintro j a ha W hW ⟨fBad,l2⟩ fr h ⟨v2,g2,vH1,rfl,rfl⟩
    refine Al (m':=I5 j a fBad l2) J (Al (I5.eq_1 _ _ _ _) ?_)
    refine Y<|O<|Aa (.bool (decide ((j:Int)<(l.length:Int)))) J (Bc J J J)<|Z<|Y<|Dz (t:=28) (L:=l) J fun hlim=>Cw J (Int.ofNat_lt.2 (A7 ha)) ?_
    refine Ay<|Y<|A9<|Y<|O<|Aa (.I (j:Int)) J Ad<|Aa (.cp (B4 a) 0) J (Bt (Db La Kd J ha)) ?_
    refine Aa (.agg (B4 a)) J (As (Cf Kd J))<|Bb (j:=2) hI J J J J Kd J fun g3=>Aa (.I (j:Int)) J An<|Aq (Aw (v:=(.agg (B4 a))) hI J J J J Kd J J J J J)<|Z<|Aj ?_
    refine Y<|Y<|O<|Ac 2 [] [(36,(.bool (decide ((j:Int) > 0))))] ?_
    refine Z<|Dv (Cz fun fBad1 l3=>I3 a fBad1 l3) (Cz fun fBad1 l3=>fun(fr:Nat→AV) (h:Ae) => ∃ (v4:AV),∃ (g5:Nat),Az v4 (ix ids 1) g5 l3.length∧fr=A2 [(0,(.q ids 0 g)),(3,(.func (.func 102) [(.q ids 0 g)] [])),(9,(.q ids 2 g3)),(28,(.sl 2 (List.map B4 l))),(29,(.I (l.length:Int))),(30,(.I (j:Int)))]∧h=hp h0 ids [(some (.rows g 2 [[v4,(.bool fBad1)]])),(Ai v4 g5 4 (List.map Ab l3)),(some (.rows g3 2 [(B4 a)]))]) ?_ fun hJ2=>?_
    ·rintro⟨fBad1,l3⟩ fr h ⟨v4,g5,vH3,rfl,rfl⟩
     refine Al (I3.eq_1 _ _ _)<|O<|Ac 2 [2] [(41,(.agg (B4 a))),(40,(.func (.func 102) [(.q ids 0 g)] []))] ?_
     refine Ak [0,1] hI J J (O0 a fBad1 l3 _ (ix ids 0) (ix ids 1) g v4 g5 vH3 (by exact hI.sub' J J)) J J J J J J (fun v _=>Ao (K:=2) (N:=1) Tryz.func101 hI) ?_
     rintro r1 _ _ _ ⟨v5,g6,vH4,rfl,rfl⟩
     refine Au [0,1] hI J J J ?_
     refine Ap<|Z<|Aj ?_
     refine Bn<|O<|Ac 2 [] [(30,(.I (IntKind.wrap .i64 ((j:Int)+1))))] ?_
     refine Z<|D2 [(some (.rows g 2 [[v5,(.bool r1.1)]])),(Ai v5 g6 4 (List.map Ab r1.2)),none] hI J (.keep (.keep (.drop .nil)))<|Bo (Qy (hW (r1.1,r1.2) _ _ ⟨v5,g6,vH4,J,J⟩)) (.cons J (.cons J (.cons J (.cons J (.cons (Dw (A7 ha) hlim) .nil)))))
    refine Oi J (fun hc=>?_) (fun hc=>?_)
    ·refine O<|Aa (.q ids 0 g) J Ad<|C8 (e:=rS) (L:=[[44]]) (st:=1) (rows:=[[(.str [44])]]) J Dl Cg J J J J J (.cons (RowSim.refl _) .nil) (fun x=>Fy x) J J<|Ak [0,1] hI J J (Cy [[44]] fBad l2 _ (ix ids 0) (ix ids 1) g v2 g2 vH1 (by exact hI.sub' J J)) J J J J J J (fun v _=>Ao (K:=2) (N:=1) Tryz.func101 hI) ?_
     rintro r _ _ _ ⟨v3,g4,vH2,rfl,rfl⟩
     refine Au [0,1] hI J J J ?_
     refine Ap<|Z<|Aj ?_
     exact Bo (hJ2 (r.1,r.2) _ _ ⟨v3,g4,vH2,J,J⟩)
    refine Ay<|Bo (hJ2 (fBad,l2) _ _ ⟨v2,g2,vH1,J,J⟩)
   rintro⟨fBad,l2⟩ fr h ⟨v2,g2,vH1,rfl,rfl⟩
   refine Al (Ns _ _ _)<|Y<|O<|Aa (.bool (decide ((l.length:Int)<(l.length:Int)))) J (Bc J J J)<|Z<|Y<|Cx J (Int.lt_irrefl _) ?_
   refine C4 J<|B2 (K:=2) (N:=1) (a:=(fBad,l2)) (vs:=[]) [some (.rows g 2 [[v2,(.bool fBad)]]),Ai v2 g2 4 (List.map Ab l2)] Tryz.func101 hI J J J (.keep (.keep (.keep .nil))) (.same _) ⟨v2,g2,vH1,J,J⟩
  ·refine Ax (t:=20) hb3 J<|Ac 5 [] [(25,(.bool true))] ?_
   exact A5 hJ1 (.cons J (.cons J (.cons J (.cons J (.cons (D9 hb3) .nil)))))
  refine Ax (t:=20) hb3 J<|By (tj:=20) (.sl 2 (List.map B4 l)) J J J Ad<|By (tj:=20) (.I (l.length:Int)) J J J (A3 (Be La))<|Ac 3 [] [(25,(.bool (decide ((l.length:Int) > most))))] ?_
  exact A5 hJ1 (.cons J (.cons J (.cons J (.cons J (.cons (Eb hb3) .nil)))))
 ·refine Ax (t:=15) hb1 J<|Ac 4 [] [(19,(.bool true))] ?_
  exact A5 hJ (.cons J (.cons J (.cons J (.cons J (.cons J (.cons (D9 hb1) .nil))))))
 refine Ax (t:=15) hb1 J<|By (tj:=15) (.sl 2 (List.map B4 l)) J J J Ad<|By (tj:=15) (.I (l.length:Int)) J J J (A3 (Be La))<|Ac 2 [] [(19,(.bool ((l.length:Int)==0)))] ?_
 exact A5 hJ (.cons J (.cons J (.cons J (.cons J (.cons J (.cons (Eb hb1) .nil))))))
theorem Ox (text:Av)(l:List Span)(s0_bad:Bool)(l1:List Token)(h0:Ae)(o0:Nat)(o1:Nat)(g:Nat)(v1:AV)(g1:Nat)(vH:Az v1 o1 g1 l1.length)(hI0:Ids h0 [o0,o1] 2):Jk text l s0_bad l1≠.bad→Bh Tryz.prog 31 [(.ptr o0 g 0 0),(.str text),(.sl 2 (List.map B4 l))] (hp h0 [o0,o1] [some (.rows g 2 [[v1,(.bool s0_bad)]]),Ai v1 g1 4 (List.map Ab l1)]) (Ce (fun a_ v h' => ∃ (v4:AV),∃ (g4:Nat),Az v4 o1 g4 a_.2.length∧v=(.tup [])∧h'=hp h0 [o0,o1] [some (.rows g 2 [[v4,(.bool a_.1)]]),Ai v4 g4 4 (List.map Ab a_.2)]) h0 (Jk text l s0_bad l1)):=by
 refine A6 (n:=18) 0 Tryz.func31 J (by decide) J J hI0 J fun ids he hI=>?_
 clear hI0
 obtain rfl:ix ids 0=o0:=he 0 rfl
 obtain rfl:ix ids 1=o1:=he 1 rfl
 clear he
 refine Bk (Al (Jk.eq_1 _ _ _ _) ?_)
 refine Y<|O<|Aa (.sl 2 (List.map B4 l)) J Ad<|Aa (.I (l.length:Int)) J (A3 (Be La))<|Aa (.bool (decide ((l.length:Int) > 0))) J (Bc J J J)<|Z<|Oi J (fun hc=>?_) (fun hc=>?_)
 ·refine Y<|O<|Ac 2 [] [(10,(.str text)),(9,(.q ids 0 g))] ?_
  refine C8 (e:=rS) (L:=[text]) (st:=1) (rows:=[[(.str text)]]) J Dl Cg J J J J J (.cons (RowSim.refl _) .nil) (fun x=>Fy x) J J<|Ak [0,1] hI J J (Bu [text] s0_bad l1 _ (ix ids 0) (ix ids 1) g v1 g1 vH (by exact hI.sub' J J)) J J J J J J (fun v _=>Ao (K:=2) (N:=0) Tryz.func31 hI) ?_
  rintro r _ _ _ ⟨v2,g2,vH1,rfl,rfl⟩
  refine Au [0,1] hI J J J ?_
  refine Ap<|Z<|Aj ?_
  refine O<|Ac 4 [] [(16,(.func (.func 102) [(.q ids 0 g)] [])),(14,(.sl 2 (List.map B4 l))),(13,(.q ids 0 g))] ?_
  refine Ak [0,1] hI J J (S3 l 16 r.1 r.2 _ (ix ids 0) (ix ids 1) g v2 g2 vH1 (by exact hI.sub' J J)) J J J J J J (fun v _=>Ao (K:=2) (N:=0) Tryz.func31 hI) ?_
  rintro r1 _ _ _ ⟨v3,g3,vH2,rfl,rfl⟩
  refine Au [0,1] hI J J J ?_
  refine Ap<|Z<|Aj ?_
  exact B2 (K:=2) (N:=0) (a:=(r1.1,r1.2)) (vs:=[]) [some (.rows g 2 [[v3,(.bool r1.1)]]),Ai v3 g3 4 (List.map Ab r1.2)] Tryz.func31 hI J J J (.keep (.keep .nil)) (.same _) ⟨v3,g3,vH2,J,J⟩
 refine Ay<|B2 (K:=2) (N:=0) (a:=(s0_bad,l1)) (vs:=[]) [some (.rows g 2 [[v1,(.bool s0_bad)]]),Ai v1 g1 4 (List.map Ab l1)] Tryz.func31 hI J J J (.keep (.keep .nil)) (.same _) ⟨v1,g1,vH,J,J⟩
theorem Wx (a:Volume)(s1_bad:Bool)(l:List Token)(h0:Ae)(o0:Nat)(o1:Nat)(o2:Nat)(g:Nat)(g1:Nat)(v1:AV)(g2:Nat)(vH:Az v1 o2 g2 l.length)(hI0:Ids h0 [o0,o1,o2] 3):Nf a s1_bad l≠.bad→Bh Tryz.prog 29 [(.agg (Ar a)),(.ptr o0 g 0 0)] (hp h0 [o0,o1,o2] [some (.rows g 1 [[(.ptr o1 g1 0 0)]]),some (.rows g1 2 [[v1,(.bool s1_bad)]]),Ai v1 g2 4 (List.map Ab l)]) (Ce (fun a_ v h' => ∃ (v4:AV),∃ (g6:Nat),Az v4 o2 g6 a_.2.length∧v=(.tup [])∧h'=hp h0 [o0,o1,o2] [some (.rows g 1 [[(.ptr o1 g1 0 0)]]),some (.rows g1 2 [[v4,(.bool a_.1)]]),Ai v4 g6 4 (List.map Ab a_.2)]) h0 (Nf a s1_bad l)):=by
 refine A6 (n:=11) 1 Tryz.func29 J (by decide) J J hI0 J fun ids he hI=>?_
 clear hI0
 obtain rfl:ix ids 0=o0:=he 0 rfl
 obtain rfl:ix ids 1=o1:=he 1 rfl
 obtain rfl:ix ids 2=o2:=he 2 rfl
 clear he
 refine Bk (Al (Nf.eq_1 _ _ _) ?_)
 refine Aj ?_
 refine Y<|O<|Ck (v:=(.agg (Ar a))) (j:=3) hI J J J J J J J fun g3=>Z<|Aj ?_
 refine Y<|O<|Ac 3 [0,3] [(5,(.str a.Name)),(3,(.q ids 1 g1))] ?_
 refine Ak [1,2] hI J J (Cr a.Name s1_bad l _ (ix ids 1) (ix ids 2) g1 v1 g2 vH (by exact hI.sub' J J)) J J J J J J (fun v _=>Ao (K:=3) (N:=1) Tryz.func29 hI) ?_
 rintro r _ _ _ ⟨v2,g4,vH1,rfl,rfl⟩
 refine Au [1,2] hI J J J ?_
 refine Ap<|Z<|Aj ?_
 refine O<|Ac 3 [0,3] [(9,(.sl 2 (List.map B4 a.Closed))),(7,(.q ids 1 g1))] ?_
 refine Ak [1,2] hI J J (Ox [99,108,111,115,101,100] a.Closed r.1 r.2 _ (ix ids 1) (ix ids 2) g1 v2 g4 vH1 (by exact hI.sub' J J)) J J J J J J (fun v _=>Ao (K:=3) (N:=1) Tryz.func29 hI) ?_
 rintro r1 _ _ _ ⟨v3,g5,vH2,rfl,rfl⟩
 refine Au [1,2] hI J J J ?_
 refine Ap<|Z<|Aj ?_
 exact B2 (K:=3) (N:=1) (a:=(r1.1,r1.2)) (vs:=[]) [some (.rows g 1 [[(.q ids 1 g1)]]),some (.rows g1 2 [[v3,(.bool r1.1)]]),Ai v3 g5 4 (List.map Ab r1.2)] Tryz.func29 hI J J J (.keep (.keep (.keep (.drop .nil)))) (.same _) ⟨v3,g5,vH2,J,J⟩
theorem Sg (text:Av)(l:List Volume)(most:Int)(s0_bad:Bool)(h0:Ae)(o0:Nat)(o1:Nat)(o2:Nat)(g:Nat)(g1:Nat)(hI0:Ids h0 [o0,o1,o2] 3):Jt text l most s0_bad≠.bad→Bh Tryz.prog 28 [(.ptr o0 g 0 0),(.str text),(.sl 2 (List.map Ar l)),(.int .i64 most),(.func (.func 29) [] [(.ptr o1 g1 0 0)])] (hp h0 [o0,o1,o2] [some (.rows g 2 [[.emp,(.bool s0_bad)]]),some (.rows g1 1 [[(.ptr o0 g 0 0)]]),none]) (Ce (fun a_ v h' => ∃ (v6:AV),∃ (g8:Nat),Az v6 o2 g8 a_.2.length∧v=(.tup [])∧h'=hp h0 [o0,o1,o2] [some (.rows g 2 [[v6,(.bool a_.1)]]),some (.rows g1 1 [[(.ptr o0 g 0 0)]]),Ai v6 g8 4 (List.map Ab a_.2)]) h0 (Jt text l most s0_bad)):=by
 refine A6 (n:=44) 1 Tryz.func28 J (by decide) J J hI0 J fun ids he hI=>?_
 clear hI0
 obtain rfl:ix ids 0=o0:=he 0 rfl
 obtain rfl:ix ids 1=o1:=he 1 rfl
 obtain rfl:ix ids 2=o2:=he 2 rfl
 clear he
 refine Bk (Al (Jt.eq_1 _ _ _ _) ?_)
 refine Aj ?_
 refine Y<|O<|Ac 6 [0] [(17,(.bool s0_bad)),(12,(.q ids 0 g))] ?_
 refine Br 5 [(0,(.q ids 0 g)),(1,(.str text)),(2,(.sl 2 (List.map Ar l))),(4,(.func (.func 29) [] [(.q ids 1 g1)])),(12,(.q ids 0 g)),(22,(.bool (s0_bad||(decide ((l.length:Int) > most)))))] ?_ fun hJ=>Bm s0_bad (fun hb1=>?_) (fun hb1=>?_)
 ·refine Ac 2 [] [(24,(.ptr (ix ids 0) g 0 1))] ?_
  refine Aq (Aw (v:=(.bool (s0_bad||(decide ((l.length:Int) > most))))) hI J J J J Og J J J J J)<|Z<|Aj ?_
  refine Y<|O<|Aa (.sl 2 (List.map Ar l)) J Ad<|Aa (.I (l.length:Int)) J (A3 (Be Ib))<|Aa (.I 0) J Ad<|Z<|A9 ?_
  refine D0 [(0,(.q ids 0 g)),(1,(.str text)),(4,(.func (.func 29) [] [(.q ids 1 g1)])),(25,(.sl 2 (List.map Ar l))),(26,(.I (l.length:Int))),(27,(.I 0))] (FI J)<|Iu (P:=Tryz.prog) l (fun _ a=>Cz fun fBad l1=>Ip text a fBad l1) (((Cz fun fBad l1=>.ok (fBad,l1))):(Bool×(List Token))→R (Bool×(List Token))) (fun j=>Cz fun fBad l1=>fun(fr:Nat→AV) (h:Ae) => ∃ (v1:AV),∃ (g2:Nat),Az v1 (ix ids 2) g2 l1.length∧fr=A2 [(0,(.q ids 0 g)),(1,(.str text)),(4,(.func (.func 29) [] [(.q ids 1 g1)])),(25,(.sl 2 (List.map Ar l))),(26,(.I (l.length:Int))),(27,(.I (j:Int)))]∧h=hp h0 ids [(some (.rows g 2 [[v1,(.bool fBad)]])),(some (.rows g1 1 [[(.q ids 0 g)]])),(Ai v1 g2 4 (List.map Ab l1)),none]) ((s0_bad||(decide ((l.length:Int) > most))),[]) ?_ ?_ ?_
  ·exact⟨.emp,0,.nil,J,J⟩
  ·rintro j a ha W hW ⟨fBad,l1⟩ fr h ⟨v1,g2,vH,rfl,rfl⟩
   refine Al (m':=Ip text a fBad l1) J (Al (Ip.eq_1 _ _ _ _) ?_)
   refine Y<|O<|Aa (.bool (decide ((j:Int)<(l.length:Int)))) J (Bc J J J)<|Z<|Y<|Dz (t:=25) (L:=l) J fun hlim=>Cw J (Int.ofNat_lt.2 (A7 ha)) ?_
   refine Ay<|Y<|A9<|Y<|O<|Aa (.cp (Ar a) 0) J (Bt (Db Ib I8 J ha))<|Aa (.agg (Ar a)) J (As (Cf I8 J)) ?_
   refine Bb (j:=3) hI J J J J I8 J fun g3=>Aq (Aw (v:=(.agg (Ar a))) hI J J J J I8 J J J J J)<|Z<|Aj ?_
   refine Y<|Y<|O<|Ac 2 [] [(32,(.bool (!(text==[]))))] ?_
   refine Z<|Dv (Cz fun fBad1 l2=>Il a fBad1 l2) (Cz fun fBad1 l2=>fun(fr:Nat→AV) (h:Ae) => ∃ (v3:AV),∃ (g5:Nat),Az v3 (ix ids 2) g5 l2.length∧fr=A2 [(0,(.q ids 0 g)),(1,(.str text)),(4,(.func (.func 29) [] [(.q ids 1 g1)])),(11,(.q ids 3 g3)),(25,(.sl 2 (List.map Ar l))),(26,(.I (l.length:Int))),(27,(.I (j:Int)))]∧h=hp h0 ids [(some (.rows g 2 [[v3,(.bool fBad1)]])),(some (.rows g1 1 [[(.q ids 0 g)]])),(Ai v3 g5 4 (List.map Ab l2)),(some (.rows g3 2 [(Ar a)]))]) ?_ fun hJ1=>?_
   ·rintro⟨fBad1,l2⟩ fr h ⟨v3,g5,vH2,rfl,rfl⟩
    refine Al (Il.eq_1 _ _ _)<|Y<|O<|Ac 2 [3] [(38,(.agg (Ar a))),(37,(.func (.func 29) [] [(.q ids 1 g1)]))] ?_
    refine Ak [1,0,2] hI J J (Wx a fBad1 l2 _ (ix ids 1) (ix ids 0) (ix ids 2) g1 g v3 g5 vH2 (by exact hI.sub' J J)) J J J J J J (fun v _=>Ao (K:=3) (N:=1) Tryz.func28 hI) ?_
    rintro r1 _ _ _ ⟨v4,g6,vH3,rfl,rfl⟩
    refine Au [1,0,2] hI J J J ?_
    refine Ap<|Z<|Aj ?_
    refine O<|Aa (.q ids 0 g) J Ad<|C8 (e:=rS) (L:=[[59]]) (st:=1) (rows:=[[(.str [59])]]) J Dl Cg J J J J J (.cons (RowSim.refl _) .nil) (fun x=>Fy x) J J<|Ak [0,2] hI J J (Cy [[59]] r1.1 r1.2 _ (ix ids 0) (ix ids 2) g v4 g6 vH3 (by exact hI.sub' J J)) J J J J J J (fun v _=>Ao (K:=3) (N:=1) Tryz.func28 hI) ?_
    rintro r2 _ _ _ ⟨v5,g7,vH4,rfl,rfl⟩
    refine Au [0,2] hI J J J ?_
    refine Ap<|Z<|Aj ?_
    refine Bn<|O<|Ac 2 [] [(27,(.I (IntKind.wrap .i64 ((j:Int)+1))))] ?_
    refine Z<|D2 [(some (.rows g 2 [[v5,(.bool r2.1)]])),(some (.rows g1 1 [[(.q ids 0 g)]])),(Ai v5 g7 4 (List.map Ab r2.2)),none] hI J (.keep (.keep (.keep (.drop .nil))))<|Bo (Qy (hW (r2.1,r2.2) _ _ ⟨v5,g7,vH4,J,J⟩)) (.cons J (.cons J (.cons J (.cons J (.cons J (.cons (Dw (A7 ha) hlim) .nil))))))
   refine Dx J (fun hc=>?_) (fun hc=>?_)
   ·refine Ay<|Bo (hJ1 (fBad,l1) _ _ ⟨v1,g2,vH,J,J⟩)
   refine O<|Ac 2 [] [(34,(.str text)),(33,(.q ids 0 g))] ?_
   refine C8 (e:=rS) (L:=[text]) (st:=1) (rows:=[[(.str text)]]) J Dl Cg J J J J J (.cons (RowSim.refl _) .nil) (fun x=>Fy x) J J<|Ak [0,2] hI J J (Bu [text] fBad l1 _ (ix ids 0) (ix ids 2) g v1 g2 vH (by exact hI.sub' J J)) J J J J J J (fun v _=>Ao (K:=3) (N:=1) Tryz.func28 hI) ?_
   rintro r _ _ _ ⟨v2,g4,vH1,rfl,rfl⟩
   refine Au [0,2] hI J J J ?_
   refine Ap<|Z<|Aj ?_
   exact Bo (hJ1 (r.1,r.2) _ _ ⟨v2,g4,vH1,J,J⟩)
  rintro⟨fBad,l1⟩ fr h ⟨v1,g2,vH,rfl,rfl⟩
  refine Al (Ns _ _ _)<|Y<|O<|Aa (.bool (decide ((l.length:Int)<(l.length:Int)))) J (Bc J J J)<|Z<|Y<|Cx J (Int.lt_irrefl _) ?_
  refine C4 J<|B2 (K:=3) (N:=1) (a:=(fBad,l1)) (vs:=[]) [some (.rows g 2 [[v1,(.bool fBad)]]),some (.rows g1 1 [[(.q ids 0 g)]]),Ai v1 g2 4 (List.map Ab l1)] Tryz.func28 hI J J J (.keep (.keep (.keep (.keep .nil)))) (.same _) ⟨v1,g2,vH,J,J⟩
 ·refine Ax (t:=17) hb1 J<|Ac 5 [] [(22,(.bool true))] ?_
  exact A5 hJ (.cons J (.cons J (.cons J (.cons J (.cons J (.cons (D9 hb1) .nil))))))
 refine Ax (t:=17) hb1 J<|By (tj:=17) (.sl 2 (List.map Ar l)) J J J Ad<|By (tj:=17) (.I (l.length:Int)) J J J (A3 (Be Ib))<|Ac 3 [] [(22,(.bool (decide ((l.length:Int) > most))))] ?_
 exact A5 hJ (.cons J (.cons J (.cons J (.cons J (.cons J (.cons (Eb hb1) .nil))))))
theorem Lg (l:List Av)(most:Int)(s0_bad:Bool)(l1:List Token)(h0:Ae)(o0:Nat)(o1:Nat)(g:Nat)(v1:AV)(g1:Nat)(vH:Az v1 o1 g1 l1.length)(hI0:Ids h0 [o0,o1] 2):F1 l most s0_bad l1≠.bad→Bh Tryz.prog 35 [(.ptr o0 g 0 0),(.sl 1 (List.map rS l)),(.int .i64 most),(.func (.func 30) [(.ptr o0 g 0 0)] [])] (hp h0 [o0,o1] [some (.rows g 2 [[v1,(.bool s0_bad)]]),Ai v1 g1 4 (List.map Ab l1)]) (Ce (fun a_ v h' => ∃ (v6:AV),∃ (g6:Nat),Az v6 o1 g6 a_.2.length∧v=(.tup [])∧h'=hp h0 [o0,o1] [some (.rows g 2 [[v6,(.bool a_.1)]]),Ai v6 g6 4 (List.map Ab a_.2)]) h0 (F1 l most s0_bad l1)):=by
 refine A6 (n:=44) 0 Tryz.func35 J (by decide) J J hI0 J fun ids he hI=>?_
 clear hI0
 obtain rfl:ix ids 0=o0:=he 0 rfl
 obtain rfl:ix ids 1=o1:=he 1 rfl
 clear he
 refine Bk (Al (F1.eq_1 _ _ _ _) ?_)
 refine Y<|O<|Ac 6 [0] [(15,(.bool s0_bad)),(10,(.q ids 0 g))] ?_
 refine Br 4 [(0,(.q ids 0 g)),(1,(.sl 1 (List.map rS l))),(2,(.I most)),(3,(.func (.func 30) [(.q ids 0 g)] [])),(10,(.q ids 0 g)),(19,(.bool (s0_bad||((l.length:Int)==0))))] ?_ fun hJ=>Bm s0_bad (fun hb1=>?_) (fun hb1=>?_)
 ·refine Aa (.bool (s0_bad||((l.length:Int)==0))) J Ad<|Br 5 [(0,(.q ids 0 g)),(1,(.sl 1 (List.map rS l))),(3,(.func (.func 30) [(.q ids 0 g)] [])),(10,(.q ids 0 g)),(25,(.bool ((s0_bad||((l.length:Int)==0))||(decide ((l.length:Int) > most)))))] ?_ fun hJ1=>Bm (s0_bad||((l.length:Int)==0)) (fun hb3=>?_) (fun hb3=>?_)
  ·refine Ac 2 [] [(27,(.ptr (ix ids 0) g 0 1))] ?_
   refine Aq (Aw (v:=(.bool ((s0_bad||((l.length:Int)==0))||(decide ((l.length:Int) > most))))) hI J J J J Og J J J J J)<|Z<|Aj ?_
   refine Y<|O<|Aa (.sl 1 (List.map rS l)) J Ad<|Aa (.I (l.length:Int)) J (A3 (Be Dl))<|Aa (.I 0) J Ad<|Z<|A9 ?_
   refine D0 [(0,(.q ids 0 g)),(3,(.func (.func 30) [(.q ids 0 g)] [])),(28,(.sl 1 (List.map rS l))),(29,(.I (l.length:Int))),(30,(.I 0))] (FI J)<|Iu (P:=Tryz.prog) l (fun j a=>Cz fun fBad l2=>Ij j a fBad l2) (((Cz fun fBad l2=>.ok (fBad,l2))):(Bool×(List Token))→R (Bool×(List Token))) (fun j=>Cz fun fBad l2=>fun(fr:Nat→AV) (h:Ae) => ∃ (v2:AV),∃ (g2:Nat),Az v2 (ix ids 1) g2 l2.length∧fr=A2 [(0,(.q ids 0 g)),(3,(.func (.func 30) [(.q ids 0 g)] [])),(28,(.sl 1 (List.map rS l))),(29,(.I (l.length:Int))),(30,(.I (j:Int)))]∧h=hp h0 ids [(some (.rows g 2 [[v2,(.bool fBad)]])),(Ai v2 g2 4 (List.map Ab l2))]) (((s0_bad||((l.length:Int)==0))||(decide ((l.length:Int) > most))),l1) ?_ ?_ ?_
   ·exact⟨v1,g1,vH,J,J⟩
   ·rintro j a ha W hW ⟨fBad,l2⟩ fr h ⟨v2,g2,vH1,rfl,rfl⟩
    refine Al (m':=Ij j a fBad l2) J (Al (Ij.eq_1 _ _ _ _) ?_)
    refine Y<|O<|Aa (.bool (decide ((j:Int)<(l.length:Int)))) J (Bc J J J)<|Z<|Y<|Dz (t:=28) (L:=l) J fun hlim=>Cw J (Int.ofNat_lt.2 (A7 ha)) ?_
    refine Ay<|Y<|A9<|Y<|O<|Aa (.I (j:Int)) J Ad<|Aa (.cp [(.str a)] 0) J (Bt (Db Dl Cg J ha)) ?_
    refine Ac 3 [] [(9,(.str a)),(8,(.I (j:Int)))] ?_
    refine Z<|Y<|Y<|O<|Ac 2 [] [(36,(.bool (decide ((j:Int) > 0))))] ?_
    refine Z<|Dv (Cz fun fBad1 l3=>If a fBad1 l3) (Cz fun fBad1 l3=>fun(fr:Nat→AV) (h:Ae) => ∃ (v4:AV),∃ (g4:Nat),Az v4 (ix ids 1) g4 l3.length∧fr=A2 [(0,(.q ids 0 g)),(3,(.func (.func 30) [(.q ids 0 g)] [])),(9,(.str a)),(28,(.sl 1 (List.map rS l))),(29,(.I (l.length:Int))),(30,(.I (j:Int)))]∧h=hp h0 ids [(some (.rows g 2 [[v4,(.bool fBad1)]])),(Ai v4 g4 4 (List.map Ab l3))]) ?_ fun hJ2=>?_
    ·rintro⟨fBad1,l3⟩ fr h ⟨v4,g4,vH3,rfl,rfl⟩
     refine Al (If.eq_1 _ _ _)<|O<|Ac 2 [] [(41,(.str a)),(40,(.func (.func 30) [(.q ids 0 g)] []))] ?_
     refine Ak [0,1] hI J J (Cr a fBad1 l3 _ (ix ids 0) (ix ids 1) g v4 g4 vH3 (by exact hI.sub' J J)) J J J J J J (fun v _=>Ao (K:=2) (N:=0) Tryz.func35 hI) ?_
     rintro r1 _ _ _ ⟨v5,g5,vH4,rfl,rfl⟩
     refine Au [0,1] hI J J J ?_
     refine Ap<|Z<|Aj ?_
     refine Bn<|O<|Ac 2 [] [(30,(.I (IntKind.wrap .i64 ((j:Int)+1))))] ?_
     refine Z<|Bo (Qy (hW (r1.1,r1.2) _ _ ⟨v5,g5,vH4,J,J⟩)) (.cons J (.cons J (.cons J (.cons J (.cons (Dw (A7 ha) hlim) .nil)))))
    refine Oi J (fun hc=>?_) (fun hc=>?_)
    ·refine O<|Aa (.q ids 0 g) J Ad<|C8 (e:=rS) (L:=[[44]]) (st:=1) (rows:=[[(.str [44])]]) J Dl Cg J J J J J (.cons (RowSim.refl _) .nil) (fun x=>Fy x) J J<|Ak [0,1] hI J J (Cy [[44]] fBad l2 _ (ix ids 0) (ix ids 1) g v2 g2 vH1 (by exact hI.sub' J J)) J J J J J J (fun v _=>Ao (K:=2) (N:=0) Tryz.func35 hI) ?_
     rintro r _ _ _ ⟨v3,g3,vH2,rfl,rfl⟩
     refine Au [0,1] hI J J J ?_
     refine Ap<|Z<|Aj ?_
     exact Bo (hJ2 (r.1,r.2) _ _ ⟨v3,g3,vH2,J,J⟩)
    refine Ay<|Bo (hJ2 (fBad,l2) _ _ ⟨v2,g2,vH1,J,J⟩)
   rintro⟨fBad,l2⟩ fr h ⟨v2,g2,vH1,rfl,rfl⟩
   refine Al (Ns _ _ _)<|Y<|O<|Aa (.bool (decide ((l.length:Int)<(l.length:Int)))) J (Bc J J J)<|Z<|Y<|Cx J (Int.lt_irrefl _) ?_
   refine C4 J<|B2 (K:=2) (N:=0) (a:=(fBad,l2)) (vs:=[]) [some (.rows g 2 [[v2,(.bool fBad)]]),Ai v2 g2 4 (List.map Ab l2)] Tryz.func35 hI J J J (.keep (.keep .nil)) (.same _) ⟨v2,g2,vH1,J,J⟩
  ·refine Ax (t:=20) hb3 J<|Ac 5 [] [(25,(.bool true))] ?_
   exact A5 hJ1 (.cons J (.cons J (.cons J (.cons J (.cons (D9 hb3) .nil)))))
  refine Ax (t:=20) hb3 J<|By (tj:=20) (.sl 1 (List.map rS l)) J J J Ad<|By (tj:=20) (.I (l.length:Int)) J J J (A3 (Be Dl))<|Ac 3 [] [(25,(.bool (decide ((l.length:Int) > most))))] ?_
  exact A5 hJ1 (.cons J (.cons J (.cons J (.cons J (.cons (Eb hb3) .nil)))))
 ·refine Ax (t:=15) hb1 J<|Ac 4 [] [(19,(.bool true))] ?_
  exact A5 hJ (.cons J (.cons J (.cons J (.cons J (.cons J (.cons (D9 hb1) .nil))))))
 refine Ax (t:=15) hb1 J<|By (tj:=15) (.sl 1 (List.map rS l)) J J J Ad<|By (tj:=15) (.I (l.length:Int)) J J J (A3 (Be Dl))<|Ac 2 [] [(19,(.bool ((l.length:Int)==0)))] ?_
 exact A5 hJ (.cons J (.cons J (.cons J (.cons J (.cons J (.cons (Eb hb1) .nil))))))
theorem Wz (a:Sector)(s1_bad:Bool)(l:List Token)(h0:Ae)(o0:Nat)(o1:Nat)(o2:Nat)(g:Nat)(g1:Nat)(v1:AV)(g2:Nat)(vH:Az v1 o2 g2 l.length)(hI0:Ids h0 [o0,o1,o2] 3):Nd a s1_bad l≠.bad→Bh Tryz.prog 33 [(.agg (A8 a)),(.ptr o0 g 0 0)] (hp h0 [o0,o1,o2] [some (.rows g 1 [[(.ptr o1 g1 0 0)]]),some (.rows g1 2 [[v1,(.bool s1_bad)]]),Ai v1 g2 4 (List.map Ab l)]) (Ce (fun a_ v h' => ∃ (v9:AV),∃ (g11:Nat),Az v9 o2 g11 a_.2.length∧v=(.tup [])∧h'=hp h0 [o0,o1,o2] [some (.rows g 1 [[(.ptr o1 g1 0 0)]]),some (.rows g1 2 [[v9,(.bool a_.1)]]),Ai v9 g11 4 (List.map Ab a_.2)]) h0 (Nd a s1_bad l)):=by
 refine A6 (n:=32) 1 Tryz.func33 J (by decide) J J hI0 J fun ids he hI=>?_
 clear hI0
 obtain rfl:ix ids 0=o0:=he 0 rfl
 obtain rfl:ix ids 1=o1:=he 1 rfl
 obtain rfl:ix ids 2=o2:=he 2 rfl
 clear he
 refine Bk (Al (Nd.eq_1 _ _ _) ?_)
 refine Aj ?_
 refine Y<|O<|Ck (v:=(.agg (A8 a))) (j:=3) hI J J J J J J J fun g3=>Z<|Aj ?_
 refine Y<|O<|Ac 3 [0,3] [(5,(.str a.Name)),(3,(.q ids 1 g1))] ?_
 refine Ak [1,2] hI J J (Cr a.Name s1_bad l _ (ix ids 1) (ix ids 2) g1 v1 g2 vH (by exact hI.sub' J J)) J J J J J J (fun v _=>Ao (K:=3) (N:=1) Tryz.func33 hI) ?_
 rintro r _ _ _ ⟨v2,g4,vH1,rfl,rfl⟩
 refine Au [1,2] hI J J J ?_
 refine Ap<|Z<|Aj ?_
 refine Y<|O<|Ac 1 [0] [(7,(.q ids 1 g1))] ?_
 refine C8 (e:=rS) (L:=[[61]]) (st:=1) (rows:=[[(.str [61])]]) J Dl Cg J J J J J (.cons (RowSim.refl _) .nil) (fun x=>Fy x) J J<|Ak [1,2] hI J J (Cy [[61]] r.1 r.2 _ (ix ids 1) (ix ids 2) g1 v2 g4 vH1 (by exact hI.sub' J J)) J J J J J J (fun v _=>Ao (K:=3) (N:=1) Tryz.func33 hI) ?_
 rintro r1 _ _ _ ⟨v3,g5,vH2,rfl,rfl⟩
 refine Au [1,2] hI J J J ?_
 refine Ap<|Z<|Aj ?_
 refine Y<|O<|Ac 5 [0,3,0] [(14,(.func (.func 30) [(.q ids 1 g1)] [])),(12,(.sl 1 (List.map rS a.Names))),(10,(.q ids 1 g1))] ?_
 refine Ak [1,2] hI J J (Lg a.Names 64 r1.1 r1.2 _ (ix ids 1) (ix ids 2) g1 v3 g5 vH2 (by exact hI.sub' J J)) J J J J J J (fun v _=>Ao (K:=3) (N:=1) Tryz.func33 hI) ?_
 rintro r2 _ _ _ ⟨v4,g6,vH3,rfl,rfl⟩
 refine Au [1,2] hI J J J ?_
 refine Ap<|Z<|Aj ?_
 refine Y<|O<|Ac 1 [0] [(16,(.q ids 1 g1))] ?_
 refine C8 (e:=rS) (L:=[[114,97,100,97,114]]) (st:=1) (rows:=[[(.str [114,97,100,97,114])]]) J Dl Cg J J J J J (.cons (RowSim.refl _) .nil) (fun x=>Fy x) J J<|Ak [1,2] hI J J (Bu [[114,97,100,97,114]] r2.1 r2.2 _ (ix ids 1) (ix ids 2) g1 v4 g6 vH3 (by exact hI.sub' J J)) J J J J J J (fun v _=>Ao (K:=3) (N:=1) Tryz.func33 hI) ?_
 rintro r3 _ _ _ ⟨v5,g7,vH4,rfl,rfl⟩
 refine Au [1,2] hI J J J ?_
 refine Ap<|Z<|Aj ?_
 refine Y<|O<|Ac 3 [0,3] [(21,(.I a.Radar)),(19,(.q ids 1 g1))] ?_
 refine Ak [1,2] hI J J (C7 a.Radar 0 64 r3.1 r3.2 _ (ix ids 1) (ix ids 2) g1 v5 g7 vH4 (by exact hI.sub' J J)) J J J J J J (fun v _=>Ao (K:=3) (N:=1) Tryz.func33 hI) ?_
 rintro r4 _ _ _ ⟨v6,g8,vH5,rfl,rfl⟩
 refine Au [1,2] hI J J J ?_
 refine Ap<|Z<|Aj ?_
 refine Y<|O<|Ac 1 [0] [(23,(.q ids 1 g1))] ?_
 refine C8 (e:=rS) (L:=[[112,114,111,99,101,100,117,114,97,108]]) (st:=1) (rows:=[[(.str [112,114,111,99,101,100,117,114,97,108])]]) J Dl Cg J J J J J (.cons (RowSim.refl _) .nil) (fun x=>Fy x) J J<|Ak [1,2] hI J J (Bu [[112,114,111,99,101,100,117,114,97,108]] (r3.1||(!((decide (a.Radar≥0))&&(decide (a.Radar≤64))))) r4 _ (ix ids 1) (ix ids 2) g1 v6 g8 vH5 (by exact hI.sub' J J)) J J J J J J (fun v _=>Ao (K:=3) (N:=1) Tryz.func33 hI) ?_
 rintro r5 _ _ _ ⟨v7,g9,vH6,rfl,rfl⟩
 refine Au [1,2] hI J J J ?_
 refine Ap<|Z<|Aj ?_
 refine O<|Ac 5 [0,3,3] [(30,(.I a.Radar)),(28,(.I a.Procedural)),(26,(.q ids 1 g1))] ?_
 refine Ak [1,2] hI J J (C7 a.Procedural 0 a.Radar r5.1 r5.2 _ (ix ids 1) (ix ids 2) g1 v7 g9 vH6 (by exact hI.sub' J J)) J J J J J J (fun v _=>Ao (K:=3) (N:=1) Tryz.func33 hI) ?_
 rintro r6 _ _ _ ⟨v8,g10,vH7,rfl,rfl⟩
 refine Au [1,2] hI J J J ?_
 refine Ap<|Z<|Aj ?_
 exact B2 (K:=3) (N:=1) (a:=((r5.1||(!((decide (a.Procedural≥0))&&(decide (a.Procedural≤a.Radar))))),r6)) (vs:=[]) [some (.rows g 1 [[(.q ids 1 g1)]]),some (.rows g1 2 [[v8,(.bool (r5.1||(!((decide (a.Procedural≥0))&&(decide (a.Procedural≤a.Radar))))))]]),Ai v8 g10 4 (List.map Ab r6)] Tryz.func33 hI J J J (.keep (.keep (.keep (.drop .nil)))) (.same _) ⟨v8,g10,vH7,J,J⟩
theorem Sf (text:Av)(l:List Sector)(most:Int)(s0_bad:Bool)(l1:List Token)(h0:Ae)(o0:Nat)(o1:Nat)(o2:Nat)(g:Nat)(v1:AV)(g1:Nat)(g2:Nat)(vH:Az v1 o1 g1 l1.length)(hI0:Ids h0 [o0,o1,o2] 3):J0 text l most s0_bad l1≠.bad→Bh Tryz.prog 32 [(.ptr o0 g 0 0),(.str text),(.sl 5 (List.map A8 l)),(.int .i64 most),(.func (.func 33) [] [(.ptr o2 g2 0 0)])] (hp h0 [o0,o1,o2] [some (.rows g 2 [[v1,(.bool s0_bad)]]),Ai v1 g1 4 (List.map Ab l1),some (.rows g2 1 [[(.ptr o0 g 0 0)]])]) (Ce (fun a_ v h' => ∃ (v7:AV),∃ (g9:Nat),Az v7 o1 g9 a_.2.length∧v=(.tup [])∧h'=hp h0 [o0,o1,o2] [some (.rows g 2 [[v7,(.bool a_.1)]]),Ai v7 g9 4 (List.map Ab a_.2),some (.rows g2 1 [[(.ptr o0 g 0 0)]])]) h0 (J0 text l most s0_bad l1)):=by
 refine A6 (n:=44) 1 Tryz.func32 J (by decide) J J hI0 J fun ids he hI=>?_
 clear hI0
 obtain rfl:ix ids 0=o0:=he 0 rfl
 obtain rfl:ix ids 1=o1:=he 1 rfl
 obtain rfl:ix ids 2=o2:=he 2 rfl
 clear he
 refine Bk (Al (J0.eq_1 _ _ _ _ _) ?_)
 refine Aj ?_
 refine Y<|O<|Ac 6 [0] [(17,(.bool s0_bad)),(12,(.q ids 0 g))] ?_
 refine Br 5 [(0,(.q ids 0 g)),(1,(.str text)),(2,(.sl 5 (List.map A8 l))),(4,(.func (.func 33) [] [(.q ids 2 g2)])),(12,(.q ids 0 g)),(22,(.bool (s0_bad||(decide ((l.length:Int) > most)))))] ?_ fun hJ=>Bm s0_bad (fun hb1=>?_) (fun hb1=>?_)
 ·refine Ac 2 [] [(24,(.ptr (ix ids 0) g 0 1))] ?_
  refine Aq (Aw (v:=(.bool (s0_bad||(decide ((l.length:Int) > most))))) hI J J J J Og J J J J J)<|Z<|Aj ?_
  refine Y<|O<|Aa (.sl 5 (List.map A8 l)) J Ad<|Aa (.I (l.length:Int)) J (A3 (Be Lb))<|Aa (.I 0) J Ad<|Z<|A9 ?_
  refine D0 [(0,(.q ids 0 g)),(1,(.str text)),(4,(.func (.func 33) [] [(.q ids 2 g2)])),(25,(.sl 5 (List.map A8 l))),(26,(.I (l.length:Int))),(27,(.I 0))] (FI J)<|Iu (P:=Tryz.prog) l (fun _ a=>Cz fun fBad l2=>Im text a fBad l2) (((Cz fun fBad l2=>.ok (fBad,l2))):(Bool×(List Token))→R (Bool×(List Token))) (fun j=>Cz fun fBad l2=>fun(fr:Nat→AV) (h:Ae) => ∃ (v2:AV),∃ (g3:Nat),Az v2 (ix ids 1) g3 l2.length∧fr=A2 [(0,(.q ids 0 g)),(1,(.str text)),(4,(.func (.func 33) [] [(.q ids 2 g2)])),(25,(.sl 5 (List.map A8 l))),(26,(.I (l.length:Int))),(27,(.I (j:Int)))]∧h=hp h0 ids [(some (.rows g 2 [[v2,(.bool fBad)]])),(Ai v2 g3 4 (List.map Ab l2)),(some (.rows g2 1 [[(.q ids 0 g)]])),none]) ((s0_bad||(decide ((l.length:Int) > most))),l1) ?_ ?_ ?_
  ·exact⟨v1,g1,vH,J,J⟩
  ·rintro j a ha W hW ⟨fBad,l2⟩ fr h ⟨v2,g3,vH1,rfl,rfl⟩
   refine Al (m':=Im text a fBad l2) J (Al (Im.eq_1 _ _ _ _) ?_)
   refine Y<|O<|Aa (.bool (decide ((j:Int)<(l.length:Int)))) J (Bc J J J)<|Z<|Y<|Dz (t:=25) (L:=l) J fun hlim=>Cw J (Int.ofNat_lt.2 (A7 ha)) ?_
   refine Ay<|Y<|A9<|Y<|O<|Aa (.cp (A8 a) 0) J (Bt (Db Lb Gr J ha))<|Aa (.agg (A8 a)) J (As (Cf Gr J)) ?_
   refine Bb (j:=3) hI J J J J Gr J fun g4=>Aq (Aw (v:=(.agg (A8 a))) hI J J J J Gr J J J J J)<|Z<|Aj ?_
   refine Y<|Y<|O<|Ac 2 [] [(32,(.bool (!(text==[]))))] ?_
   refine Z<|Dv (Cz fun fBad1 l3=>Ie a fBad1 l3) (Cz fun fBad1 l3=>fun(fr:Nat→AV) (h:Ae) => ∃ (v4:AV),∃ (g6:Nat),Az v4 (ix ids 1) g6 l3.length∧fr=A2 [(0,(.q ids 0 g)),(1,(.str text)),(4,(.func (.func 33) [] [(.q ids 2 g2)])),(11,(.q ids 3 g4)),(25,(.sl 5 (List.map A8 l))),(26,(.I (l.length:Int))),(27,(.I (j:Int)))]∧h=hp h0 ids [(some (.rows g 2 [[v4,(.bool fBad1)]])),(Ai v4 g6 4 (List.map Ab l3)),(some (.rows g2 1 [[(.q ids 0 g)]])),(some (.rows g4 5 [(A8 a)]))]) ?_ fun hJ1=>?_
   ·rintro⟨fBad1,l3⟩ fr h ⟨v4,g6,vH3,rfl,rfl⟩
    refine Al (Ie.eq_1 _ _ _)<|Y<|O<|Ac 2 [3] [(38,(.agg (A8 a))),(37,(.func (.func 33) [] [(.q ids 2 g2)]))] ?_
    refine Ak [2,0,1] hI J J (Wz a fBad1 l3 _ (ix ids 2) (ix ids 0) (ix ids 1) g2 g v4 g6 vH3 (by exact hI.sub' J J)) J J J J J J (fun v _=>Ao (K:=3) (N:=1) Tryz.func32 hI) ?_
    rintro r1 _ _ _ ⟨v5,g7,vH4,rfl,rfl⟩
    refine Au [2,0,1] hI J J J ?_
    refine Ap<|Z<|Aj ?_
    refine O<|Aa (.q ids 0 g) J Ad<|C8 (e:=rS) (L:=[[59]]) (st:=1) (rows:=[[(.str [59])]]) J Dl Cg J J J J J (.cons (RowSim.refl _) .nil) (fun x=>Fy x) J J<|Ak [0,1] hI J J (Cy [[59]] r1.1 r1.2 _ (ix ids 0) (ix ids 1) g v5 g7 vH4 (by exact hI.sub' J J)) J J J J J J (fun v _=>Ao (K:=3) (N:=1) Tryz.func32 hI) ?_
    rintro r2 _ _ _ ⟨v6,g8,vH5,rfl,rfl⟩
    refine Au [0,1] hI J J J ?_
    refine Ap<|Z<|Aj ?_
    refine Bn<|O<|Ac 2 [] [(27,(.I (IntKind.wrap .i64 ((j:Int)+1))))] ?_
    refine Z<|D2 [(some (.rows g 2 [[v6,(.bool r2.1)]])),(Ai v6 g8 4 (List.map Ab r2.2)),(some (.rows g2 1 [[(.q ids 0 g)]])),none] hI J (.keep (.keep (.keep (.drop .nil))))<|Bo (Qy (hW (r2.1,r2.2) _ _ ⟨v6,g8,vH5,J,J⟩)) (.cons J (.cons J (.cons J (.cons J (.cons J (.cons (Dw (A7 ha) hlim) .nil))))))
   refine Dx J (fun hc=>?_) (fun hc=>?_)
   ·refine Ay<|Bo (hJ1 (fBad,l2) _ _ ⟨v2,g3,vH1,J,J⟩)
   refine O<|Ac 2 [] [(34,(.str text)),(33,(.q ids 0 g))] ?_
   refine C8 (e:=rS) (L:=[text]) (st:=1) (rows:=[[(.str text)]]) J Dl Cg J J J J J (.cons (RowSim.refl _) .nil) (fun x=>Fy x) J J<|Ak [0,1] hI J J (Bu [text] fBad l2 _ (ix ids 0) (ix ids 1) g v2 g3 vH1 (by exact hI.sub' J J)) J J J J J J (fun v _=>Ao (K:=3) (N:=1) Tryz.func32 hI) ?_
   rintro r _ _ _ ⟨v3,g5,vH2,rfl,rfl⟩
   refine Au [0,1] hI J J J ?_
   refine Ap<|Z<|Aj ?_
   exact Bo (hJ1 (r.1,r.2) _ _ ⟨v3,g5,vH2,J,J⟩)
  rintro⟨fBad,l2⟩ fr h ⟨v2,g3,vH1,rfl,rfl⟩
  refine Al (Ns _ _ _)<|Y<|O<|Aa (.bool (decide ((l.length:Int)<(l.length:Int)))) J (Bc J J J)<|Z<|Y<|Cx J (Int.lt_irrefl _) ?_
  refine C4 J<|B2 (K:=3) (N:=1) (a:=(fBad,l2)) (vs:=[]) [some (.rows g 2 [[v2,(.bool fBad)]]),Ai v2 g3 4 (List.map Ab l2),some (.rows g2 1 [[(.q ids 0 g)]])] Tryz.func32 hI J J J (.keep (.keep (.keep (.keep .nil)))) (.same _) ⟨v2,g3,vH1,J,J⟩
 ·refine Ax (t:=17) hb1 J<|Ac 5 [] [(22,(.bool true))] ?_
  exact A5 hJ (.cons J (.cons J (.cons J (.cons J (.cons J (.cons (D9 hb1) .nil))))))
 refine Ax (t:=17) hb1 J<|By (tj:=17) (.sl 5 (List.map A8 l)) J J J Ad<|By (tj:=17) (.I (l.length:Int)) J J J (A3 (Be Lb))<|Ac 3 [] [(22,(.bool (decide ((l.length:Int) > most))))] ?_
 exact A5 hJ (.cons J (.cons J (.cons J (.cons J (.cons J (.cons (Eb hb1) .nil))))))
theorem Wy (a:Config)(s1_bad:Bool)(l:List Token)(h0:Ae)(o0:Nat)(o1:Nat)(o2:Nat)(g:Nat)(g1:Nat)(v1:AV)(g2:Nat)(vH:Az v1 o2 g2 l.length)(hI0:Ids h0 [o0,o1,o2] 3):Nm a s1_bad l≠.bad→Bh Tryz.prog 39 [(.agg (Bl a)),(.ptr o0 g 0 0)] (hp h0 [o0,o1,o2] [some (.rows g 1 [[(.ptr o1 g1 0 0)]]),some (.rows g1 2 [[v1,(.bool s1_bad)]]),Ai v1 g2 4 (List.map Ab l)]) (Ce (fun a_ v h' => ∃ (v5:AV),∃ (g7:Nat),Az v5 o2 g7 a_.2.length∧v=(.tup [])∧h'=hp h0 [o0,o1,o2] [some (.rows g 1 [[(.ptr o1 g1 0 0)]]),some (.rows g1 2 [[v5,(.bool a_.1)]]),Ai v5 g7 4 (List.map Ab a_.2)]) h0 (Nm a s1_bad l)):=by
 refine A6 (n:=16) 1 Tryz.func39 J (by decide) J J hI0 J fun ids he hI=>?_
 clear hI0
 obtain rfl:ix ids 0=o0:=he 0 rfl
 obtain rfl:ix ids 1=o1:=he 1 rfl
 obtain rfl:ix ids 2=o2:=he 2 rfl
 clear he
 refine Bk (Al (Nm.eq_1 _ _ _) ?_)
 refine Aj ?_
 refine Y<|O<|Ck (v:=(.agg (Bl a))) (j:=3) hI J J J J J J J fun g3=>Z<|Aj ?_
 refine Y<|O<|Ac 3 [0,3] [(5,(.str a.Name)),(3,(.q ids 1 g1))] ?_
 refine Ak [1,2] hI J J (Cr a.Name s1_bad l _ (ix ids 1) (ix ids 2) g1 v1 g2 vH (by exact hI.sub' J J)) J J J J J J (fun v _=>Ao (K:=3) (N:=1) Tryz.func39 hI) ?_
 rintro r _ _ _ ⟨v2,g4,vH1,rfl,rfl⟩
 refine Au [1,2] hI J J J ?_
 refine Ap<|Z<|Aj ?_
 refine Y<|O<|Ac 1 [0] [(7,(.q ids 1 g1))] ?_
 refine C8 (e:=rS) (L:=[[61]]) (st:=1) (rows:=[[(.str [61])]]) J Dl Cg J J J J J (.cons (RowSim.refl _) .nil) (fun x=>Fy x) J J<|Ak [1,2] hI J J (Cy [[61]] r.1 r.2 _ (ix ids 1) (ix ids 2) g1 v2 g4 vH1 (by exact hI.sub' J J)) J J J J J J (fun v _=>Ao (K:=3) (N:=1) Tryz.func39 hI) ?_
 rintro r1 _ _ _ ⟨v3,g5,vH2,rfl,rfl⟩
 refine Au [1,2] hI J J J ?_
 refine Ap<|Z<|Aj ?_
 refine O<|Ac 5 [0,3,0] [(14,(.func (.func 30) [(.q ids 1 g1)] [])),(12,(.sl 1 (List.map rS a.Names))),(10,(.q ids 1 g1))] ?_
 refine Ak [1,2] hI J J (Lg a.Names 64 r1.1 r1.2 _ (ix ids 1) (ix ids 2) g1 v3 g5 vH2 (by exact hI.sub' J J)) J J J J J J (fun v _=>Ao (K:=3) (N:=1) Tryz.func39 hI) ?_
 rintro r2 _ _ _ ⟨v4,g6,vH3,rfl,rfl⟩
 refine Au [1,2] hI J J J ?_
 refine Ap<|Z<|Aj ?_
 exact B2 (K:=3) (N:=1) (a:=(r2.1,r2.2)) (vs:=[]) [some (.rows g 1 [[(.q ids 1 g1)]]),some (.rows g1 2 [[v4,(.bool r2.1)]]),Ai v4 g6 4 (List.map Ab r2.2)] Tryz.func39 hI J J J (.keep (.keep (.keep (.drop .nil)))) (.same _) ⟨v4,g6,vH3,J,J⟩
end Go.Am
