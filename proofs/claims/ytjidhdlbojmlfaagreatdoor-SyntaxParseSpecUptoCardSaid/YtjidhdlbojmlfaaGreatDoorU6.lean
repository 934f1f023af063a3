/- Written by shrink.py from texts of ours: comments struck, what is not reached left out, names short. -/
import Derived.Test.YtjidhdlbojmlfaaGreatDoorU5
namespace Go.Am
open Go Go.Proofs
set_option maxRecDepth 100000
set_option maxHeartbeats 4000000
set_option linter.unusedSimpArgs false
set_option linter.unusedVariables false
theorem Wg (most:Int)(s0_l:List Token)(s0_end:Int)(l:List Volume)(l1:List Sector)(h0:Ag)(o0:Nat)(o1:Nat)(o2:Nat)(o3:Nat)(w:AV)(w1:AV)(w2:AV)(w3:AV)(w4:AV)(w5:AV)(g:Nat)(v1:AV)(g1:Nat)(v2:AV)(g2:Nat)(g3:Nat)(vH:Av v1 o1 g1 l.length)(vH1:Av v2 o2 g2 l1.length)(hI0:Ids h0 [o0,o1,o2,o3] 4):Hw most s0_l s0_end l l1≠.bad→Bq Tryz.prog 173 [(.ptr o0 g 0 0),(.ptr o0 g 0 3),(.int .i64 most),(.func (.func 174) [] [(.ptr o3 g3 0 0)])] (hp h0 [o0,o1,o2,o3] [some (.rows g 10 [[(.sl 4 (List.map Ac s0_l)),(.int .i64 s0_end),v1,v2,w,w1,w2,w3,w4,w5]]),Ah v1 g1 2 (List.map Aw l),Ah v2 g2 5 (List.map A9 l1),some (.rows g3 1 [[(.ptr o0 g 0 0)]])]) (C5 (fun a_ v h' => ∃ (v4:AV),∃ (g6:Nat),Av v4 o2 g6 a_.2.length∧v=(.tup [])∧h'=hp h0 [o0,o1,o2,o3] [some (.rows g 10 [[(.sl 4 (List.map Ac a_.1)),(.int .i64 s0_end),v1,v4,w,w1,w2,w3,w4,w5]]),Ah v1 g1 2 (List.map Aw l),Ah v4 g6 5 (List.map A9 a_.2),some (.rows g3 1 [[(.ptr o0 g 0 0)]])]) h0 (Hw most s0_l s0_end l l1)):=by
 refine Bm (n:=39) 1 Tryz.func173 J (by decide) J J hI0 J fun ids he hI=>?_
 clear hI0
 obtain rfl:ix ids 0=o0:=he 0 rfl
 obtain rfl:ix ids 1=o1:=he 1 rfl
 obtain rfl:ix ids 2=o2:=he 2 rfl
 obtain rfl:ix ids 3=o3:=he 3 rfl
 clear he
 refine Bn (Al (Hw.eq_1 _ _ _ _ _) ?_)
 refine Aj ?_
 refine Y<|Y<|O<|Ab 3 [0] [(11,v2)] ?_
 refine Aa (.I (l1.length:Int)) J (A2 (Av.len vH1 J1))<|Ab 2 [] [(14,(.bool ((l1.length:Int)==most)))] ?_
 refine Z<|Dx (π:=Unit) (fun _=>H6 s0_l s0_end l l1) (fun _=>fun(fr:Nat→AV) (h:Ag)=>fr=A5 [(0,(.q ids 0 g)),(1,(.ptr (ix ids 0) g 0 3)),(3,(.func (.func 174) [] [(.q ids 3 g3)]))]∧h=hp h0 ids [(some (.rows g 10 [[(.sl 4 (List.map Ac s0_l)),(.I s0_end),v1,v2,w,w1,w2,w3,w4,w5]])),(Ah v1 g1 2 (List.map Aw l)),(Ah v2 g2 5 (List.map A9 l1)),(some (.rows g3 1 [[(.q ids 0 g)]])),none]) ?_ fun hJ=>?_
 ·rintro _ fr h ⟨rfl,rfl⟩
  refine Al (H6.eq_1 _ _ _ _)<|Y<|O<|Ab 5 [0] [(21,(.sl 4 (List.map Ac s0_l))),(17,(.q ids 0 g))] ?_
  refine Ee fun hs=>Aa (.sl 4 (List.map Ac (s0_l.drop 1))) J (Fr (N0 Ch C1 J hs))<|Ab 2 [] [(24,(.q ids 0 g))] ?_
  refine An (Aq (v:=(.sl 4 (List.map Ac (s0_l.drop 1)))) hI J J J J Ch J J J J J)<|Z<|Aj ?_
  refine Y<|O<|Ab 2 [] [(26,(.q ids 0 g)),(25,(.func (.func 174) [] [(.q ids 3 g3)]))] ?_
  refine Ap [0] hI J J (Da (s0_l.drop 1) s0_end _ (ix ids 0) v1 v2 w w1 w2 w3 w4 w5 g (by exact hI.sub' J J)) J J J J J J (fun v _=>Ao (K:=4) (N:=1) Tryz.func173 hI) ?_
  rintro r1 _ _ _ ⟨rfl,rfl⟩
  refine A0 [0] hI J J J ?_
  refine Ar<|Ap [3,0,1] hI J J (T3 r1 ((s0_l.drop 1).drop 1) s0_end l _ (ix ids 3) (ix ids 0) (ix ids 1) g3 v2 w w1 w2 w3 w4 w5 g v1 g1 vH (by exact hI.sub' J J)) J J J J J J (fun v _=>Ao (K:=4) (N:=1) Tryz.func173 hI) ?_
  rintro r2 _ _ _ ⟨rfl,rfl⟩
  refine A0 [3,0,1] hI J J J ?_
  refine Ar<|A8 (j:=4) hI J J J J Gn J fun g4=>An (Aq (v:=(.agg (A9 r2.1))) hI J J J J Gn J J J J J)<|Z<|Aj ?_
  refine Y<|O<|Aa (.q ids 0 g) J Ad<|Ap [0] hI J J (Di [59] r2.2 s0_end _ (ix ids 0) v1 v2 w w1 w2 w3 w4 w5 g (by exact hI.sub' J J)) J J J J J J (fun v _=>Ao (K:=4) (N:=1) Tryz.func173 hI) ?_
  rintro _ _ _ _ ⟨rfl,rfl⟩
  refine A0 [0] hI J J J ?_
  refine Ar<|Z<|Aj ?_
  refine Ct Es [[],[],[1],[1,2],[],[4],[1,2,3,4,5],[0,0,1,2,3,4,5,6],[0,1,2,3,4,5,6,6,6,7]] [(false,0),(false,1),(false,2),(false,3),(false,4),(true,5),(true,6),(false,7),(true,8)] (by kernel_rfl)<|Af (.ptr (ix ids 0) g 0 3) J J Ad<|Af (.ptr (ix ids 0) g 0 3) J J Ad<|Af (.ptr (ix ids 0) g 0 3) J J (Br J)<|Af v2 J J (Au (A3 hI J J J J1 J))<|Af (.agg (A9 r2.1)) J J (Au (A3 hI J J J Gn J))<|Iv J J (fun _ _=>J) (fun K hK=>Mr (e:=A9) (L:=[r2.1]) (st:=5) (rows:=[[(.str r2.1.Name),(.sl 1 (List.map rS r2.1.Names)),(.sl 1 (List.map (rI .i64) r2.1.Volumes)),(.I r2.1.Radar),(.I r2.1.Procedural)]]) J1 Gn J J J J J (.cons (RowSim.refl _) .nil) (fun x=>Qe x) J J (hK _ _ (Ae J (Bt J (Au (A3 hI J J J J1 J)) (Bt J (Br J) (Bt J Ad (Bt J Ad Bp))))) ?_))
  clear hK K
  refine Kt fun hl=>Iv J J (fun _ _=>J) (fun K hK=>H4 (e:=A9) (L:=l1) (L2:=[r2.1]) (v:=v2) (g:=g2) (st:=5) (j:=2) hI J J J vH1 J (Gb J) J1 J1 J Gn J J J hl fun v3 g5 vH2=>hK _ _ (Ae J (Ae J (Ae J (Ae J (Bt J Ad Bp))))) ?_)
  clear hK K
  refine Af (.ptr (ix ids 0) g 0 3) J J (Br J)<|D7 J (fun _ _=>J) (fun K hK=>Co (G5 vH2 hI J J J J J1 J J J) (hK _ _ (Ae J (Ae J (Ae J (Ae J (Ae J (Ae J Bp)))))) ?_))
  clear hK K
  refine Ck<|Aj ?_
  exact Ci (K:=4) (N:=1) (a:=((r2.2.drop 1),(l1++[r2.1]))) (vs:=[]) [some (.rows g 10 [[(.sl 4 (List.map Ac (r2.2.drop 1))),(.I s0_end),v1,v3,w,w1,w2,w3,w4,w5]]),Ah v1 g1 2 (List.map Aw l),Ah v3 g5 5 (List.map A9 (l1++[r2.1])),some (.rows g3 1 [[(.q ids 0 g)]])] Tryz.func173 hI J J J (.keep (.keep (.keep (.keep (.drop .nil))))) (.same _) ⟨v3,g5,vH2,J,J⟩
 refine Bx J (fun hc=>?_) (fun hc=>?_)
 ·refine O<|Aa (.q ids 0 g) J Ad<|Ap [0] hI J J (Cn 2 s0_l s0_end _ (ix ids 0) v1 v2 w w1 w2 w3 w4 w5 g (by exact hI.sub' J J)) J J J J J J (fun v _=>Ao (K:=4) (N:=1) Tryz.func173 hI) ?_
  rintro _ _ _ _ ⟨rfl,rfl⟩
  refine A0 [0] hI J J J ?_
  refine Ar<|Z<|Bo (hJ () _ _ ⟨J,J⟩)
 refine Ax<|Bo (hJ () _ _ ⟨J,J⟩)
theorem Vm (s0_l:List Token)(s0_end:Int)(l:List Volume)(l1:List Sector)(h0:Ag)(o0:Nat)(o1:Nat)(o2:Nat)(w:AV)(w1:AV)(w2:AV)(w3:AV)(w4:AV)(w5:AV)(g:Nat)(v1:AV)(g1:Nat)(v2:AV)(g2:Nat)(vH:Av v1 o1 g1 l.length)(vH1:Av v2 o2 g2 l1.length)(hI0:Ids h0 [o0,o1,o2] 3):I7 s0_l s0_end l l1≠.bad→Bq Tryz.prog 172 [(.ptr o0 g 0 0)] (hp h0 [o0,o1,o2] [some (.rows g 10 [[(.sl 4 (List.map Ac s0_l)),(.int .i64 s0_end),v1,v2,w,w1,w2,w3,w4,w5]]),Ah v1 g1 2 (List.map Aw l),Ah v2 g2 5 (List.map A9 l1)]) (C5 (fun a_ v h' => ∃ (v4:AV),∃ (g5:Nat),Av v4 o2 g5 a_.2.length∧v=(.tup [])∧h'=hp h0 [o0,o1,o2] [some (.rows g 10 [[(.sl 4 (List.map Ac a_.1)),(.int .i64 s0_end),v1,v4,w,w1,w2,w3,w4,w5]]),Ah v1 g1 2 (List.map Aw l),Ah v4 g5 5 (List.map A9 a_.2)]) h0 (I7 s0_l s0_end l l1)):=by
 refine Bm (n:=9) 1 Tryz.func172 J (by decide) J J hI0 J fun ids he hI=>?_
 clear hI0
 obtain rfl:ix ids 0=o0:=he 0 rfl
 obtain rfl:ix ids 1=o1:=he 1 rfl
 obtain rfl:ix ids 2=o2:=he 2 rfl
 clear he
 refine Bn (Al (I7.eq_1 _ _ _ _) ?_)
 refine Aj ?_
 refine Y<|O<|Cl (v:=(.q ids 0 g)) (j:=3) hI J J J J J J J fun g3=>Z<|Aj ?_
 refine Ct Es [[],[],[1],[1,2],[1,2,3],[],[0,1,2,3,4,5]] [(false,0),(false,1),(false,2),(false,3),(false,4),(false,5),(true,6)] (by kernel_rfl)<|Af (.q ids 0 g) J J (Au (A3 hI J J J Tt J))<|Af (.q ids 0 g) J J (Au (A3 hI J J J Tt J))<|Af (.q ids 0 g) J J (Br J)<|Af (.ptr (ix ids 0) g 0 2) J J (Cb (B3 (c:=0) (off:=2) (i:=2) Z1 J Dl J))<|Af (.ptr (ix ids 0) g 0 3) J J (Cb (B3 (c:=2) (off:=1) (i:=1) Dl J J1 J))<|Af (.func (.func 174) [] [(.q ids 3 g3)]) J J R9 ?_
 refine Su [0,1,2,3] hI J J (Wg 64 s0_l s0_end l l1 _ (ix ids 0) (ix ids 1) (ix ids 2) (ix ids 3) w w1 w2 w3 w4 w5 g v1 g1 v2 g2 g3 vH vH1 (by exact hI.sub' J J)) J J J J J J J (fun v _ _ _=>Ao (K:=3) (N:=1) Tryz.func172 hI) ?_
 rintro r _ _ _ ⟨v3,g4,vH2,rfl,rfl⟩
 refine Ui [0,1,2,3] [some (.rows g 10 [[(.sl 4 (List.map Ac r.1)),(.I s0_end),v1,v3,w,w1,w2,w3,w4,w5]]),Ah v1 g1 2 (List.map Aw l),Ah v3 g4 5 (List.map A9 r.2),some (.rows g3 1 [[(.q ids 0 g)]])] hI J J J J ⟨(Ae J (Ae J (Ae J (Ae J (Ae J (Ae J Bp)))))),?_⟩
 refine Ug<|Ck<|Aj ?_
 exact Ci (K:=3) (N:=1) (a:=(r.1,r.2)) (vs:=[]) [some (.rows g 10 [[(.sl 4 (List.map Ac r.1)),(.I s0_end),v1,v3,w,w1,w2,w3,w4,w5]]),Ah v1 g1 2 (List.map Aw l),Ah v3 g4 5 (List.map A9 r.2)] Tryz.func172 hI J J J (.keep (.keep (.keep (.drop .nil)))) (.same _) ⟨v3,g4,vH2,J,J⟩
theorem Wj (most:Int)(s0_l:List Token)(s0_end:Int)(l:List Volume)(l1:List Config)(h0:Ag)(o0:Nat)(o1:Nat)(o2:Nat)(o3:Nat)(w:AV)(w1:AV)(w2:AV)(w3:AV)(w4:AV)(w5:AV)(g:Nat)(v1:AV)(g1:Nat)(v2:AV)(g2:Nat)(g3:Nat)(vH:Av v1 o1 g1 l.length)(vH1:Av v2 o2 g2 l1.length)(hI0:Ids h0 [o0,o1,o2,o3] 4):Hv most s0_l s0_end l l1≠.bad→Bq Tryz.prog 181 [(.ptr o0 g 0 0),(.ptr o0 g 0 4),(.int .i64 most),(.func (.func 182) [] [(.ptr o3 g3 0 0)])] (hp h0 [o0,o1,o2,o3] [some (.rows g 10 [[(.sl 4 (List.map Ac s0_l)),(.int .i64 s0_end),v1,w,v2,w1,w2,w3,w4,w5]]),Ah v1 g1 2 (List.map Aw l),Ah v2 g2 3 (List.map Bj l1),some (.rows g3 1 [[(.ptr o0 g 0 0)]])]) (C5 (fun a_ v h' => ∃ (v4:AV),∃ (g6:Nat),Av v4 o2 g6 a_.2.length∧v=(.tup [])∧h'=hp h0 [o0,o1,o2,o3] [some (.rows g 10 [[(.sl 4 (List.map Ac a_.1)),(.int .i64 s0_end),v1,w,v4,w1,w2,w3,w4,w5]]),Ah v1 g1 2 (List.map Aw l),Ah v4 g6 3 (List.map Bj a_.2),some (.rows g3 1 [[(.ptr o0 g 0 0)]])]) h0 (Hv most s0_l s0_end l l1)):=by
 refine Bm (n:=39) 1 Tryz.func181 J (by decide) J J hI0 J fun ids he hI=>?_
 clear hI0
 obtain rfl:ix ids 0=o0:=he 0 rfl
 obtain rfl:ix ids 1=o1:=he 1 rfl
 obtain rfl:ix ids 2=o2:=he 2 rfl
 obtain rfl:ix ids 3=o3:=he 3 rfl
 clear he
 refine Bn (Al (Hv.eq_1 _ _ _ _ _) ?_)
 refine Aj ?_
 refine Y<|Y<|O<|Ab 3 [0] [(11,v2)] ?_
 refine Aa (.I (l1.length:Int)) J (A2 (Av.len vH1 L1))<|Ab 2 [] [(14,(.bool ((l1.length:Int)==most)))] ?_
 refine Z<|Dx (π:=Unit) (fun _=>H8 s0_l s0_end l l1) (fun _=>fun(fr:Nat→AV) (h:Ag)=>fr=A5 [(0,(.q ids 0 g)),(1,(.ptr (ix ids 0) g 0 4)),(3,(.func (.func 182) [] [(.q ids 3 g3)]))]∧h=hp h0 ids [(some (.rows g 10 [[(.sl 4 (List.map Ac s0_l)),(.I s0_end),v1,w,v2,w1,w2,w3,w4,w5]])),(Ah v1 g1 2 (List.map Aw l)),(Ah v2 g2 3 (List.map Bj l1)),(some (.rows g3 1 [[(.q ids 0 g)]])),none]) ?_ fun hJ=>?_
 ·rintro _ fr h ⟨rfl,rfl⟩
  refine Al (H8.eq_1 _ _ _ _)<|Y<|O<|Ab 5 [0] [(21,(.sl 4 (List.map Ac s0_l))),(17,(.q ids 0 g))] ?_
  refine Ee fun hs=>Aa (.sl 4 (List.map Ac (s0_l.drop 1))) J (Fr (N0 Ch C1 J hs))<|Ab 2 [] [(24,(.q ids 0 g))] ?_
  refine An (Aq (v:=(.sl 4 (List.map Ac (s0_l.drop 1)))) hI J J J J Ch J J J J J)<|Z<|Aj ?_
  refine Y<|O<|Ab 2 [] [(26,(.q ids 0 g)),(25,(.func (.func 182) [] [(.q ids 3 g3)]))] ?_
  refine Ap [0] hI J J (Da (s0_l.drop 1) s0_end _ (ix ids 0) v1 w v2 w1 w2 w3 w4 w5 g (by exact hI.sub' J J)) J J J J J J (fun v _=>Ao (K:=4) (N:=1) Tryz.func181 hI) ?_
  rintro r1 _ _ _ ⟨rfl,rfl⟩
  refine A0 [0] hI J J J ?_
  refine Ar<|Ap [3,0,1] hI J J (T2 r1 ((s0_l.drop 1).drop 1) s0_end l _ (ix ids 3) (ix ids 0) (ix ids 1) g3 w v2 w1 w2 w3 w4 w5 g v1 g1 vH (by exact hI.sub' J J)) J J J J J J (fun v _=>Ao (K:=4) (N:=1) Tryz.func181 hI) ?_
  rintro r2 _ _ _ ⟨rfl,rfl⟩
  refine A0 [3,0,1] hI J J J ?_
  refine Ar<|A8 (j:=4) hI J J J J Kg J fun g4=>An (Aq (v:=(.agg (Bj r2.1))) hI J J J J Kg J J J J J)<|Z<|Aj ?_
  refine Y<|O<|Aa (.q ids 0 g) J Ad<|Ap [0] hI J J (Di [59] r2.2 s0_end _ (ix ids 0) v1 w v2 w1 w2 w3 w4 w5 g (by exact hI.sub' J J)) J J J J J J (fun v _=>Ao (K:=4) (N:=1) Tryz.func181 hI) ?_
  rintro _ _ _ _ ⟨rfl,rfl⟩
  refine A0 [0] hI J J J ?_
  refine Ar<|Z<|Aj ?_
  refine Ct Es [[],[],[1],[1,2],[],[4],[1,2,3,4,5],[0,0,1,2,3,4,5,6],[0,1,2,3,4,5,6,6,6,7]] [(false,0),(false,1),(false,2),(false,3),(false,4),(true,5),(true,6),(false,7),(true,8)] (by kernel_rfl)<|Af (.ptr (ix ids 0) g 0 4) J J Ad<|Af (.ptr (ix ids 0) g 0 4) J J Ad<|Af (.ptr (ix ids 0) g 0 4) J J (Br J)<|Af v2 J J (Au (A3 hI J J J L1 J))<|Af (.agg (Bj r2.1)) J J (Au (A3 hI J J J Kg J))<|Iv J J (fun _ _=>J) (fun K hK=>Mr (e:=Bj) (L:=[r2.1]) (st:=3) (rows:=[[(.str r2.1.Name),(.sl 1 (List.map rS r2.1.Names)),(.sl 1 (List.map (rI .i64) r2.1.Sectors))]]) L1 Kg J J J J J (.cons (RowSim.refl _) .nil) (fun x=>S2 x) J J (hK _ _ (Ae J (Bt J (Au (A3 hI J J J L1 J)) (Bt J (Br J) (Bt J Ad (Bt J Ad Bp))))) ?_))
  clear hK K
  refine Kt fun hl=>Iv J J (fun _ _=>J) (fun K hK=>H4 (e:=Bj) (L:=l1) (L2:=[r2.1]) (v:=v2) (g:=g2) (st:=3) (j:=2) hI J J J vH1 J (Gb J) L1 L1 J Kg J J J hl fun v3 g5 vH2=>hK _ _ (Ae J (Ae J (Ae J (Ae J (Bt J Ad Bp))))) ?_)
  clear hK K
  refine Af (.ptr (ix ids 0) g 0 4) J J (Br J)<|D7 J (fun _ _=>J) (fun K hK=>Co (G5 vH2 hI J J J J L1 J J J) (hK _ _ (Ae J (Ae J (Ae J (Ae J (Ae J (Ae J Bp)))))) ?_))
  clear hK K
  refine Ck<|Aj ?_
  exact Ci (K:=4) (N:=1) (a:=((r2.2.drop 1),(l1++[r2.1]))) (vs:=[]) [some (.rows g 10 [[(.sl 4 (List.map Ac (r2.2.drop 1))),(.I s0_end),v1,w,v3,w1,w2,w3,w4,w5]]),Ah v1 g1 2 (List.map Aw l),Ah v3 g5 3 (List.map Bj (l1++[r2.1])),some (.rows g3 1 [[(.q ids 0 g)]])] Tryz.func181 hI J J J (.keep (.keep (.keep (.keep (.drop .nil))))) (.same _) ⟨v3,g5,vH2,J,J⟩
 refine Bx J (fun hc=>?_) (fun hc=>?_)
 ·refine O<|Aa (.q ids 0 g) J Ad<|Ap [0] hI J J (Cn 2 s0_l s0_end _ (ix ids 0) v1 w v2 w1 w2 w3 w4 w5 g (by exact hI.sub' J J)) J J J J J J (fun v _=>Ao (K:=4) (N:=1) Tryz.func181 hI) ?_
  rintro _ _ _ _ ⟨rfl,rfl⟩
  refine A0 [0] hI J J J ?_
  refine Ar<|Z<|Bo (hJ () _ _ ⟨J,J⟩)
 refine Ax<|Bo (hJ () _ _ ⟨J,J⟩)
theorem V6 (s0_l:List Token)(s0_end:Int)(l:List Volume)(l1:List Config)(h0:Ag)(o0:Nat)(o1:Nat)(o2:Nat)(w:AV)(w1:AV)(w2:AV)(w3:AV)(w4:AV)(w5:AV)(g:Nat)(v1:AV)(g1:Nat)(v2:AV)(g2:Nat)(vH:Av v1 o1 g1 l.length)(vH1:Av v2 o2 g2 l1.length)(hI0:Ids h0 [o0,o1,o2] 3):I3 s0_l s0_end l l1≠.bad→Bq Tryz.prog 180 [(.ptr o0 g 0 0)] (hp h0 [o0,o1,o2] [some (.rows g 10 [[(.sl 4 (List.map Ac s0_l)),(.int .i64 s0_end),v1,w,v2,w1,w2,w3,w4,w5]]),Ah v1 g1 2 (List.map Aw l),Ah v2 g2 3 (List.map Bj l1)]) (C5 (fun a_ v h' => ∃ (v4:AV),∃ (g5:Nat),Av v4 o2 g5 a_.2.length∧v=(.tup [])∧h'=hp h0 [o0,o1,o2] [some (.rows g 10 [[(.sl 4 (List.map Ac a_.1)),(.int .i64 s0_end),v1,w,v4,w1,w2,w3,w4,w5]]),Ah v1 g1 2 (List.map Aw l),Ah v4 g5 3 (List.map Bj a_.2)]) h0 (I3 s0_l s0_end l l1)):=by
 refine Bm (n:=9) 1 Tryz.func180 J (by decide) J J hI0 J fun ids he hI=>?_
 clear hI0
 obtain rfl:ix ids 0=o0:=he 0 rfl
 obtain rfl:ix ids 1=o1:=he 1 rfl
 obtain rfl:ix ids 2=o2:=he 2 rfl
 clear he
 refine Bn (Al (I3.eq_1 _ _ _ _) ?_)
 refine Aj ?_
 refine Y<|O<|Cl (v:=(.q ids 0 g)) (j:=3) hI J J J J J J J fun g3=>Z<|Aj ?_
 refine Ct Es [[],[],[1],[1,2],[1,2,3],[],[0,1,2,3,4,5]] [(false,0),(false,1),(false,2),(false,3),(false,4),(false,5),(true,6)] (by kernel_rfl)<|Af (.q ids 0 g) J J (Au (A3 hI J J J Tt J))<|Af (.q ids 0 g) J J (Au (A3 hI J J J Tt J))<|Af (.q ids 0 g) J J (Br J)<|Af (.ptr (ix ids 0) g 0 2) J J (Cb (B3 (c:=0) (off:=2) (i:=2) Z1 J Dl J))<|Af (.ptr (ix ids 0) g 0 4) J J (Cb (B3 (c:=2) (off:=2) (i:=2) Dl J L1 J))<|Af (.func (.func 182) [] [(.q ids 3 g3)]) J J R9 ?_
 refine Su [0,1,2,3] hI J J (Wj 32 s0_l s0_end l l1 _ (ix ids 0) (ix ids 1) (ix ids 2) (ix ids 3) w w1 w2 w3 w4 w5 g v1 g1 v2 g2 g3 vH vH1 (by exact hI.sub' J J)) J J J J J J J (fun v _ _ _=>Ao (K:=3) (N:=1) Tryz.func180 hI) ?_
 rintro r _ _ _ ⟨v3,g4,vH2,rfl,rfl⟩
 refine Ui [0,1,2,3] [some (.rows g 10 [[(.sl 4 (List.map Ac r.1)),(.I s0_end),v1,w,v3,w1,w2,w3,w4,w5]]),Ah v1 g1 2 (List.map Aw l),Ah v3 g4 3 (List.map Bj r.2),some (.rows g3 1 [[(.q ids 0 g)]])] hI J J J J ⟨(Ae J (Ae J (Ae J (Ae J (Ae J (Ae J Bp)))))),?_⟩
 refine Ug<|Ck<|Aj ?_
 exact Ci (K:=3) (N:=1) (a:=(r.1,r.2)) (vs:=[]) [some (.rows g 10 [[(.sl 4 (List.map Ac r.1)),(.I s0_end),v1,w,v3,w1,w2,w3,w4,w5]]),Ah v1 g1 2 (List.map Aw l),Ah v3 g4 3 (List.map Bj r.2)] Tryz.func180 hI J J J (.keep (.keep (.keep (.drop .nil)))) (.same _) ⟨v3,g4,vH2,J,J⟩
theorem Vy (most:Int)(s0_l:List Token)(s0_end:Int)(l:List Volume)(l1:List Segment)(h0:Ag)(o0:Nat)(o1:Nat)(o2:Nat)(o3:Nat)(w:AV)(w1:AV)(w2:AV)(w3:AV)(w4:AV)(w5:AV)(g:Nat)(v1:AV)(g1:Nat)(v2:AV)(g2:Nat)(g3:Nat)(vH:Av v1 o1 g1 l.length)(vH1:Av v2 o2 g2 l1.length)(hI0:Ids h0 [o0,o1,o2,o3] 4):Hd most s0_l s0_end l l1≠.bad→Bq Tryz.prog 184 [(.ptr o0 g 0 0),(.ptr o0 g 0 5),(.int .i64 most),(.func (.func 185) [] [(.ptr o3 g3 0 0)])] (hp h0 [o0,o1,o2,o3] [some (.rows g 10 [[(.sl 4 (List.map Ac s0_l)),(.int .i64 s0_end),v1,w,w1,v2,w2,w3,w4,w5]]),Ah v1 g1 2 (List.map Aw l),Ah v2 g2 5 (List.map Be l1),some (.rows g3 1 [[(.ptr o0 g 0 0)]])]) (C5 (fun a_ v h' => ∃ (v4:AV),∃ (g6:Nat),Av v4 o2 g6 a_.2.length∧v=(.tup [])∧h'=hp h0 [o0,o1,o2,o3] [some (.rows g 10 [[(.sl 4 (List.map Ac a_.1)),(.int .i64 s0_end),v1,w,w1,v4,w2,w3,w4,w5]]),Ah v1 g1 2 (List.map Aw l),Ah v4 g6 5 (List.map Be a_.2),some (.rows g3 1 [[(.ptr o0 g 0 0)]])]) h0 (Hd most s0_l s0_end l l1)):=by
 refine Bm (n:=39) 1 Tryz.func184 J (by decide) J J hI0 J fun ids he hI=>?_
 clear hI0
 obtain rfl:ix ids 0=o0:=he 0 rfl
 obtain rfl:ix ids 1=o1:=he 1 rfl
 obtain rfl:ix ids 2=o2:=he 2 rfl
 obtain rfl:ix ids 3=o3:=he 3 rfl
 clear he
 refine Bn (Al (Hd.eq_1 _ _ _ _ _) ?_)
 refine Aj ?_
 refine Y<|Y<|O<|Ab 3 [0] [(11,v2)] ?_
 refine Aa (.I (l1.length:Int)) J (A2 (Av.len vH1 L0))<|Ab 2 [] [(14,(.bool ((l1.length:Int)==most)))] ?_
 refine Z<|Dx (π:=Unit) (fun _=>Hn s0_l s0_end l l1) (fun _=>fun(fr:Nat→AV) (h:Ag)=>fr=A5 [(0,(.q ids 0 g)),(1,(.ptr (ix ids 0) g 0 5)),(3,(.func (.func 185) [] [(.q ids 3 g3)]))]∧h=hp h0 ids [(some (.rows g 10 [[(.sl 4 (List.map Ac s0_l)),(.I s0_end),v1,w,w1,v2,w2,w3,w4,w5]])),(Ah v1 g1 2 (List.map Aw l)),(Ah v2 g2 5 (List.map Be l1)),(some (.rows g3 1 [[(.q ids 0 g)]])),none]) ?_ fun hJ=>?_
 ·rintro _ fr h ⟨rfl,rfl⟩
  refine Al (Hn.eq_1 _ _ _ _)<|Y<|O<|Ab 5 [0] [(21,(.sl 4 (List.map Ac s0_l))),(17,(.q ids 0 g))] ?_
  refine Ee fun hs=>Aa (.sl 4 (List.map Ac (s0_l.drop 1))) J (Fr (N0 Ch C1 J hs))<|Ab 2 [] [(24,(.q ids 0 g))] ?_
  refine An (Aq (v:=(.sl 4 (List.map Ac (s0_l.drop 1)))) hI J J J J Ch J J J J J)<|Z<|Aj ?_
  refine Y<|O<|Ab 2 [] [(26,(.q ids 0 g)),(25,(.func (.func 185) [] [(.q ids 3 g3)]))] ?_
  refine Ap [0] hI J J (Da (s0_l.drop 1) s0_end _ (ix ids 0) v1 w w1 v2 w2 w3 w4 w5 g (by exact hI.sub' J J)) J J J J J J (fun v _=>Ao (K:=4) (N:=1) Tryz.func184 hI) ?_
  rintro r1 _ _ _ ⟨rfl,rfl⟩
  refine A0 [0] hI J J J ?_
  refine Ar<|Ap [3,0,1] hI J J (T0 r1 ((s0_l.drop 1).drop 1) s0_end l _ (ix ids 3) (ix ids 0) (ix ids 1) g3 w w1 v2 w2 w3 w4 w5 g v1 g1 vH (by exact hI.sub' J J)) J J J J J J (fun v _=>Ao (K:=4) (N:=1) Tryz.func184 hI) ?_
  rintro r2 _ _ _ ⟨rfl,rfl⟩
  refine A0 [3,0,1] hI J J J ?_
  refine Ar<|A8 (j:=4) hI J J J J H0 J fun g4=>An (Aq (v:=(.agg (Be r2.1))) hI J J J J H0 J J J J J)<|Z<|Aj ?_
  refine Y<|O<|Aa (.q ids 0 g) J Ad<|Ap [0] hI J J (Di [59] r2.2 s0_end _ (ix ids 0) v1 w w1 v2 w2 w3 w4 w5 g (by exact hI.sub' J J)) J J J J J J (fun v _=>Ao (K:=4) (N:=1) Tryz.func184 hI) ?_
  rintro _ _ _ _ ⟨rfl,rfl⟩
  refine A0 [0] hI J J J ?_
  refine Ar<|Z<|Aj ?_
  refine Ct Es [[],[],[1],[1,2],[],[4],[1,2,3,4,5],[0,0,1,2,3,4,5,6],[0,1,2,3,4,5,6,6,6,7]] [(false,0),(false,1),(false,2),(false,3),(false,4),(true,5),(true,6),(false,7),(true,8)] (by kernel_rfl)<|Af (.ptr (ix ids 0) g 0 5) J J Ad<|Af (.ptr (ix ids 0) g 0 5) J J Ad<|Af (.ptr (ix ids 0) g 0 5) J J (Br J)<|Af v2 J J (Au (A3 hI J J J L0 J))<|Af (.agg (Be r2.1)) J J (Au (A3 hI J J J H0 J))<|Iv J J (fun _ _=>J) (fun K hK=>Mr (e:=Be) (L:=[r2.1]) (st:=5) (rows:=[[(.str r2.1.Name),(.str r2.1.In),(.I r2.1.Volume),(.I r2.1.Length),(.sl 2 (List.map B7 r2.1.Open))]]) L0 H0 J J J J J (.cons (RowSim.refl _) .nil) (fun x=>Rw x) J J (hK _ _ (Ae J (Bt J (Au (A3 hI J J J L0 J)) (Bt J (Br J) (Bt J Ad (Bt J Ad Bp))))) ?_))
  clear hK K
  refine Kt fun hl=>Iv J J (fun _ _=>J) (fun K hK=>H4 (e:=Be) (L:=l1) (L2:=[r2.1]) (v:=v2) (g:=g2) (st:=5) (j:=2) hI J J J vH1 J (Gb J) L0 L0 J H0 J J J hl fun v3 g5 vH2=>hK _ _ (Ae J (Ae J (Ae J (Ae J (Bt J Ad Bp))))) ?_)
  clear hK K
  refine Af (.ptr (ix ids 0) g 0 5) J J (Br J)<|D7 J (fun _ _=>J) (fun K hK=>Co (G5 vH2 hI J J J J L0 J J J) (hK _ _ (Ae J (Ae J (Ae J (Ae J (Ae J (Ae J Bp)))))) ?_))
  clear hK K
  refine Ck<|Aj ?_
  exact Ci (K:=4) (N:=1) (a:=((r2.2.drop 1),(l1++[r2.1]))) (vs:=[]) [some (.rows g 10 [[(.sl 4 (List.map Ac (r2.2.drop 1))),(.I s0_end),v1,w,w1,v3,w2,w3,w4,w5]]),Ah v1 g1 2 (List.map Aw l),Ah v3 g5 5 (List.map Be (l1++[r2.1])),some (.rows g3 1 [[(.q ids 0 g)]])] Tryz.func184 hI J J J (.keep (.keep (.keep (.keep (.drop .nil))))) (.same _) ⟨v3,g5,vH2,J,J⟩
 refine Bx J (fun hc=>?_) (fun hc=>?_)
 ·refine O<|Aa (.q ids 0 g) J Ad<|Ap [0] hI J J (Cn 2 s0_l s0_end _ (ix ids 0) v1 w w1 v2 w2 w3 w4 w5 g (by exact hI.sub' J J)) J J J J J J (fun v _=>Ao (K:=4) (N:=1) Tryz.func184 hI) ?_
  rintro _ _ _ _ ⟨rfl,rfl⟩
  refine A0 [0] hI J J J ?_
  refine Ar<|Z<|Bo (hJ () _ _ ⟨J,J⟩)
 refine Ax<|Bo (hJ () _ _ ⟨J,J⟩)
theorem Vz (s0_l:List Token)(s0_end:Int)(l:List Volume)(l1:List Segment)(h0:Ag)(o0:Nat)(o1:Nat)(o2:Nat)(w:AV)(w1:AV)(w2:AV)(w3:AV)(w4:AV)(w5:AV)(g:Nat)(v1:AV)(g1:Nat)(v2:AV)(g2:Nat)(vH:Av v1 o1 g1 l.length)(vH1:Av v2 o2 g2 l1.length)(hI0:Ids h0 [o0,o1,o2] 3):Jd s0_l s0_end l l1≠.bad→Bq Tryz.prog 183 [(.ptr o0 g 0 0)] (hp h0 [o0,o1,o2] [some (.rows g 10 [[(.sl 4 (List.map Ac s0_l)),(.int .i64 s0_end),v1,w,w1,v2,w2,w3,w4,w5]]),Ah v1 g1 2 (List.map Aw l),Ah v2 g2 5 (List.map Be l1)]) (C5 (fun a_ v h' => ∃ (v4:AV),∃ (g5:Nat),Av v4 o2 g5 a_.2.length∧v=(.tup [])∧h'=hp h0 [o0,o1,o2] [some (.rows g 10 [[(.sl 4 (List.map Ac a_.1)),(.int .i64 s0_end),v1,w,w1,v4,w2,w3,w4,w5]]),Ah v1 g1 2 (List.map Aw l),Ah v4 g5 5 (List.map Be a_.2)]) h0 (Jd s0_l s0_end l l1)):=by
 refine Bm (n:=9) 1 Tryz.func183 J (by decide) J J hI0 J fun ids he hI=>?_
 clear hI0
 obtain rfl:ix ids 0=o0:=he 0 rfl
 obtain rfl:ix ids 1=o1:=he 1 rfl
 obtain rfl:ix ids 2=o2:=he 2 rfl
 clear he
 refine Bn (Al (Jd.eq_1 _ _ _ _) ?_)
 refine Aj ?_
 refine Y<|O<|Cl (v:=(.q ids 0 g)) (j:=3) hI J J J J J J J fun g3=>Z<|Aj ?_
 refine Ct Es [[],[],[1],[1,2],[1,2,3],[],[0,1,2,3,4,5]] [(false,0),(false,1),(false,2),(false,3),(false,4),(false,5),(true,6)] (by kernel_rfl)<|Af (.q ids 0 g) J J (Au (A3 hI J J J Tt J))<|Af (.q ids 0 g) J J (Au (A3 hI J J J Tt J))<|Af (.q ids 0 g) J J (Br J)<|Af (.ptr (ix ids 0) g 0 2) J J (Cb (B3 (c:=0) (off:=2) (i:=2) Z1 J Dl J))<|Af (.ptr (ix ids 0) g 0 5) J J (Cb (B3 (c:=2) (off:=3) (i:=3) Dl J L0 J))<|Af (.func (.func 185) [] [(.q ids 3 g3)]) J J R9 ?_
 refine Su [0,1,2,3] hI J J (Vy 128 s0_l s0_end l l1 _ (ix ids 0) (ix ids 1) (ix ids 2) (ix ids 3) w w1 w2 w3 w4 w5 g v1 g1 v2 g2 g3 vH vH1 (by exact hI.sub' J J)) J J J J J J J (fun v _ _ _=>Ao (K:=3) (N:=1) Tryz.func183 hI) ?_
 rintro r _ _ _ ⟨v3,g4,vH2,rfl,rfl⟩
 refine Ui [0,1,2,3] [some (.rows g 10 [[(.sl 4 (List.map Ac r.1)),(.I s0_end),v1,w,w1,v3,w2,w3,w4,w5]]),Ah v1 g1 2 (List.map Aw l),Ah v3 g4 5 (List.map Be r.2),some (.rows g3 1 [[(.q ids 0 g)]])] hI J J J J ⟨(Ae J (Ae J (Ae J (Ae J (Ae J (Ae J Bp)))))),?_⟩
 refine Ug<|Ck<|Aj ?_
 exact Ci (K:=3) (N:=1) (a:=(r.1,r.2)) (vs:=[]) [some (.rows g 10 [[(.sl 4 (List.map Ac r.1)),(.I s0_end),v1,w,w1,v3,w2,w3,w4,w5]]),Ah v1 g1 2 (List.map Aw l),Ah v3 g4 5 (List.map Be r.2)] Tryz.func183 hI J J J (.keep (.keep (.keep (.drop .nil)))) (.same _) ⟨v3,g4,vH2,J,J⟩
theorem W0 (most:Int)(s0_l:List Token)(s0_end:Int)(l:List Volume)(l1:List Route)(h0:Ag)(o0:Nat)(o1:Nat)(o2:Nat)(o3:Nat)(w:AV)(w1:AV)(w2:AV)(w3:AV)(w4:AV)(w5:AV)(g:Nat)(v1:AV)(g1:Nat)(v2:AV)(g2:Nat)(g3:Nat)(vH:Av v1 o1 g1 l.length)(vH1:Av v2 o2 g2 l1.length)(hI0:Ids h0 [o0,o1,o2,o3] 4):Ic most s0_l s0_end l l1≠.bad→Bq Tryz.prog 187 [(.ptr o0 g 0 0),(.ptr o0 g 0 6),(.int .i64 most),(.func (.func 188) [] [(.ptr o3 g3 0 0)])] (hp h0 [o0,o1,o2,o3] [some (.rows g 10 [[(.sl 4 (List.map Ac s0_l)),(.int .i64 s0_end),v1,w,w1,w2,v2,w3,w4,w5]]),Ah v1 g1 2 (List.map Aw l),Ah v2 g2 7 (List.map Bu l1),some (.rows g3 1 [[(.ptr o0 g 0 0)]])]) (C5 (fun a_ v h' => ∃ (v4:AV),∃ (g6:Nat),Av v4 o2 g6 a_.2.length∧v=(.tup [])∧h'=hp h0 [o0,o1,o2,o3] [some (.rows g 10 [[(.sl 4 (List.map Ac a_.1)),(.int .i64 s0_end),v1,w,w1,w2,v4,w3,w4,w5]]),Ah v1 g1 2 (List.map Aw l),Ah v4 g6 7 (List.map Bu a_.2),some (.rows g3 1 [[(.ptr o0 g 0 0)]])]) h0 (Ic most s0_l s0_end l l1)):=by
 refine Bm (n:=39) 1 Tryz.func187 J (by decide) J J hI0 J fun ids he hI=>?_
 clear hI0
 obtain rfl:ix ids 0=o0:=he 0 rfl
 obtain rfl:ix ids 1=o1:=he 1 rfl
 obtain rfl:ix ids 2=o2:=he 2 rfl
 obtain rfl:ix ids 3=o3:=he 3 rfl
 clear he
 refine Bn (Al (Ic.eq_1 _ _ _ _ _) ?_)
 refine Aj ?_
 refine Y<|Y<|O<|Ab 3 [0] [(11,v2)] ?_
 refine Aa (.I (l1.length:Int)) J (A2 (Av.len vH1 Ly))<|Ab 2 [] [(14,(.bool ((l1.length:Int)==most)))] ?_
 refine Z<|Dx (π:=Unit) (fun _=>Im s0_l s0_end l l1) (fun _=>fun(fr:Nat→AV) (h:Ag)=>fr=A5 [(0,(.q ids 0 g)),(1,(.ptr (ix ids 0) g 0 6)),(3,(.func (.func 188) [] [(.q ids 3 g3)]))]∧h=hp h0 ids [(some (.rows g 10 [[(.sl 4 (List.map Ac s0_l)),(.I s0_end),v1,w,w1,w2,v2,w3,w4,w5]])),(Ah v1 g1 2 (List.map Aw l)),(Ah v2 g2 7 (List.map Bu l1)),(some (.rows g3 1 [[(.q ids 0 g)]])),none]) ?_ fun hJ=>?_
 ·rintro _ fr h ⟨rfl,rfl⟩
  refine Al (Im.eq_1 _ _ _ _)<|Y<|O<|Ab 5 [0] [(21,(.sl 4 (List.map Ac s0_l))),(17,(.q ids 0 g))] ?_
  refine Ee fun hs=>Aa (.sl 4 (List.map Ac (s0_l.drop 1))) J (Fr (N0 Ch C1 J hs))<|Ab 2 [] [(24,(.q ids 0 g))] ?_
  refine An (Aq (v:=(.sl 4 (List.map Ac (s0_l.drop 1)))) hI J J J J Ch J J J J J)<|Z<|Aj ?_
  refine Y<|O<|Ab 2 [] [(26,(.q ids 0 g)),(25,(.func (.func 188) [] [(.q ids 3 g3)]))] ?_
  refine Ap [0] hI J J (Da (s0_l.drop 1) s0_end _ (ix ids 0) v1 w w1 w2 v2 w3 w4 w5 g (by exact hI.sub' J J)) J J J J J J (fun v _=>Ao (K:=4) (N:=1) Tryz.func187 hI) ?_
  rintro r1 _ _ _ ⟨rfl,rfl⟩
  refine A0 [0] hI J J J ?_
  refine Ar<|Ap [3,0,1] hI J J (T6 r1 ((s0_l.drop 1).drop 1) s0_end l _ (ix ids 3) (ix ids 0) (ix ids 1) g3 w w1 w2 v2 w3 w4 w5 g v1 g1 vH (by exact hI.sub' J J)) J J J J J J (fun v _=>Ao (K:=4) (N:=1) Tryz.func187 hI) ?_
  rintro r2 _ _ _ ⟨rfl,rfl⟩
  refine A0 [3,0,1] hI J J J ?_
  refine Ar<|A8 (j:=4) hI J J J J Hx J fun g4=>An (Aq (v:=(.agg (Bu r2.1))) hI J J J J Hx J J J J J)<|Z<|Aj ?_
  refine Y<|O<|Aa (.q ids 0 g) J Ad<|Ap [0] hI J J (Di [59] r2.2 s0_end _ (ix ids 0) v1 w w1 w2 v2 w3 w4 w5 g (by exact hI.sub' J J)) J J J J J J (fun v _=>Ao (K:=4) (N:=1) Tryz.func187 hI) ?_
  rintro _ _ _ _ ⟨rfl,rfl⟩
  refine A0 [0] hI J J J ?_
  refine Ar<|Z<|Aj ?_
  refine Ct Es [[],[],[1],[1,2],[],[4],[1,2,3,4,5],[0,0,1,2,3,4,5,6],[0,1,2,3,4,5,6,6,6,7]] [(false,0),(false,1),(false,2),(false,3),(false,4),(true,5),(true,6),(false,7),(true,8)] (by kernel_rfl)<|Af (.ptr (ix ids 0) g 0 6) J J Ad<|Af (.ptr (ix ids 0) g 0 6) J J Ad<|Af (.ptr (ix ids 0) g 0 6) J J (Br J)<|Af v2 J J (Au (A3 hI J J J Ly J))<|Af (.agg (Bu r2.1)) J J (Au (A3 hI J J J Hx J))<|Iv J J (fun _ _=>J) (fun K hK=>Mr (e:=Bu) (L:=[r2.1]) (st:=7) (rows:=[[(.str r2.1.Name),(.str r2.1.A),(.str r2.1.B),(.I r2.1.From),(.I r2.1.To),(.sl 1 (List.map rS r2.1.Names)),(.sl 1 (List.map (rI .i64) r2.1.Segments))]]) Ly Hx J J J J J (.cons (RowSim.refl _) .nil) (fun x=>Ut x) J J (hK _ _ (Ae J (Bt J (Au (A3 hI J J J Ly J)) (Bt J (Br J) (Bt J Ad (Bt J Ad Bp))))) ?_))
  clear hK K
  refine Kt fun hl=>Iv J J (fun _ _=>J) (fun K hK=>H4 (e:=Bu) (L:=l1) (L2:=[r2.1]) (v:=v2) (g:=g2) (st:=7) (j:=2) hI J J J vH1 J (Gb J) Ly Ly J Hx J J J hl fun v3 g5 vH2=>hK _ _ (Ae J (Ae J (Ae J (Ae J (Bt J Ad Bp))))) ?_)
  clear hK K
  refine Af (.ptr (ix ids 0) g 0 6) J J (Br J)<|D7 J (fun _ _=>J) (fun K hK=>Co (G5 vH2 hI J J J J Ly J J J) (hK _ _ (Ae J (Ae J (Ae J (Ae J (Ae J (Ae J Bp)))))) ?_))
  clear hK K
  refine Ck<|Aj ?_
  exact Ci (K:=4) (N:=1) (a:=((r2.2.drop 1),(l1++[r2.1]))) (vs:=[]) [some (.rows g 10 [[(.sl 4 (List.map Ac (r2.2.drop 1))),(.I s0_end),v1,w,w1,w2,v3,w3,w4,w5]]),Ah v1 g1 2 (List.map Aw l),Ah v3 g5 7 (List.map Bu (l1++[r2.1])),some (.rows g3 1 [[(.q ids 0 g)]])] Tryz.func187 hI J J J (.keep (.keep (.keep (.keep (.drop .nil))))) (.same _) ⟨v3,g5,vH2,J,J⟩
 refine Bx J (fun hc=>?_) (fun hc=>?_)
 ·refine O<|Aa (.q ids 0 g) J Ad<|Ap [0] hI J J (Cn 2 s0_l s0_end _ (ix ids 0) v1 w w1 w2 v2 w3 w4 w5 g (by exact hI.sub' J J)) J J J J J J (fun v _=>Ao (K:=4) (N:=1) Tryz.func187 hI) ?_
  rintro _ _ _ _ ⟨rfl,rfl⟩
  refine A0 [0] hI J J J ?_
  refine Ar<|Z<|Bo (hJ () _ _ ⟨J,J⟩)
 refine Ax<|Bo (hJ () _ _ ⟨J,J⟩)
theorem Vu (s0_l:List Token)(s0_end:Int)(l:List Volume)(l1:List Route)(h0:Ag)(o0:Nat)(o1:Nat)(o2:Nat)(w:AV)(w1:AV)(w2:AV)(w3:AV)(w4:AV)(w5:AV)(g:Nat)(v1:AV)(g1:Nat)(v2:AV)(g2:Nat)(vH:Av v1 o1 g1 l.length)(vH1:Av v2 o2 g2 l1.length)(hI0:Ids h0 [o0,o1,o2] 3):I4 s0_l s0_end l l1≠.bad→Bq Tryz.prog 186 [(.ptr o0 g 0 0)] (hp h0 [o0,o1,o2] [some (.rows g 10 [[(.sl 4 (List.map Ac s0_l)),(.int .i64 s0_end),v1,w,w1,w2,v2,w3,w4,w5]]),Ah v1 g1 2 (List.map Aw l),Ah v2 g2 7 (List.map Bu l1)]) (C5 (fun a_ v h' => ∃ (v4:AV),∃ (g5:Nat),Av v4 o2 g5 a_.2.length∧v=(.tup [])∧h'=hp h0 [o0,o1,o2] [some (.rows g 10 [[(.sl 4 (List.map Ac a_.1)),(.int .i64 s0_end),v1,w,w1,w2,v4,w3,w4,w5]]),Ah v1 g1 2 (List.map Aw l),Ah v4 g5 7 (List.map Bu a_.2)]) h0 (I4 s0_l s0_end l l1)):=by
 refine Bm (n:=9) 1 Tryz.func186 J (by decide) J J hI0 J fun ids he hI=>?_
 clear hI0
 obtain rfl:ix ids 0=o0:=he 0 rfl
 obtain rfl:ix ids 1=o1:=he 1 rfl
 obtain rfl:ix ids 2=o2:=he 2 rfl
 clear he
 refine Bn (Al (I4.eq_1 _ _ _ _) ?_)
 refine Aj ?_
 refine Y<|O<|Cl (v:=(.q ids 0 g)) (j:=3) hI J J J J J J J fun g3=>Z<|Aj ?_
 refine Ct Es [[],[],[1],[1,2],[1,2,3],[],[0,1,2,3,4,5]] [(false,0),(false,1),(false,2),(false,3),(false,4),(false,5),(true,6)] (by kernel_rfl)<|Af (.q ids 0 g) J J (Au (A3 hI J J J Tt J))<|Af (.q ids 0 g) J J (Au (A3 hI J J J Tt J))<|Af (.q ids 0 g) J J (Br J)<|Af (.ptr (ix ids 0) g 0 2) J J (Cb (B3 (c:=0) (off:=2) (i:=2) Z1 J Dl J))<|Af (.ptr (ix ids 0) g 0 6) J J (Cb (B3 (c:=2) (off:=4) (i:=4) Dl J Ly J))<|Af (.func (.func 188) [] [(.q ids 3 g3)]) J J R9 ?_
 refine Su [0,1,2,3] hI J J (W0 64 s0_l s0_end l l1 _ (ix ids 0) (ix ids 1) (ix ids 2) (ix ids 3) w w1 w2 w3 w4 w5 g v1 g1 v2 g2 g3 vH vH1 (by exact hI.sub' J J)) J J J J J J J (fun v _ _ _=>Ao (K:=3) (N:=1) Tryz.func186 hI) ?_
 rintro r _ _ _ ⟨v3,g4,vH2,rfl,rfl⟩
 refine Ui [0,1,2,3] [some (.rows g 10 [[(.sl 4 (List.map Ac r.1)),(.I s0_end),v1,w,w1,w2,v3,w3,w4,w5]]),Ah v1 g1 2 (List.map Aw l),Ah v3 g4 7 (List.map Bu r.2),some (.rows g3 1 [[(.q ids 0 g)]])] hI J J J J ⟨(Ae J (Ae J (Ae J (Ae J (Ae J (Ae J Bp)))))),?_⟩
 refine Ug<|Ck<|Aj ?_
 exact Ci (K:=3) (N:=1) (a:=(r.1,r.2)) (vs:=[]) [some (.rows g 10 [[(.sl 4 (List.map Ac r.1)),(.I s0_end),v1,w,w1,w2,v3,w3,w4,w5]]),Ah v1 g1 2 (List.map Aw l),Ah v3 g4 7 (List.map Bu r.2)] Tryz.func186 hI J J J (.keep (.keep (.keep (.drop .nil)))) (.same _) ⟨v3,g4,vH2,J,J⟩
theorem Vw (most:Int)(s0_l:List Token)(s0_end:Int)(l:List Volume)(l1:List Airport)(h0:Ag)(o0:Nat)(o1:Nat)(o2:Nat)(o3:Nat)(w:AV)(w1:AV)(w2:AV)(w3:AV)(w4:AV)(w5:AV)(g:Nat)(v1:AV)(g1:Nat)(v2:AV)(g2:Nat)(g3:Nat)(vH:Av v1 o1 g1 l.length)(vH1:Av v2 o2 g2 l1.length)(hI0:Ids h0 [o0,o1,o2,o3] 4):He most s0_l s0_end l l1≠.bad→Bq Tryz.prog 190 [(.ptr o0 g 0 0),(.ptr o0 g 0 7),(.int .i64 most),(.func (.func 191) [] [(.ptr o3 g3 0 0)])] (hp h0 [o0,o1,o2,o3] [some (.rows g 10 [[(.sl 4 (List.map Ac s0_l)),(.int .i64 s0_end),v1,w,w1,w2,w3,v2,w4,w5]]),Ah v1 g1 2 (List.map Aw l),Ah v2 g2 2 (List.map Bb l1),some (.rows g3 1 [[(.ptr o0 g 0 0)]])]) (C5 (fun a_ v h' => ∃ (v4:AV),∃ (g6:Nat),Av v4 o2 g6 a_.2.length∧v=(.tup [])∧h'=hp h0 [o0,o1,o2,o3] [some (.rows g 10 [[(.sl 4 (List.map Ac a_.1)),(.int .i64 s0_end),v1,w,w1,w2,w3,v4,w4,w5]]),Ah v1 g1 2 (List.map Aw l),Ah v4 g6 2 (List.map Bb a_.2),some (.rows g3 1 [[(.ptr o0 g 0 0)]])]) h0 (He most s0_l s0_end l l1)):=by
 refine Bm (n:=39) 1 Tryz.func190 J (by decide) J J hI0 J fun ids he hI=>?_
 clear hI0
 obtain rfl:ix ids 0=o0:=he 0 rfl
 obtain rfl:ix ids 1=o1:=he 1 rfl
 obtain rfl:ix ids 2=o2:=he 2 rfl
 obtain rfl:ix ids 3=o3:=he 3 rfl
 clear he
 refine Bn (Al (He.eq_1 _ _ _ _ _) ?_)
 refine Aj ?_
 refine Y<|Y<|O<|Ab 3 [0] [(11,v2)] ?_
 refine Aa (.I (l1.length:Int)) J (A2 (Av.len vH1 Lc))<|Ab 2 [] [(14,(.bool ((l1.length:Int)==most)))] ?_
 refine Z<|Dx (π:=Unit) (fun _=>Hr s0_l s0_end l l1) (fun _=>fun(fr:Nat→AV) (h:Ag)=>fr=A5 [(0,(.q ids 0 g)),(1,(.ptr (ix ids 0) g 0 7)),(3,(.func (.func 191) [] [(.q ids 3 g3)]))]∧h=hp h0 ids [(some (.rows g 10 [[(.sl 4 (List.map Ac s0_l)),(.I s0_end),v1,w,w1,w2,w3,v2,w4,w5]])),(Ah v1 g1 2 (List.map Aw l)),(Ah v2 g2 2 (List.map Bb l1)),(some (.rows g3 1 [[(.q ids 0 g)]])),none]) ?_ fun hJ=>?_
 ·rintro _ fr h ⟨rfl,rfl⟩
  refine Al (Hr.eq_1 _ _ _ _)<|Y<|O<|Ab 5 [0] [(21,(.sl 4 (List.map Ac s0_l))),(17,(.q ids 0 g))] ?_
  refine Ee fun hs=>Aa (.sl 4 (List.map Ac (s0_l.drop 1))) J (Fr (N0 Ch C1 J hs))<|Ab 2 [] [(24,(.q ids 0 g))] ?_
  refine An (Aq (v:=(.sl 4 (List.map Ac (s0_l.drop 1)))) hI J J J J Ch J J J J J)<|Z<|Aj ?_
  refine Y<|O<|Ab 2 [] [(26,(.q ids 0 g)),(25,(.func (.func 191) [] [(.q ids 3 g3)]))] ?_
  refine Ap [0] hI J J (Da (s0_l.drop 1) s0_end _ (ix ids 0) v1 w w1 w2 w3 v2 w4 w5 g (by exact hI.sub' J J)) J J J J J J (fun v _=>Ao (K:=4) (N:=1) Tryz.func190 hI) ?_
  rintro r1 _ _ _ ⟨rfl,rfl⟩
  refine A0 [0] hI J J J ?_
  refine Ar<|Ap [3,0,1] hI J J (T4 r1 ((s0_l.drop 1).drop 1) s0_end l _ (ix ids 3) (ix ids 0) (ix ids 1) g3 w w1 w2 w3 v2 w4 w5 g v1 g1 vH (by exact hI.sub' J J)) J J J J J J (fun v _=>Ao (K:=4) (N:=1) Tryz.func190 hI) ?_
  rintro r2 _ _ _ ⟨rfl,rfl⟩
  refine A0 [3,0,1] hI J J J ?_
  refine Ar<|A8 (j:=4) hI J J J J Ho J fun g4=>An (Aq (v:=(.agg (Bb r2.1))) hI J J J J Ho J J J J J)<|Z<|Aj ?_
  refine Y<|O<|Aa (.q ids 0 g) J Ad<|Ap [0] hI J J (Di [59] r2.2 s0_end _ (ix ids 0) v1 w w1 w2 w3 v2 w4 w5 g (by exact hI.sub' J J)) J J J J J J (fun v _=>Ao (K:=4) (N:=1) Tryz.func190 hI) ?_
  rintro _ _ _ _ ⟨rfl,rfl⟩
  refine A0 [0] hI J J J ?_
  refine Ar<|Z<|Aj ?_
  refine Ct Es [[],[],[1],[1,2],[],[4],[1,2,3,4,5],[0,0,1,2,3,4,5,6],[0,1,2,3,4,5,6,6,6,7]] [(false,0),(false,1),(false,2),(false,3),(false,4),(true,5),(true,6),(false,7),(true,8)] (by kernel_rfl)<|Af (.ptr (ix ids 0) g 0 7) J J Ad<|Af (.ptr (ix ids 0) g 0 7) J J Ad<|Af (.ptr (ix ids 0) g 0 7) J J (Br J)<|Af v2 J J (Au (A3 hI J J J Lc J))<|Af (.agg (Bb r2.1)) J J (Au (A3 hI J J J Ho J))<|Iv J J (fun _ _=>J) (fun K hK=>Mr (e:=Bb) (L:=[r2.1]) (st:=2) (rows:=[[(.str r2.1.Name),(.sl 2 (List.map Dy r2.1.Modes))]]) Lc Ho J J J J J (.cons (RowSim.refl _) .nil) (fun x=>Qu x) J J (hK _ _ (Ae J (Bt J (Au (A3 hI J J J Lc J)) (Bt J (Br J) (Bt J Ad (Bt J Ad Bp))))) ?_))
  clear hK K
  refine Kt fun hl=>Iv J J (fun _ _=>J) (fun K hK=>H4 (e:=Bb) (L:=l1) (L2:=[r2.1]) (v:=v2) (g:=g2) (st:=2) (j:=2) hI J J J vH1 J (Gb J) Lc Lc J Ho J J J hl fun v3 g5 vH2=>hK _ _ (Ae J (Ae J (Ae J (Ae J (Bt J Ad Bp))))) ?_)
  clear hK K
  refine Af (.ptr (ix ids 0) g 0 7) J J (Br J)<|D7 J (fun _ _=>J) (fun K hK=>Co (G5 vH2 hI J J J J Lc J J J) (hK _ _ (Ae J (Ae J (Ae J (Ae J (Ae J (Ae J Bp)))))) ?_))
  clear hK K
  refine Ck<|Aj ?_
  exact Ci (K:=4) (N:=1) (a:=((r2.2.drop 1),(l1++[r2.1]))) (vs:=[]) [some (.rows g 10 [[(.sl 4 (List.map Ac (r2.2.drop 1))),(.I s0_end),v1,w,w1,w2,w3,v3,w4,w5]]),Ah v1 g1 2 (List.map Aw l),Ah v3 g5 2 (List.map Bb (l1++[r2.1])),some (.rows g3 1 [[(.q ids 0 g)]])] Tryz.func190 hI J J J (.keep (.keep (.keep (.keep (.drop .nil))))) (.same _) ⟨v3,g5,vH2,J,J⟩
 refine Bx J (fun hc=>?_) (fun hc=>?_)
 ·refine O<|Aa (.q ids 0 g) J Ad<|Ap [0] hI J J (Cn 2 s0_l s0_end _ (ix ids 0) v1 w w1 w2 w3 v2 w4 w5 g (by exact hI.sub' J J)) J J J J J J (fun v _=>Ao (K:=4) (N:=1) Tryz.func190 hI) ?_
  rintro _ _ _ _ ⟨rfl,rfl⟩
  refine A0 [0] hI J J J ?_
  refine Ar<|Z<|Bo (hJ () _ _ ⟨J,J⟩)
 refine Ax<|Bo (hJ () _ _ ⟨J,J⟩)
theorem Vp (s0_l:List Token)(s0_end:Int)(l:List Volume)(l1:List Airport)(h0:Ag)(o0:Nat)(o1:Nat)(o2:Nat)(w:AV)(w1:AV)(w2:AV)(w3:AV)(w4:AV)(w5:AV)(g:Nat)(v1:AV)(g1:Nat)(v2:AV)(g2:Nat)(vH:Av v1 o1 g1 l.length)(vH1:Av v2 o2 g2 l1.length)(hI0:Ids h0 [o0,o1,o2] 3):Jg s0_l s0_end l l1≠.bad→Bq Tryz.prog 189 [(.ptr o0 g 0 0)] (hp h0 [o0,o1,o2] [some (.rows g 10 [[(.sl 4 (List.map Ac s0_l)),(.int .i64 s0_end),v1,w,w1,w2,w3,v2,w4,w5]]),Ah v1 g1 2 (List.map Aw l),Ah v2 g2 2 (List.map Bb l1)]) (C5 (fun a_ v h' => ∃ (v4:AV),∃ (g5:Nat),Av v4 o2 g5 a_.2.length∧v=(.tup [])∧h'=hp h0 [o0,o1,o2] [some (.rows g 10 [[(.sl 4 (List.map Ac a_.1)),(.int .i64 s0_end),v1,w,w1,w2,w3,v4,w4,w5]]),Ah v1 g1 2 (List.map Aw l),Ah v4 g5 2 (List.map Bb a_.2)]) h0 (Jg s0_l s0_end l l1)):=by
 refine Bm (n:=9) 1 Tryz.func189 J (by decide) J J hI0 J fun ids he hI=>?_
 clear hI0
 obtain rfl:ix ids 0=o0:=he 0 rfl
 obtain rfl:ix ids 1=o1:=he 1 rfl
 obtain rfl:ix ids 2=o2:=he 2 rfl
 clear he
 refine Bn (Al (Jg.eq_1 _ _ _ _) ?_)
 refine Aj ?_
 refine Y<|O<|Cl (v:=(.q ids 0 g)) (j:=3) hI J J J J J J J fun g3=>Z<|Aj ?_
 refine Ct Es [[],[],[1],[1,2],[1,2,3],[],[0,1,2,3,4,5]] [(false,0),(false,1),(false,2),(false,3),(false,4),(false,5),(true,6)] (by kernel_rfl)<|Af (.q ids 0 g) J J (Au (A3 hI J J J Tt J))<|Af (.q ids 0 g) J J (Au (A3 hI J J J Tt J))<|Af (.q ids 0 g) J J (Br J)<|Af (.ptr (ix ids 0) g 0 2) J J (Cb (B3 (c:=0) (off:=2) (i:=2) Z1 J Dl J))<|Af (.ptr (ix ids 0) g 0 7) J J (Cb (B3 (c:=2) (off:=5) (i:=5) Dl J Lc J))<|Af (.func (.func 191) [] [(.q ids 3 g3)]) J J R9 ?_
 refine Su [0,1,2,3] hI J J (Vw 16 s0_l s0_end l l1 _ (ix ids 0) (ix ids 1) (ix ids 2) (ix ids 3) w w1 w2 w3 w4 w5 g v1 g1 v2 g2 g3 vH vH1 (by exact hI.sub' J J)) J J J J J J J (fun v _ _ _=>Ao (K:=3) (N:=1) Tryz.func189 hI) ?_
 rintro r _ _ _ ⟨v3,g4,vH2,rfl,rfl⟩
 refine Ui [0,1,2,3] [some (.rows g 10 [[(.sl 4 (List.map Ac r.1)),(.I s0_end),v1,w,w1,w2,w3,v3,w4,w5]]),Ah v1 g1 2 (List.map Aw l),Ah v3 g4 2 (List.map Bb r.2),some (.rows g3 1 [[(.q ids 0 g)]])] hI J J J J ⟨(Ae J (Ae J (Ae J (Ae J (Ae J (Ae J Bp)))))),?_⟩
 refine Ug<|Ck<|Aj ?_
 exact Ci (K:=3) (N:=1) (a:=(r.1,r.2)) (vs:=[]) [some (.rows g 10 [[(.sl 4 (List.map Ac r.1)),(.I s0_end),v1,w,w1,w2,w3,v3,w4,w5]]),Ah v1 g1 2 (List.map Aw l),Ah v3 g4 2 (List.map Bb r.2)] Tryz.func189 hI J J J (.keep (.keep (.keep (.drop .nil)))) (.same _) ⟨v3,g4,vH2,J,J⟩
theorem Xd (most:Int)(s0_l:List Token)(s0_end:Int)(l:List Class)(h0:Ag)(o0:Nat)(o1:Nat)(o2:Nat)(w:AV)(w1:AV)(w2:AV)(w3:AV)(w4:AV)(w5:AV)(w6:AV)(g:Nat)(v1:AV)(g1:Nat)(g2:Nat)(vH:Av v1 o1 g1 l.length)(hI0:Ids h0 [o0,o1,o2] 3):Ib most s0_l s0_end l≠.bad→Bq Tryz.prog 195 [(.ptr o0 g 0 0),(.ptr o0 g 0 8),(.int .i64 most),(.func (.func 196) [] [(.ptr o2 g2 0 0)])] (hp h0 [o0,o1,o2] [some (.rows g 10 [[(.sl 4 (List.map Ac s0_l)),(.int .i64 s0_end),w,w1,w2,w3,w4,w5,v1,w6]]),Ah v1 g1 4 (List.map B4 l),some (.rows g2 1 [[(.ptr o0 g 0 0)]])]) (C5 (fun a_ v h' => ∃ (v3:AV),∃ (g5:Nat),Av v3 o1 g5 a_.length∧v=(.tup [])∧h'=hp h0 [o0,o1,o2] [some (.rows g 10 [[(.sl 4 (List.map Ac (((((((((s0_l.drop 1).drop 1).drop 1).drop 1).drop 1).drop 1).drop 1).drop 1).drop 1))),(.int .i64 s0_end),w,w1,w2,w3,w4,w5,v3,w6]]),Ah v3 g5 4 (List.map B4 a_),some (.rows g2 1 [[(.ptr o0 g 0 0)]])]) h0 (Ib most s0_l s0_end l)):=by
 refine Bm (n:=39) 1 Tryz.func195 J (by decide) J J hI0 J fun ids he hI=>?_
 clear hI0
 obtain rfl:ix ids 0=o0:=he 0 rfl
 obtain rfl:ix ids 1=o1:=he 1 rfl
 obtain rfl:ix ids 2=o2:=he 2 rfl
 clear he
 refine Bn (Al (Ib.eq_1 _ _ _ _) ?_)
 refine Aj ?_
 refine Y<|Y<|O<|Ab 3 [0] [(11,v1)] ?_
 refine Aa (.I (l.length:Int)) J (A2 (Av.len vH J2))<|Ab 2 [] [(14,(.bool ((l.length:Int)==most)))] ?_
 refine Z<|Dx (π:=Unit) (fun _=>Ip s0_l s0_end l) (fun _=>fun(fr:Nat→AV) (h:Ag)=>fr=A5 [(0,(.q ids 0 g)),(1,(.ptr (ix ids 0) g 0 8)),(3,(.func (.func 196) [] [(.q ids 2 g2)]))]∧h=hp h0 ids [(some (.rows g 10 [[(.sl 4 (List.map Ac s0_l)),(.I s0_end),w,w1,w2,w3,w4,w5,v1,w6]])),(Ah v1 g1 4 (List.map B4 l)),(some (.rows g2 1 [[(.q ids 0 g)]])),none]) ?_ fun hJ=>?_
 ·rintro _ fr h ⟨rfl,rfl⟩
  refine Al (Ip.eq_1 _ _ _)<|Y<|O<|Ab 5 [0] [(21,(.sl 4 (List.map Ac s0_l))),(17,(.q ids 0 g))] ?_
  refine Ee fun hs=>Aa (.sl 4 (List.map Ac (s0_l.drop 1))) J (Fr (N0 Ch C1 J hs))<|Ab 2 [] [(24,(.q ids 0 g))] ?_
  refine An (Aq (v:=(.sl 4 (List.map Ac (s0_l.drop 1)))) hI J J J J Ch J J J J J)<|Z<|Aj ?_
  refine Y<|O<|Ab 2 [] [(26,(.q ids 0 g)),(25,(.func (.func 196) [] [(.q ids 2 g2)]))] ?_
  refine Ap [0] hI J J (Da (s0_l.drop 1) s0_end _ (ix ids 0) w w1 w2 w3 w4 w5 v1 w6 g (by exact hI.sub' J J)) J J J J J J (fun v _=>Ao (K:=3) (N:=1) Tryz.func195 hI) ?_
  rintro r1 _ _ _ ⟨rfl,rfl⟩
  refine A0 [0] hI J J J ?_
  refine Ar<|Ap [2,0] hI J J (U5 r1 ((s0_l.drop 1).drop 1) s0_end _ (ix ids 2) (ix ids 0) g2 w w1 w2 w3 w4 w5 v1 w6 g (by exact hI.sub' J J)) J J J J J J (fun v _=>Ao (K:=3) (N:=1) Tryz.func195 hI) ?_
  rintro r2 _ _ _ ⟨rfl,rfl⟩
  refine A0 [2,0] hI J J J ?_
  refine Ar<|A8 (j:=3) hI J J J J Jj J fun g3=>An (Aq (v:=(.agg (B4 r2))) hI J J J J Jj J J J J J)<|Z<|Aj ?_
  refine Y<|O<|Aa (.q ids 0 g) J Ad<|Ap [0] hI J J (Di [59] ((((((((s0_l.drop 1).drop 1).drop 1).drop 1).drop 1).drop 1).drop 1).drop 1) s0_end _ (ix ids 0) w w1 w2 w3 w4 w5 v1 w6 g (by exact hI.sub' J J)) J J J J J J (fun v _=>Ao (K:=3) (N:=1) Tryz.func195 hI) ?_
  rintro _ _ _ _ ⟨rfl,rfl⟩
  refine A0 [0] hI J J J ?_
  refine Ar<|Z<|Aj ?_
  refine Ct Es [[],[],[1],[1,2],[],[4],[1,2,3,4,5],[0,0,1,2,3,4,5,6],[0,1,2,3,4,5,6,6,6,7]] [(false,0),(false,1),(false,2),(false,3),(false,4),(true,5),(true,6),(false,7),(true,8)] (by kernel_rfl)<|Af (.ptr (ix ids 0) g 0 8) J J Ad<|Af (.ptr (ix ids 0) g 0 8) J J Ad<|Af (.ptr (ix ids 0) g 0 8) J J (Br J)<|Af v1 J J (Au (A3 hI J J J J2 J))<|Af (.agg (B4 r2)) J J (Au (A3 hI J J J Jj J))<|Iv J J (fun _ _=>J) (fun K hK=>Mr (e:=B4) (L:=[r2]) (st:=4) (rows:=[[(.str r2.Name),(.I r2.Slow),(.I r2.Fast),(.I r2.Places)]]) J2 Jj J J J J J (.cons (RowSim.refl _) .nil) (fun x=>Uq x) J J (hK _ _ (Ae J (Bt J (Au (A3 hI J J J J2 J)) (Bt J (Br J) (Bt J Ad (Bt J Ad Bp))))) ?_))
  clear hK K
  refine Kt fun hl=>Iv J J (fun _ _=>J) (fun K hK=>H4 (e:=B4) (L:=l) (L2:=[r2]) (v:=v1) (g:=g1) (st:=4) (j:=1) hI J J J vH J (Gb J) J2 J2 J Jj J J J hl fun v2 g4 vH1=>hK _ _ (Ae J (Ae J (Ae J (Ae J (Bt J Ad Bp))))) ?_)
  clear hK K
  refine Af (.ptr (ix ids 0) g 0 8) J J (Br J)<|D7 J (fun _ _=>J) (fun K hK=>Co (G5 vH1 hI J J J J J2 J J J) (hK _ _ (Ae J (Ae J (Ae J (Ae J (Ae J (Ae J Bp)))))) ?_))
  clear hK K
  refine Ck<|Aj ?_
  exact Ci (K:=3) (N:=1) (a:=(l++[r2])) (vs:=[]) [some (.rows g 10 [[(.sl 4 (List.map Ac (((((((((s0_l.drop 1).drop 1).drop 1).drop 1).drop 1).drop 1).drop 1).drop 1).drop 1))),(.I s0_end),w,w1,w2,w3,w4,w5,v2,w6]]),Ah v2 g4 4 (List.map B4 (l++[r2])),some (.rows g2 1 [[(.q ids 0 g)]])] Tryz.func195 hI J J J (.keep (.keep (.keep (.drop .nil)))) (.same _) ⟨v2,g4,vH1,J,J⟩
 refine Bx J (fun hc=>?_) (fun hc=>?_)
 ·refine O<|Aa (.q ids 0 g) J Ad<|Ap [0] hI J J (Cn 2 s0_l s0_end _ (ix ids 0) w w1 w2 w3 w4 w5 v1 w6 g (by exact hI.sub' J J)) J J J J J J (fun v _=>Ao (K:=3) (N:=1) Tryz.func195 hI) ?_
  rintro _ _ _ _ ⟨rfl,rfl⟩
  refine A0 [0] hI J J J ?_
  refine Ar<|Z<|Bo (hJ () _ _ ⟨J,J⟩)
 refine Ax<|Bo (hJ () _ _ ⟨J,J⟩)
theorem V5 (s0_l:List Token)(s0_end:Int)(l:List Class)(h0:Ag)(o0:Nat)(o1:Nat)(w:AV)(w1:AV)(w2:AV)(w3:AV)(w4:AV)(w5:AV)(w6:AV)(g:Nat)(v1:AV)(g1:Nat)(vH:Av v1 o1 g1 l.length)(hI0:Ids h0 [o0,o1] 2):I5 s0_l s0_end l≠.bad→Bq Tryz.prog 194 [(.ptr o0 g 0 0)] (hp h0 [o0,o1] [some (.rows g 10 [[(.sl 4 (List.map Ac s0_l)),(.int .i64 s0_end),w,w1,w2,w3,w4,w5,v1,w6]]),Ah v1 g1 4 (List.map B4 l)]) (C5 (fun a_ v h' => ∃ (v3:AV),∃ (g4:Nat),Av v3 o1 g4 a_.length∧v=(.tup [])∧h'=hp h0 [o0,o1] [some (.rows g 10 [[(.sl 4 (List.map Ac (((((((((s0_l.drop 1).drop 1).drop 1).drop 1).drop 1).drop 1).drop 1).drop 1).drop 1))),(.int .i64 s0_end),w,w1,w2,w3,w4,w5,v3,w6]]),Ah v3 g4 4 (List.map B4 a_)]) h0 (I5 s0_l s0_end l)):=by
 refine Bm (n:=9) 1 Tryz.func194 J (by decide) J J hI0 J fun ids he hI=>?_
 clear hI0
 obtain rfl:ix ids 0=o0:=he 0 rfl
 obtain rfl:ix ids 1=o1:=he 1 rfl
 clear he
 refine Bn (Al (I5.eq_1 _ _ _) ?_)
 refine Aj ?_
 refine Y<|O<|Cl (v:=(.q ids 0 g)) (j:=2) hI J J J J J J J fun g2=>Z<|Aj ?_
 refine Ct Es [[],[],[1],[1,2],[1,2,3],[],[0,1,2,3,4,5]] [(false,0),(false,1),(false,2),(false,3),(false,4),(false,5),(true,6)] (by kernel_rfl)<|Af (.q ids 0 g) J J (Au (A3 hI J J J Tt J))<|Af (.q ids 0 g) J J (Au (A3 hI J J J Tt J))<|Af (.q ids 0 g) J J (Br J)<|Af (.ptr (ix ids 0) g 0 2) J J (Cb (B3 (c:=0) (off:=2) (i:=2) Z1 J Dl J))<|Af (.ptr (ix ids 0) g 0 8) J J (Cb (B3 (c:=2) (off:=6) (i:=6) Dl J J2 J))<|Af (.func (.func 196) [] [(.q ids 2 g2)]) J J R9 ?_
 refine Su [0,1,2] hI J J (Xd 8 s0_l s0_end l _ (ix ids 0) (ix ids 1) (ix ids 2) w w1 w2 w3 w4 w5 w6 g v1 g1 g2 vH (by exact hI.sub' J J)) J J J J J J J (fun v _ _ _=>Ao (K:=2) (N:=1) Tryz.func194 hI) ?_
 rintro r _ _ _ ⟨v2,g3,vH1,rfl,rfl⟩
 refine Ui [0,1,2] [some (.rows g 10 [[(.sl 4 (List.map Ac (((((((((s0_l.drop 1).drop 1).drop 1).drop 1).drop 1).drop 1).drop 1).drop 1).drop 1))),(.I s0_end),w,w1,w2,w3,w4,w5,v2,w6]]),Ah v2 g3 4 (List.map B4 r),some (.rows g2 1 [[(.q ids 0 g)]])] hI J J J J ⟨(Ae J (Ae J (Ae J (Ae J (Ae J (Ae J Bp)))))),?_⟩
 refine Ug<|Ck<|Aj ?_
 exact Ci (K:=2) (N:=1) (a:=r) (vs:=[]) [some (.rows g 10 [[(.sl 4 (List.map Ac (((((((((s0_l.drop 1).drop 1).drop 1).drop 1).drop 1).drop 1).drop 1).drop 1).drop 1))),(.I s0_end),w,w1,w2,w3,w4,w5,v2,w6]]),Ah v2 g3 4 (List.map B4 r)] Tryz.func194 hI J J J (.keep (.keep (.drop .nil))) (.same _) ⟨v2,g3,vH1,J,J⟩
theorem Xs (most:Int)(s0_l:List Token)(s0_end:Int)(l:List Rule)(s2:Int)(h0:Ag)(o0:Nat)(o1:Nat)(o2:Nat)(o3:Nat)(o4:Nat)(w:AV)(w1:AV)(w2:AV)(w3:AV)(w4:AV)(w5:AV)(w6:AV)(g:Nat)(v1:AV)(g1:Nat)(g2:Nat)(g3:Nat)(g4:Nat)(vH:Av v1 o1 g1 l.length)(hI0:Ids h0 [o0,o1,o2,o3,o4] 5):Iu most s0_l s0_end l s2≠.bad→Bq Tryz.prog 215 [(.ptr o0 g 0 0),(.ptr o0 g 0 9),(.int .i64 most),(.func (.func 216) [] [(.ptr o2 g2 0 0),(.ptr o3 g3 0 0)])] (hp h0 [o0,o1,o2,o3,o4] [some (.rows g 10 [[(.sl 4 (List.map Ac s0_l)),(.int .i64 s0_end),w,w1,w2,w3,w4,w5,w6,v1]]),Ah v1 g1 8 (List.map Bc l),some (.rows g2 1 [[(.int .i64 s2)]]),some (.rows g3 1 [[(.func (.func 199) [] [(.ptr o4 g4 0 0)])]]),some (.rows g4 1 [[(.ptr o0 g 0 0)]])]) (C5 (fun a_ v h' => ∃ (v3:AV),∃ (g7:Nat),Av v3 o1 g7 a_.length∧v=(.tup [])∧h'=hp h0 [o0,o1,o2,o3,o4] [some (.rows g 10 [[(.sl 4 (List.map Ac ((((((((s0_l.drop 1).drop 1).drop 1).drop 1).drop 1).drop 1).drop 1).drop 1))),(.int .i64 s0_end),w,w1,w2,w3,w4,w5,w6,v3]]),Ah v3 g7 8 (List.map Bc a_),some (.rows g2 1 [[(.int .i64 s2)]]),some (.rows g3 1 [[(.func (.func 199) [] [(.ptr o4 g4 0 0)])]]),some (.rows g4 1 [[(.ptr o0 g 0 0)]])]) h0 (Iu most s0_l s0_end l s2)):=by
 refine Bm (n:=39) 1 Tryz.func215 J (by decide) J J hI0 J fun ids he hI=>?_
 clear hI0
 obtain rfl:ix ids 0=o0:=he 0 rfl
 obtain rfl:ix ids 1=o1:=he 1 rfl
 obtain rfl:ix ids 2=o2:=he 2 rfl
 obtain rfl:ix ids 3=o3:=he 3 rfl
 obtain rfl:ix ids 4=o4:=he 4 rfl
 clear he
 refine Bn (Al (Iu.eq_1 _ _ _ _ _) ?_)
 refine Aj ?_
 refine Y<|Y<|O<|Ab 3 [0] [(11,v1)] ?_
 refine Aa (.I (l.length:Int)) J (A2 (Av.len vH Fg))<|Ab 2 [] [(14,(.bool ((l.length:Int)==most)))] ?_
 refine Z<|Dx (π:=Unit) (fun _=>Je s0_l s0_end l s2) (fun _=>fun(fr:Nat→AV) (h:Ag)=>fr=A5 [(0,(.q ids 0 g)),(1,(.ptr (ix ids 0) g 0 9)),(3,(.func (.func 216) [] [(.q ids 2 g2),(.q ids 3 g3)]))]∧h=hp h0 ids [(some (.rows g 10 [[(.sl 4 (List.map Ac s0_l)),(.I s0_end),w,w1,w2,w3,w4,w5,w6,v1]])),(Ah v1 g1 8 (List.map Bc l)),(some (.rows g2 1 [[(.I s2)]])),(some (.rows g3 1 [[(.func (.func 199) [] [(.q ids 4 g4)])]])),(some (.rows g4 1 [[(.q ids 0 g)]])),none]) ?_ fun hJ=>?_
 ·rintro _ fr h ⟨rfl,rfl⟩
  refine Al (Je.eq_1 _ _ _ _)<|Y<|O<|Ab 5 [0] [(21,(.sl 4 (List.map Ac s0_l))),(17,(.q ids 0 g))] ?_
  refine Ee fun hs=>Aa (.sl 4 (List.map Ac (s0_l.drop 1))) J (Fr (N0 Ch C1 J hs))<|Ab 2 [] [(24,(.q ids 0 g))] ?_
  refine An (Aq (v:=(.sl 4 (List.map Ac (s0_l.drop 1)))) hI J J J J Ch J J J J J)<|Z<|Aj ?_
  refine Y<|O<|Ab 2 [] [(26,(.q ids 0 g)),(25,(.func (.func 216) [] [(.q ids 2 g2),(.q ids 3 g3)]))] ?_
  refine Ap [0] hI J J (Da (s0_l.drop 1) s0_end _ (ix ids 0) w w1 w2 w3 w4 w5 w6 v1 g (by exact hI.sub' J J)) J J J J J J (fun v _=>Ao (K:=5) (N:=1) Tryz.func215 hI) ?_
  rintro r1 _ _ _ ⟨rfl,rfl⟩
  refine A0 [0] hI J J J ?_
  refine Ar<|Ap [2,3,4,0] hI J J (Vs r1 s2 ((s0_l.drop 1).drop 1) s0_end _ (ix ids 2) (ix ids 3) (ix ids 4) (ix ids 0) g2 g3 g4 w w1 w2 w3 w4 w5 w6 v1 g (by exact hI.sub' J J)) J J J J J J (fun v _=>Ao (K:=5) (N:=1) Tryz.func215 hI) ?_
  rintro r2 _ _ _ ⟨rfl,rfl⟩
  refine A0 [2,3,4,0] hI J J J ?_
  refine Ar<|A8 (j:=5) hI J J J J D3 J fun g5=>An (Aq (v:=(.agg (Bc r2))) hI J J J J D3 J J J J J)<|Z<|Aj ?_
  refine Y<|O<|Aa (.q ids 0 g) J Ad<|Ap [0] hI J J (Di [59] (((((((s0_l.drop 1).drop 1).drop 1).drop 1).drop 1).drop 1).drop 1) s0_end _ (ix ids 0) w w1 w2 w3 w4 w5 w6 v1 g (by exact hI.sub' J J)) J J J J J J (fun v _=>Ao (K:=5) (N:=1) Tryz.func215 hI) ?_
  rintro _ _ _ _ ⟨rfl,rfl⟩
  refine A0 [0] hI J J J ?_
  refine Ar<|Z<|Aj ?_
  refine Ct Es [[],[],[1],[1,2],[],[4],[1,2,3,4,5],[0,0,1,2,3,4,5,6],[0,1,2,3,4,5,6,6,6,7]] [(false,0),(false,1),(false,2),(false,3),(false,4),(true,5),(true,6),(false,7),(true,8)] (by kernel_rfl)<|Af (.ptr (ix ids 0) g 0 9) J J Ad<|Af (.ptr (ix ids 0) g 0 9) J J Ad<|Af (.ptr (ix ids 0) g 0 9) J J (Br J)<|Af v1 J J (Au (A3 hI J J J Fg J))<|Af (.agg (Bc r2)) J J (Au (A3 hI J J J D3 J))<|Iv J J (fun _ _=>J) (fun K hK=>Mr (e:=Bc) (L:=[r2]) (st:=8) (rows:=[[(.I r2.Kind),(.str r2.C),(.str r2.A),(.I r2.Class),(.I r2.Airport),(.I r2.N),(.I r2.Hours.From),(.I r2.Hours.To)]]) Fg D3 J J J J J (.cons (RowSim.refl _) .nil) (fun x=>Q4 x) J J (hK _ _ (Ae J (Bt J (Au (A3 hI J J J Fg J)) (Bt J (Br J) (Bt J Ad (Bt J Ad Bp))))) ?_))
  clear hK K
  refine Kt fun hl=>Iv J J (fun _ _=>J) (fun K hK=>H4 (e:=Bc) (L:=l) (L2:=[r2]) (v:=v1) (g:=g1) (st:=8) (j:=1) hI J J J vH J (Gb J) Fg Fg J D3 J J J hl fun v2 g6 vH1=>hK _ _ (Ae J (Ae J (Ae J (Ae J (Bt J Ad Bp))))) ?_)
  clear hK K
  refine Af (.ptr (ix ids 0) g 0 9) J J (Br J)<|D7 J (fun _ _=>J) (fun K hK=>Co (G5 vH1 hI J J J J Fg J J J) (hK _ _ (Ae J (Ae J (Ae J (Ae J (Ae J (Ae J Bp)))))) ?_))
  clear hK K
  refine Ck<|Aj ?_
  exact Ci (K:=5) (N:=1) (a:=(l++[r2])) (vs:=[]) [some (.rows g 10 [[(.sl 4 (List.map Ac ((((((((s0_l.drop 1).drop 1).drop 1).drop 1).drop 1).drop 1).drop 1).drop 1))),(.I s0_end),w,w1,w2,w3,w4,w5,w6,v2]]),Ah v2 g6 8 (List.map Bc (l++[r2])),some (.rows g2 1 [[(.I s2)]]),some (.rows g3 1 [[(.func (.func 199) [] [(.q ids 4 g4)])]]),some (.rows g4 1 [[(.q ids 0 g)]])] Tryz.func215 hI J J J (.keep (.keep (.keep (.keep (.keep (.drop .nil)))))) (.same _) ⟨v2,g6,vH1,J,J⟩
 refine Bx J (fun hc=>?_) (fun hc=>?_)
 ·refine O<|Aa (.q ids 0 g) J Ad<|Ap [0] hI J J (Cn 2 s0_l s0_end _ (ix ids 0) w w1 w2 w3 w4 w5 w6 v1 g (by exact hI.sub' J J)) J J J J J J (fun v _=>Ao (K:=5) (N:=1) Tryz.func215 hI) ?_
  rintro _ _ _ _ ⟨rfl,rfl⟩
  refine A0 [0] hI J J J ?_
  refine Ar<|Z<|Bo (hJ () _ _ ⟨J,J⟩)
 refine Ax<|Bo (hJ () _ _ ⟨J,J⟩)
theorem Vh (kind:Int)(s0_l:List Token)(s0_end:Int)(l:List Rule)(h0:Ag)(o0:Nat)(o1:Nat)(o2:Nat)(w:AV)(w1:AV)(w2:AV)(w3:AV)(w4:AV)(w5:AV)(w6:AV)(g:Nat)(v1:AV)(g1:Nat)(g2:Nat)(vH:Av v1 o1 g1 l.length)(hI0:Ids h0 [o0,o1,o2] 3):Lh kind s0_l s0_end l≠.bad→Bq Tryz.prog 198 [(.ptr o0 g 0 0),(.int .i64 kind),(.func (.func 199) [] [(.ptr o2 g2 0 0)])] (hp h0 [o0,o1,o2] [some (.rows g 10 [[(.sl 4 (List.map Ac s0_l)),(.int .i64 s0_end),w,w1,w2,w3,w4,w5,w6,v1]]),Ah v1 g1 8 (List.map Bc l),some (.rows g2 1 [[(.ptr o0 g 0 0)]])]) (C5 (fun a_ v h' => ∃ (v3:AV),∃ (g6:Nat),Av v3 o1 g6 a_.length∧v=(.tup [])∧h'=hp h0 [o0,o1,o2] [some (.rows g 10 [[(.sl 4 (List.map Ac ((((((((s0_l.drop 1).drop 1).drop 1).drop 1).drop 1).drop 1).drop 1).drop 1))),(.int .i64 s0_end),w,w1,w2,w3,w4,w5,w6,v3]]),Ah v3 g6 8 (List.map Bc a_),some (.rows g2 1 [[(.ptr o0 g 0 0)]])]) h0 (Lh kind s0_l s0_end l)):=by
 refine Bm (n:=13) 2 Tryz.func198 J (by decide) J J hI0 J fun ids he hI=>?_
 clear hI0
 obtain rfl:ix ids 0=o0:=he 0 rfl
 obtain rfl:ix ids 1=o1:=he 1 rfl
 obtain rfl:ix ids 2=o2:=he 2 rfl
 clear he
 refine Bn (Al (Lh.eq_1 _ _ _ _) ?_)
 refine Aj ?_
 refine Y<|O<|Cl (v:=(.I kind)) (j:=3) hI J J J J J J J fun g3=>Cl (v:=(.func (.func 199) [] [(.q ids 2 g2)])) (j:=4) hI J J J J J J J fun g4=>Z<|Aj ?_
 refine O<|Ab 6 [] [(11,(.func (.func 216) [] [(.q ids 3 g3),(.q ids 4 g4)])),(10,(.ptr (ix ids 0) g 0 9)),(6,(.q ids 0 g))] ?_
 refine Ap [0,1,3,4,2] hI J J (Xs 64 s0_l s0_end l kind _ (ix ids 0) (ix ids 1) (ix ids 3) (ix ids 4) (ix ids 2) w w1 w2 w3 w4 w5 w6 g v1 g1 g3 g4 g2 vH (by exact hI.sub' J J)) J J J J J J (fun v _=>Ao (K:=3) (N:=2) Tryz.func198 hI) ?_
 rintro r _ _ _ ⟨v2,g5,vH1,rfl,rfl⟩
 refine A0 [0,1,3,4,2] hI J J J ?_
 refine Ar<|Z<|Aj ?_
 exact Ci (K:=3) (N:=2) (a:=r) (vs:=[]) [some (.rows g 10 [[(.sl 4 (List.map Ac ((((((((s0_l.drop 1).drop 1).drop 1).drop 1).drop 1).drop 1).drop 1).drop 1))),(.I s0_end),w,w1,w2,w3,w4,w5,w6,v2]]),Ah v2 g5 8 (List.map Bc r),some (.rows g2 1 [[(.q ids 0 g)]])] Tryz.func198 hI J J J (.keep (.keep (.keep (.drop (.drop .nil))))) (.same _) ⟨v2,g5,vH1,J,J⟩
theorem V9 (s0_l:List Token)(s0_end:Int)(l:List Rule)(h0:Ag)(o0:Nat)(o1:Nat)(w:AV)(w1:AV)(w2:AV)(w3:AV)(w4:AV)(w5:AV)(w6:AV)(g:Nat)(v1:AV)(g1:Nat)(vH:Av v1 o1 g1 l.length)(hI0:Ids h0 [o0,o1] 2):Jf s0_l s0_end l≠.bad→Bq Tryz.prog 197 [(.ptr o0 g 0 0)] (hp h0 [o0,o1] [some (.rows g 10 [[(.sl 4 (List.map Ac s0_l)),(.int .i64 s0_end),w,w1,w2,w3,w4,w5,w6,v1]]),Ah v1 g1 8 (List.map Bc l)]) (C5 (fun a_ v h' => ∃ (v3:AV),∃ (g4:Nat),Av v3 o1 g4 a_.length∧v=(.tup [])∧h'=hp h0 [o0,o1] [some (.rows g 10 [[(.sl 4 (List.map Ac ((((((((s0_l.drop 1).drop 1).drop 1).drop 1).drop 1).drop 1).drop 1).drop 1))),(.int .i64 s0_end),w,w1,w2,w3,w4,w5,w6,v3]]),Ah v3 g4 8 (List.map Bc a_)]) h0 (Jf s0_l s0_end l)):=by
 refine Bm (n:=5) 1 Tryz.func197 J (by decide) J J hI0 J fun ids he hI=>?_
 clear hI0
 obtain rfl:ix ids 0=o0:=he 0 rfl
 obtain rfl:ix ids 1=o1:=he 1 rfl
 clear he
 refine Bn (Al (Jf.eq_1 _ _ _) ?_)
 refine Aj ?_
 refine Y<|O<|Cl (v:=(.q ids 0 g)) (j:=2) hI J J J J J J J fun g2=>Z<|Aj ?_
 refine O<|Ab 2 [2] [(3,(.func (.func 199) [] [(.q ids 2 g2)])),(2,(.q ids 0 g))] ?_
 refine Ap [0,1,2] hI J J (Vh 1 s0_l s0_end l _ (ix ids 0) (ix ids 1) (ix ids 2) w w1 w2 w3 w4 w5 w6 g v1 g1 g2 vH (by exact hI.sub' J J)) J J J J J J (fun v _=>Ao (K:=2) (N:=1) Tryz.func197 hI) ?_
 rintro r _ _ _ ⟨v2,g3,vH1,rfl,rfl⟩
 refine A0 [0,1,2] hI J J J ?_
 refine Ar<|Z<|Aj ?_
 exact Ci (K:=2) (N:=1) (a:=r) (vs:=[]) [some (.rows g 10 [[(.sl 4 (List.map Ac ((((((((s0_l.drop 1).drop 1).drop 1).drop 1).drop 1).drop 1).drop 1).drop 1))),(.I s0_end),w,w1,w2,w3,w4,w5,w6,v2]]),Ah v2 g3 8 (List.map Bc r)] Tryz.func197 hI J J J (.keep (.keep (.drop .nil))) (.same _) ⟨v2,g3,vH1,J,J⟩
theorem Xm (most:Int)(s0_l:List Token)(s0_end:Int)(l:List Rule)(s2:Int)(h0:Ag)(o0:Nat)(o1:Nat)(o2:Nat)(o3:Nat)(w:AV)(w1:AV)(w2:AV)(w3:AV)(w4:AV)(w5:AV)(w6:AV)(g:Nat)(v1:AV)(g1:Nat)(g2:Nat)(g3:Nat)(vH:Av v1 o1 g1 l.length)(hI0:Ids h0 [o0,o1,o2,o3] 4):I0 most s0_l s0_end l s2≠.bad→Bq Tryz.prog 215 [(.ptr o0 g 0 0),(.ptr o0 g 0 9),(.int .i64 most),(.func (.func 216) [] [(.ptr o2 g2 0 0),(.ptr o3 g3 0 0)])] (hp h0 [o0,o1,o2,o3] [some (.rows g 10 [[(.sl 4 (List.map Ac s0_l)),(.int .i64 s0_end),w,w1,w2,w3,w4,w5,w6,v1]]),Ah v1 g1 8 (List.map Bc l),some (.rows g2 1 [[(.int .i64 s2)]]),some (.rows g3 1 [[(.func (.func 202) [] [])]])]) (C5 (fun a_ v h' => ∃ (v3:AV),∃ (g6:Nat),Av v3 o1 g6 a_.length∧v=(.tup [])∧h'=hp h0 [o0,o1,o2,o3] [some (.rows g 10 [[(.sl 4 (List.map Ac (((s0_l.drop 1).drop 1).drop 1))),(.int .i64 s0_end),w,w1,w2,w3,w4,w5,w6,v3]]),Ah v3 g6 8 (List.map Bc a_),some (.rows g2 1 [[(.int .i64 s2)]]),some (.rows g3 1 [[(.func (.func 202) [] [])]])]) h0 (I0 most s0_l s0_end l s2)):=by
 refine Bm (n:=39) 1 Tryz.func215 J (by decide) J J hI0 J fun ids he hI=>?_
 clear hI0
 obtain rfl:ix ids 0=o0:=he 0 rfl
 obtain rfl:ix ids 1=o1:=he 1 rfl
 obtain rfl:ix ids 2=o2:=he 2 rfl
 obtain rfl:ix ids 3=o3:=he 3 rfl
 clear he
 refine Bn (Al (I0.eq_1 _ _ _ _ _) ?_)
 refine Aj ?_
 refine Y<|Y<|O<|Ab 3 [0] [(11,v1)] ?_
 refine Aa (.I (l.length:Int)) J (A2 (Av.len vH Fg))<|Ab 2 [] [(14,(.bool ((l.length:Int)==most)))] ?_
 refine Z<|Dx (π:=Unit) (fun _=>Jb s0_l s0_end l s2) (fun _=>fun(fr:Nat→AV) (h:Ag)=>fr=A5 [(0,(.q ids 0 g)),(1,(.ptr (ix ids 0) g 0 9)),(3,(.func (.func 216) [] [(.q ids 2 g2),(.q ids 3 g3)]))]∧h=hp h0 ids [(some (.rows g 10 [[(.sl 4 (List.map Ac s0_l)),(.I s0_end),w,w1,w2,w3,w4,w5,w6,v1]])),(Ah v1 g1 8 (List.map Bc l)),(some (.rows g2 1 [[(.I s2)]])),(some (.rows g3 1 [[(.func (.func 202) [] [])]])),none]) ?_ fun hJ=>?_
 ·rintro _ fr h ⟨rfl,rfl⟩
  refine Al (Jb.eq_1 _ _ _ _)<|Y<|O<|Ab 5 [0] [(21,(.sl 4 (List.map Ac s0_l))),(17,(.q ids 0 g))] ?_
  refine Ee fun hs=>Aa (.sl 4 (List.map Ac (s0_l.drop 1))) J (Fr (N0 Ch C1 J hs))<|Ab 2 [] [(24,(.q ids 0 g))] ?_
  refine An (Aq (v:=(.sl 4 (List.map Ac (s0_l.drop 1)))) hI J J J J Ch J J J J J)<|Z<|Aj ?_
  refine Y<|O<|Ab 2 [] [(26,(.q ids 0 g)),(25,(.func (.func 216) [] [(.q ids 2 g2),(.q ids 3 g3)]))] ?_
  refine Ap [0] hI J J (Da (s0_l.drop 1) s0_end _ (ix ids 0) w w1 w2 w3 w4 w5 w6 v1 g (by exact hI.sub' J J)) J J J J J J (fun v _=>Ao (K:=4) (N:=1) Tryz.func215 hI) ?_
  rintro r1 _ _ _ ⟨rfl,rfl⟩
  refine A0 [0] hI J J J ?_
  refine Ar<|Ap [2,3] hI J J (Vq r1 s2 _ (ix ids 2) (ix ids 3) g2 g3 (by exact hI.sub' J J)) J J J J J J (fun v _=>Ao (K:=4) (N:=1) Tryz.func215 hI) ?_
  rintro _ _ _ _ ⟨rfl,rfl⟩
  refine A0 [2,3] hI J J J ?_
  refine Ar<|A8 (j:=4) hI J J J J D3 J fun g4=>An (Aq (v:=(.agg [(.I s2),(.str r1),(.str []),(.I 0),(.I 0),(.I 0),(.I 0),(.I 0)])) hI J J J J D3 J J J J J)<|Z<|Aj ?_
  refine Y<|O<|Aa (.q ids 0 g) J Ad<|Ap [0] hI J J (Di [59] ((s0_l.drop 1).drop 1) s0_end _ (ix ids 0) w w1 w2 w3 w4 w5 w6 v1 g (by exact hI.sub' J J)) J J J J J J (fun v _=>Ao (K:=4) (N:=1) Tryz.func215 hI) ?_
  rintro _ _ _ _ ⟨rfl,rfl⟩
  refine A0 [0] hI J J J ?_
  refine Ar<|Z<|Aj ?_
  refine Ct Es [[],[],[1],[1,2],[],[4],[1,2,3,4,5],[0,0,1,2,3,4,5,6],[0,1,2,3,4,5,6,6,6,7]] [(false,0),(false,1),(false,2),(false,3),(false,4),(true,5),(true,6),(false,7),(true,8)] (by kernel_rfl)<|Af (.ptr (ix ids 0) g 0 9) J J Ad<|Af (.ptr (ix ids 0) g 0 9) J J Ad<|Af (.ptr (ix ids 0) g 0 9) J J (Br J)<|Af v1 J J (Au (A3 hI J J J Fg J))<|Af (.agg [(.I s2),(.str r1),(.str []),(.I 0),(.I 0),(.I 0),(.I 0),(.I 0)]) J J (Au (A3 hI J J J D3 J))<|Iv J J (fun _ _=>J) (fun K hK=>Mr (e:=Bc) (L:=[({ Kind:=s2,C:=r1,A:=[],Class:=0,Airport:=0,N:=0,Hours:=({ From:=0,To:=0 }:Span) }:Rule)]) (st:=8) (rows:=[[(.I s2),(.str r1),(.str []),(.I 0),(.I 0),(.I 0),(.I 0),(.I 0)]]) Fg D3 J J J J J (.cons (.cons (.same _) (.cons (.same _) (.cons (.same _) (.cons (.same _) (.cons (.same _) (.cons (.same _) (.cons (.same _) (.cons (.same _) .nil)))))))) .nil) (fun x=>Q4 x) J J (hK _ _ (Ae J (Bt J (Au (A3 hI J J J Fg J)) (Bt J (Br J) (Bt J Ad (Bt J Ad Bp))))) ?_))
  clear hK K
  refine Kt fun hl=>Iv J J (fun _ _=>J) (fun K hK=>H4 (e:=Bc) (L:=l) (L2:=[({ Kind:=s2,C:=r1,A:=[],Class:=0,Airport:=0,N:=0,Hours:=({ From:=0,To:=0 }:Span) }:Rule)]) (v:=v1) (g:=g1) (st:=8) (j:=1) hI J J J vH J (Gb J) Fg Fg J D3 J J J hl fun v2 g5 vH1=>hK _ _ (Ae J (Ae J (Ae J (Ae J (Bt J Ad Bp))))) ?_)
  clear hK K
  refine Af (.ptr (ix ids 0) g 0 9) J J (Br J)<|D7 J (fun _ _=>J) (fun K hK=>Co (G5 vH1 hI J J J J Fg J J J) (hK _ _ (Ae J (Ae J (Ae J (Ae J (Ae J (Ae J Bp)))))) ?_))
  clear hK K
  refine Ck<|Aj ?_
  exact Ci (K:=4) (N:=1) (a:=(l++[({ Kind:=s2,C:=r1,A:=[],Class:=0,Airport:=0,N:=0,Hours:=({ From:=0,To:=0 }:Span) }:Rule)])) (vs:=[]) [some (.rows g 10 [[(.sl 4 (List.map Ac (((s0_l.drop 1).drop 1).drop 1))),(.I s0_end),w,w1,w2,w3,w4,w5,w6,v2]]),Ah v2 g5 8 (List.map Bc (l++[({ Kind:=s2,C:=r1,A:=[],Class:=0,Airport:=0,N:=0,Hours:=({ From:=0,To:=0 }:Span) }:Rule)])),some (.rows g2 1 [[(.I s2)]]),some (.rows g3 1 [[(.func (.func 202) [] [])]])] Tryz.func215 hI J J J (.keep (.keep (.keep (.keep (.drop .nil))))) (.same _) ⟨v2,g5,vH1,J,J⟩
 refine Bx J (fun hc=>?_) (fun hc=>?_)
 ·refine O<|Aa (.q ids 0 g) J Ad<|Ap [0] hI J J (Cn 2 s0_l s0_end _ (ix ids 0) w w1 w2 w3 w4 w5 w6 v1 g (by exact hI.sub' J J)) J J J J J J (fun v _=>Ao (K:=4) (N:=1) Tryz.func215 hI) ?_
  rintro _ _ _ _ ⟨rfl,rfl⟩
  refine A0 [0] hI J J J ?_
  refine Ar<|Z<|Bo (hJ () _ _ ⟨J,J⟩)
 refine Ax<|Bo (hJ () _ _ ⟨J,J⟩)
theorem Vb (kind:Int)(s0_l:List Token)(s0_end:Int)(l:List Rule)(h0:Ag)(o0:Nat)(o1:Nat)(w:AV)(w1:AV)(w2:AV)(w3:AV)(w4:AV)(w5:AV)(w6:AV)(g:Nat)(v1:AV)(g1:Nat)(vH:Av v1 o1 g1 l.length)(hI0:Ids h0 [o0,o1] 2):Ll kind s0_l s0_end l≠.bad→Bq Tryz.prog 198 [(.ptr o0 g 0 0),(.int .i64 kind),(.func (.func 202) [] [])] (hp h0 [o0,o1] [some (.rows g 10 [[(.sl 4 (List.map Ac s0_l)),(.int .i64 s0_end),w,w1,w2,w3,w4,w5,w6,v1]]),Ah v1 g1 8 (List.map Bc l)]) (C5 (fun a_ v h' => ∃ (v3:AV),∃ (g5:Nat),Av v3 o1 g5 a_.length∧v=(.tup [])∧h'=hp h0 [o0,o1] [some (.rows g 10 [[(.sl 4 (List.map Ac (((s0_l.drop 1).drop 1).drop 1))),(.int .i64 s0_end),w,w1,w2,w3,w4,w5,w6,v3]]),Ah v3 g5 8 (List.map Bc a_)]) h0 (Ll kind s0_l s0_end l)):=by
 refine Bm (n:=13) 2 Tryz.func198 J (by decide) J J hI0 J fun ids he hI=>?_
 clear hI0
 obtain rfl:ix ids 0=o0:=he 0 rfl
 obtain rfl:ix ids 1=o1:=he 1 rfl
 clear he
 refine Bn (Al (Ll.eq_1 _ _ _ _) ?_)
 refine Aj ?_
 refine Y<|O<|Cl (v:=(.I kind)) (j:=2) hI J J J J J J J fun g2=>Cl (v:=(.func (.func 202) [] [])) (j:=3) hI J J J J J J J fun g3=>Z<|Aj ?_
 refine O<|Ab 6 [] [(11,(.func (.func 216) [] [(.q ids 2 g2),(.q ids 3 g3)])),(10,(.ptr (ix ids 0) g 0 9)),(6,(.q ids 0 g))] ?_
 refine Ap [0,1,2,3] hI J J (Xm 64 s0_l s0_end l kind _ (ix ids 0) (ix ids 1) (ix ids 2) (ix ids 3) w w1 w2 w3 w4 w5 w6 g v1 g1 g2 g3 vH (by exact hI.sub' J J)) J J J J J J (fun v _=>Ao (K:=2) (N:=2) Tryz.func198 hI) ?_
 rintro r _ _ _ ⟨v2,g4,vH1,rfl,rfl⟩
 refine A0 [0,1,2,3] hI J J J ?_
 refine Ar<|Z<|Aj ?_
 exact Ci (K:=2) (N:=2) (a:=r) (vs:=[]) [some (.rows g 10 [[(.sl 4 (List.map Ac (((s0_l.drop 1).drop 1).drop 1))),(.I s0_end),w,w1,w2,w3,w4,w5,w6,v2]]),Ah v2 g4 8 (List.map Bc r)] Tryz.func198 hI J J J (.keep (.keep (.drop (.drop .nil)))) (.same _) ⟨v2,g4,vH1,J,J⟩
theorem Vx (s0_l:List Token)(s0_end:Int)(l:List Rule)(h0:Ag)(o0:Nat)(o1:Nat)(w:AV)(w1:AV)(w2:AV)(w3:AV)(w4:AV)(w5:AV)(w6:AV)(g:Nat)(v1:AV)(g1:Nat)(vH:Av v1 o1 g1 l.length)(hI0:Ids h0 [o0,o1] 2):Ja s0_l s0_end l≠.bad→Bq Tryz.prog 201 [(.ptr o0 g 0 0)] (hp h0 [o0,o1] [some (.rows g 10 [[(.sl 4 (List.map Ac s0_l)),(.int .i64 s0_end),w,w1,w2,w3,w4,w5,w6,v1]]),Ah v1 g1 8 (List.map Bc l)]) (C5 (fun a_ v h' => ∃ (v3:AV),∃ (g3:Nat),Av v3 o1 g3 a_.length∧v=(.tup [])∧h'=hp h0 [o0,o1] [some (.rows g 10 [[(.sl 4 (List.map Ac (((s0_l.drop 1).drop 1).drop 1))),(.int .i64 s0_end),w,w1,w2,w3,w4,w5,w6,v3]]),Ah v3 g3 8 (List.map Bc a_)]) h0 (Ja s0_l s0_end l)):=by
 refine Bm (n:=4) 0 Tryz.func201 J (by decide) J J hI0 J fun ids he hI=>?_
 clear hI0
 obtain rfl:ix ids 0=o0:=he 0 rfl
 obtain rfl:ix ids 1=o1:=he 1 rfl
 clear he
 refine Bn (Al (Ja.eq_1 _ _ _) ?_)
 refine O<|Aa (.q ids 0 g) J Ad<|Ap [0,1] hI J J (Vb 2 s0_l s0_end l _ (ix ids 0) (ix ids 1) w w1 w2 w3 w4 w5 w6 g v1 g1 vH (by exact hI.sub' J J)) J J J J J J (fun v _=>Ao (K:=2) (N:=0) Tryz.func201 hI) ?_
 rintro r _ _ _ ⟨v2,g2,vH1,rfl,rfl⟩
 refine A0 [0,1] hI J J J ?_
 refine Ar<|Z<|Aj ?_
 exact Ci (K:=2) (N:=0) (a:=r) (vs:=[]) [some (.rows g 10 [[(.sl 4 (List.map Ac (((s0_l.drop 1).drop 1).drop 1))),(.I s0_end),w,w1,w2,w3,w4,w5,w6,v2]]),Ah v2 g2 8 (List.map Bc r)] Tryz.func201 hI J J J (.keep (.keep .nil)) (.same _) ⟨v2,g2,vH1,J,J⟩
theorem Xi (most:Int)(s0_l:List Token)(s0_end:Int)(l:List Rule)(s2:Int)(h0:Ag)(o0:Nat)(o1:Nat)(o2:Nat)(o3:Nat)(o4:Nat)(w:AV)(w1:AV)(w2:AV)(w3:AV)(w4:AV)(w5:AV)(w6:AV)(g:Nat)(v1:AV)(g1:Nat)(g2:Nat)(g3:Nat)(g4:Nat)(vH:Av v1 o1 g1 l.length)(hI0:Ids h0 [o0,o1,o2,o3,o4] 5):I1 most s0_l s0_end l s2≠.bad→Bq Tryz.prog 215 [(.ptr o0 g 0 0),(.ptr o0 g 0 9),(.int .i64 most),(.func (.func 216) [] [(.ptr o2 g2 0 0),(.ptr o3 g3 0 0)])] (hp h0 [o0,o1,o2,o3,o4] [some (.rows g 10 [[(.sl 4 (List.map Ac s0_l)),(.int .i64 s0_end),w,w1,w2,w3,w4,w5,w6,v1]]),Ah v1 g1 8 (List.map Bc l),some (.rows g2 1 [[(.int .i64 s2)]]),some (.rows g3 1 [[(.func (.func 206) [] [(.ptr o4 g4 0 0)])]]),some (.rows g4 1 [[(.ptr o0 g 0 0)]])]) (C5 (fun a_ v h' => ∃ (v3:AV),∃ (g7:Nat),Av v3 o1 g7 a_.length∧v=(.tup [])∧h'=hp h0 [o0,o1,o2,o3,o4] [some (.rows g 10 [[(.sl 4 (List.map Ac ((((s0_l.drop 1).drop 1).drop 1).drop 1))),(.int .i64 s0_end),w,w1,w2,w3,w4,w5,w6,v3]]),Ah v3 g7 8 (List.map Bc a_),some (.rows g2 1 [[(.int .i64 s2)]]),some (.rows g3 1 [[(.func (.func 206) [] [(.ptr o4 g4 0 0)])]]),some (.rows g4 1 [[(.ptr o0 g 0 0)]])]) h0 (I1 most s0_l s0_end l s2)):=by
 refine Bm (n:=39) 1 Tryz.func215 J (by decide) J J hI0 J fun ids he hI=>?_
 clear hI0
 obtain rfl:ix ids 0=o0:=he 0 rfl
 obtain rfl:ix ids 1=o1:=he 1 rfl
 obtain rfl:ix ids 2=o2:=he 2 rfl
 obtain rfl:ix ids 3=o3:=he 3 rfl
 obtain rfl:ix ids 4=o4:=he 4 rfl
 clear he
 refine Bn (Al (I1.eq_1 _ _ _ _ _) ?_)
 refine Aj ?_
 refine Y<|Y<|O<|Ab 3 [0] [(11,v1)] ?_
 refine Aa (.I (l.length:Int)) J (A2 (Av.len vH Fg))<|Ab 2 [] [(14,(.bool ((l.length:Int)==most)))] ?_
 refine Z<|Dx (π:=Unit) (fun _=>Jc s0_l s0_end l s2) (fun _=>fun(fr:Nat→AV) (h:Ag)=>fr=A5 [(0,(.q ids 0 g)),(1,(.ptr (ix ids 0) g 0 9)),(3,(.func (.func 216) [] [(.q ids 2 g2),(.q ids 3 g3)]))]∧h=hp h0 ids [(some (.rows g 10 [[(.sl 4 (List.map Ac s0_l)),(.I s0_end),w,w1,w2,w3,w4,w5,w6,v1]])),(Ah v1 g1 8 (List.map Bc l)),(some (.rows g2 1 [[(.I s2)]])),(some (.rows g3 1 [[(.func (.func 206) [] [(.q ids 4 g4)])]])),(some (.rows g4 1 [[(.q ids 0 g)]])),none]) ?_ fun hJ=>?_
 ·rintro _ fr h ⟨rfl,rfl⟩
  refine Al (Jc.eq_1 _ _ _ _)<|Y<|O<|Ab 5 [0] [(21,(.sl 4 (List.map Ac s0_l))),(17,(.q ids 0 g))] ?_
  refine Ee fun hs=>Aa (.sl 4 (List.map Ac (s0_l.drop 1))) J (Fr (N0 Ch C1 J hs))<|Ab 2 [] [(24,(.q ids 0 g))] ?_
  refine An (Aq (v:=(.sl 4 (List.map Ac (s0_l.drop 1)))) hI J J J J Ch J J J J J)<|Z<|Aj ?_
  refine Y<|O<|Ab 2 [] [(26,(.q ids 0 g)),(25,(.func (.func 216) [] [(.q ids 2 g2),(.q ids 3 g3)]))] ?_
  refine Ap [0] hI J J (Da (s0_l.drop 1) s0_end _ (ix ids 0) w w1 w2 w3 w4 w5 w6 v1 g (by exact hI.sub' J J)) J J J J J J (fun v _=>Ao (K:=5) (N:=1) Tryz.func215 hI) ?_
  rintro r1 _ _ _ ⟨rfl,rfl⟩
  refine A0 [0] hI J J J ?_
  refine Ar<|Ap [2,3,4,0] hI J J (Vk r1 s2 ((s0_l.drop 1).drop 1) s0_end _ (ix ids 2) (ix ids 3) (ix ids 4) (ix ids 0) g2 g3 g4 w w1 w2 w3 w4 w5 w6 v1 g (by exact hI.sub' J J)) J J J J J J (fun v _=>Ao (K:=5) (N:=1) Tryz.func215 hI) ?_
  rintro r2 _ _ _ ⟨rfl,rfl⟩
  refine A0 [2,3,4,0] hI J J J ?_
  refine Ar<|A8 (j:=5) hI J J J J D3 J fun g5=>An (Aq (v:=(.agg (Bc r2))) hI J J J J D3 J J J J J)<|Z<|Aj ?_
  refine Y<|O<|Aa (.q ids 0 g) J Ad<|Ap [0] hI J J (Di [59] (((s0_l.drop 1).drop 1).drop 1) s0_end _ (ix ids 0) w w1 w2 w3 w4 w5 w6 v1 g (by exact hI.sub' J J)) J J J J J J (fun v _=>Ao (K:=5) (N:=1) Tryz.func215 hI) ?_
  rintro _ _ _ _ ⟨rfl,rfl⟩
  refine A0 [0] hI J J J ?_
  refine Ar<|Z<|Aj ?_
  refine Ct Es [[],[],[1],[1,2],[],[4],[1,2,3,4,5],[0,0,1,2,3,4,5,6],[0,1,2,3,4,5,6,6,6,7]] [(false,0),(false,1),(false,2),(false,3),(false,4),(true,5),(true,6),(false,7),(true,8)] (by kernel_rfl)<|Af (.ptr (ix ids 0) g 0 9) J J Ad<|Af (.ptr (ix ids 0) g 0 9) J J Ad<|Af (.ptr (ix ids 0) g 0 9) J J (Br J)<|Af v1 J J (Au (A3 hI J J J Fg J))<|Af (.agg (Bc r2)) J J (Au (A3 hI J J J D3 J))<|Iv J J (fun _ _=>J) (fun K hK=>Mr (e:=Bc) (L:=[r2]) (st:=8) (rows:=[[(.I r2.Kind),(.str r2.C),(.str r2.A),(.I r2.Class),(.I r2.Airport),(.I r2.N),(.I r2.Hours.From),(.I r2.Hours.To)]]) Fg D3 J J J J J (.cons (RowSim.refl _) .nil) (fun x=>Q4 x) J J (hK _ _ (Ae J (Bt J (Au (A3 hI J J J Fg J)) (Bt J (Br J) (Bt J Ad (Bt J Ad Bp))))) ?_))
  clear hK K
  refine Kt fun hl=>Iv J J (fun _ _=>J) (fun K hK=>H4 (e:=Bc) (L:=l) (L2:=[r2]) (v:=v1) (g:=g1) (st:=8) (j:=1) hI J J J vH J (Gb J) Fg Fg J D3 J J J hl fun v2 g6 vH1=>hK _ _ (Ae J (Ae J (Ae J (Ae J (Bt J Ad Bp))))) ?_)
  clear hK K
  refine Af (.ptr (ix ids 0) g 0 9) J J (Br J)<|D7 J (fun _ _=>J) (fun K hK=>Co (G5 vH1 hI J J J J Fg J J J) (hK _ _ (Ae J (Ae J (Ae J (Ae J (Ae J (Ae J Bp)))))) ?_))
  clear hK K
  refine Ck<|Aj ?_
  exact Ci (K:=5) (N:=1) (a:=(l++[r2])) (vs:=[]) [some (.rows g 10 [[(.sl 4 (List.map Ac ((((s0_l.drop 1).drop 1).drop 1).drop 1))),(.I s0_end),w,w1,w2,w3,w4,w5,w6,v2]]),Ah v2 g6 8 (List.map Bc (l++[r2])),some (.rows g2 1 [[(.I s2)]]),some (.rows g3 1 [[(.func (.func 206) [] [(.q ids 4 g4)])]]),some (.rows g4 1 [[(.q ids 0 g)]])] Tryz.func215 hI J J J (.keep (.keep (.keep (.keep (.keep (.drop .nil)))))) (.same _) ⟨v2,g6,vH1,J,J⟩
 refine Bx J (fun hc=>?_) (fun hc=>?_)
 ·refine O<|Aa (.q ids 0 g) J Ad<|Ap [0] hI J J (Cn 2 s0_l s0_end _ (ix ids 0) w w1 w2 w3 w4 w5 w6 v1 g (by exact hI.sub' J J)) J J J J J J (fun v _=>Ao (K:=5) (N:=1) Tryz.func215 hI) ?_
  rintro _ _ _ _ ⟨rfl,rfl⟩
  refine A0 [0] hI J J J ?_
  refine Ar<|Z<|Bo (hJ () _ _ ⟨J,J⟩)
 refine Ax<|Bo (hJ () _ _ ⟨J,J⟩)
theorem U3 (kind:Int)(s0_l:List Token)(s0_end:Int)(l:List Rule)(h0:Ag)(o0:Nat)(o1:Nat)(o2:Nat)(w:AV)(w1:AV)(w2:AV)(w3:AV)(w4:AV)(w5:AV)(w6:AV)(g:Nat)(v1:AV)(g1:Nat)(g2:Nat)(vH:Av v1 o1 g1 l.length)(hI0:Ids h0 [o0,o1,o2] 3):K3 kind s0_l s0_end l≠.bad→Bq Tryz.prog 198 [(.ptr o0 g 0 0),(.int .i64 kind),(.func (.func 206) [] [(.ptr o2 g2 0 0)])] (hp h0 [o0,o1,o2] [some (.rows g 10 [[(.sl 4 (List.map Ac s0_l)),(.int .i64 s0_end),w,w1,w2,w3,w4,w5,w6,v1]]),Ah v1 g1 8 (List.map Bc l),some (.rows g2 1 [[(.ptr o0 g 0 0)]])]) (C5 (fun a_ v h' => ∃ (v3:AV),∃ (g6:Nat),Av v3 o1 g6 a_.length∧v=(.tup [])∧h'=hp h0 [o0,o1,o2] [some (.rows g 10 [[(.sl 4 (List.map Ac ((((s0_l.drop 1).drop 1).drop 1).drop 1))),(.int .i64 s0_end),w,w1,w2,w3,w4,w5,w6,v3]]),Ah v3 g6 8 (List.map Bc a_),some (.rows g2 1 [[(.ptr o0 g 0 0)]])]) h0 (K3 kind s0_l s0_end l)):=by
 refine Bm (n:=13) 2 Tryz.func198 J (by decide) J J hI0 J fun ids he hI=>?_
 clear hI0
 obtain rfl:ix ids 0=o0:=he 0 rfl
 obtain rfl:ix ids 1=o1:=he 1 rfl
 obtain rfl:ix ids 2=o2:=he 2 rfl
 clear he
 refine Bn (Al (K3.eq_1 _ _ _ _) ?_)
 refine Aj ?_
 refine Y<|O<|Cl (v:=(.I kind)) (j:=3) hI J J J J J J J fun g3=>Cl (v:=(.func (.func 206) [] [(.q ids 2 g2)])) (j:=4) hI J J J J J J J fun g4=>Z<|Aj ?_
 refine O<|Ab 6 [] [(11,(.func (.func 216) [] [(.q ids 3 g3),(.q ids 4 g4)])),(10,(.ptr (ix ids 0) g 0 9)),(6,(.q ids 0 g))] ?_
 refine Ap [0,1,3,4,2] hI J J (Xi 64 s0_l s0_end l kind _ (ix ids 0) (ix ids 1) (ix ids 3) (ix ids 4) (ix ids 2) w w1 w2 w3 w4 w5 w6 g v1 g1 g3 g4 g2 vH (by exact hI.sub' J J)) J J J J J J (fun v _=>Ao (K:=3) (N:=2) Tryz.func198 hI) ?_
 rintro r _ _ _ ⟨v2,g5,vH1,rfl,rfl⟩
 refine A0 [0,1,3,4,2] hI J J J ?_
 refine Ar<|Z<|Aj ?_
 exact Ci (K:=3) (N:=2) (a:=r) (vs:=[]) [some (.rows g 10 [[(.sl 4 (List.map Ac ((((s0_l.drop 1).drop 1).drop 1).drop 1))),(.I s0_end),w,w1,w2,w3,w4,w5,w6,v2]]),Ah v2 g5 8 (List.map Bc r),some (.rows g2 1 [[(.q ids 0 g)]])] Tryz.func198 hI J J J (.keep (.keep (.keep (.drop (.drop .nil))))) (.same _) ⟨v2,g5,vH1,J,J⟩
theorem Uy (s0_l:List Token)(s0_end:Int)(l:List Rule)(h0:Ag)(o0:Nat)(o1:Nat)(w:AV)(w1:AV)(w2:AV)(w3:AV)(w4:AV)(w5:AV)(w6:AV)(g:Nat)(v1:AV)(g1:Nat)(vH:Av v1 o1 g1 l.length)(hI0:Ids h0 [o0,o1] 2):Ik s0_l s0_end l≠.bad→Bq Tryz.prog 205 [(.ptr o0 g 0 0)] (hp h0 [o0,o1] [some (.rows g 10 [[(.sl 4 (List.map Ac s0_l)),(.int .i64 s0_end),w,w1,w2,w3,w4,w5,w6,v1]]),Ah v1 g1 8 (List.map Bc l)]) (C5 (fun a_ v h' => ∃ (v3:AV),∃ (g4:Nat),Av v3 o1 g4 a_.length∧v=(.tup [])∧h'=hp h0 [o0,o1] [some (.rows g 10 [[(.sl 4 (List.map Ac ((((s0_l.drop 1).drop 1).drop 1).drop 1))),(.int .i64 s0_end),w,w1,w2,w3,w4,w5,w6,v3]]),Ah v3 g4 8 (List.map Bc a_)]) h0 (Ik s0_l s0_end l)):=by
 refine Bm (n:=5) 1 Tryz.func205 J (by decide) J J hI0 J fun ids he hI=>?_
 clear hI0
 obtain rfl:ix ids 0=o0:=he 0 rfl
 obtain rfl:ix ids 1=o1:=he 1 rfl
 clear he
 refine Bn (Al (Ik.eq_1 _ _ _) ?_)
 refine Aj ?_
 refine Y<|O<|Cl (v:=(.q ids 0 g)) (j:=2) hI J J J J J J J fun g2=>Z<|Aj ?_
 refine O<|Ab 2 [2] [(3,(.func (.func 206) [] [(.q ids 2 g2)])),(2,(.q ids 0 g))] ?_
 refine Ap [0,1,2] hI J J (U3 4 s0_l s0_end l _ (ix ids 0) (ix ids 1) (ix ids 2) w w1 w2 w3 w4 w5 w6 g v1 g1 g2 vH (by exact hI.sub' J J)) J J J J J J (fun v _=>Ao (K:=2) (N:=1) Tryz.func205 hI) ?_
 rintro r _ _ _ ⟨v2,g3,vH1,rfl,rfl⟩
 refine A0 [0,1,2] hI J J J ?_
 refine Ar<|Z<|Aj ?_
 exact Ci (K:=2) (N:=1) (a:=r) (vs:=[]) [some (.rows g 10 [[(.sl 4 (List.map Ac ((((s0_l.drop 1).drop 1).drop 1).drop 1))),(.I s0_end),w,w1,w2,w3,w4,w5,w6,v2]]),Ah v2 g3 8 (List.map Bc r)] Tryz.func205 hI J J J (.keep (.keep (.drop .nil))) (.same _) ⟨v2,g3,vH1,J,J⟩
theorem Xq (most:Int)(s0_l:List Token)(s0_end:Int)(l:List Rule)(s2:Int)(h0:Ag)(o0:Nat)(o1:Nat)(o2:Nat)(o3:Nat)(o4:Nat)(w:AV)(w1:AV)(w2:AV)(w3:AV)(w4:AV)(w5:AV)(w6:AV)(g:Nat)(v1:AV)(g1:Nat)(g2:Nat)(g3:Nat)(g4:Nat)(vH:Av v1 o1 g1 l.length)(hI0:Ids h0 [o0,o1,o2,o3,o4] 5):Iw most s0_l s0_end l s2≠.bad→Bq Tryz.prog 215 [(.ptr o0 g 0 0),(.ptr o0 g 0 9),(.int .i64 most),(.func (.func 216) [] [(.ptr o2 g2 0 0),(.ptr o3 g3 0 0)])] (hp h0 [o0,o1,o2,o3,o4] [some (.rows g 10 [[(.sl 4 (List.map Ac s0_l)),(.int .i64 s0_end),w,w1,w2,w3,w4,w5,w6,v1]]),Ah v1 g1 8 (List.map Bc l),some (.rows g2 1 [[(.int .i64 s2)]]),some (.rows g3 1 [[(.func (.func 204) [] [(.ptr o4 g4 0 0)])]]),some (.rows g4 1 [[(.ptr o0 g 0 0)]])]) (C5 (fun a_ v h' => ∃ (v3:AV),∃ (g7:Nat),Av v3 o1 g7 a_.length∧v=(.tup [])∧h'=hp h0 [o0,o1,o2,o3,o4] [some (.rows g 10 [[(.sl 4 (List.map Ac ((((s0_l.drop 1).drop 1).drop 1).drop 1))),(.int .i64 s0_end),w,w1,w2,w3,w4,w5,w6,v3]]),Ah v3 g7 8 (List.map Bc a_),some (.rows g2 1 [[(.int .i64 s2)]]),some (.rows g3 1 [[(.func (.func 204) [] [(.ptr o4 g4 0 0)])]]),some (.rows g4 1 [[(.ptr o0 g 0 0)]])]) h0 (Iw most s0_l s0_end l s2)):=by
 refine Bm (n:=39) 1 Tryz.func215 J (by decide) J J hI0 J fun ids he hI=>?_
 clear hI0
 obtain rfl:ix ids 0=o0:=he 0 rfl
 obtain rfl:ix ids 1=o1:=he 1 rfl
 obtain rfl:ix ids 2=o2:=he 2 rfl
 obtain rfl:ix ids 3=o3:=he 3 rfl
 obtain rfl:ix ids 4=o4:=he 4 rfl
 clear he
 refine Bn (Al (Iw.eq_1 _ _ _ _ _) ?_)
 refine Aj ?_
 refine Y<|Y<|O<|Ab 3 [0] [(11,v1)] ?_
 refine Aa (.I (l.length:Int)) J (A2 (Av.len vH Fg))<|Ab 2 [] [(14,(.bool ((l.length:Int)==most)))] ?_
 refine Z<|Dx (π:=Unit) (fun _=>I6 s0_l s0_end l s2) (fun _=>fun(fr:Nat→AV) (h:Ag)=>fr=A5 [(0,(.q ids 0 g)),(1,(.ptr (ix ids 0) g 0 9)),(3,(.func (.func 216) [] [(.q ids 2 g2),(.q ids 3 g3)]))]∧h=hp h0 ids [(some (.rows g 10 [[(.sl 4 (List.map Ac s0_l)),(.I s0_end),w,w1,w2,w3,w4,w5,w6,v1]])),(Ah v1 g1 8 (List.map Bc l)),(some (.rows g2 1 [[(.I s2)]])),(some (.rows g3 1 [[(.func (.func 204) [] [(.q ids 4 g4)])]])),(some (.rows g4 1 [[(.q ids 0 g)]])),none]) ?_ fun hJ=>?_
 ·rintro _ fr h ⟨rfl,rfl⟩
  refine Al (I6.eq_1 _ _ _ _)<|Y<|O<|Ab 5 [0] [(21,(.sl 4 (List.map Ac s0_l))),(17,(.q ids 0 g))] ?_
  refine Ee fun hs=>Aa (.sl 4 (List.map Ac (s0_l.drop 1))) J (Fr (N0 Ch C1 J hs))<|Ab 2 [] [(24,(.q ids 0 g))] ?_
  refine An (Aq (v:=(.sl 4 (List.map Ac (s0_l.drop 1)))) hI J J J J Ch J J J J J)<|Z<|Aj ?_
  refine Y<|O<|Ab 2 [] [(26,(.q ids 0 g)),(25,(.func (.func 216) [] [(.q ids 2 g2),(.q ids 3 g3)]))] ?_
  refine Ap [0] hI J J (Da (s0_l.drop 1) s0_end _ (ix ids 0) w w1 w2 w3 w4 w5 w6 v1 g (by exact hI.sub' J J)) J J J J J J (fun v _=>Ao (K:=5) (N:=1) Tryz.func215 hI) ?_
  rintro r1 _ _ _ ⟨rfl,rfl⟩
  refine A0 [0] hI J J J ?_
  refine Ar<|Ap [2,3,4,0] hI J J (V2 r1 s2 ((s0_l.drop 1).drop 1) s0_end _ (ix ids 2) (ix ids 3) (ix ids 4) (ix ids 0) g2 g3 g4 w w1 w2 w3 w4 w5 w6 v1 g (by exact hI.sub' J J)) J J J J J J (fun v _=>Ao (K:=5) (N:=1) Tryz.func215 hI) ?_
  rintro r2 _ _ _ ⟨rfl,rfl⟩
  refine A0 [2,3,4,0] hI J J J ?_
  refine Ar<|A8 (j:=5) hI J J J J D3 J fun g5=>An (Aq (v:=(.agg (Bc r2))) hI J J J J D3 J J J J J)<|Z<|Aj ?_
  refine Y<|O<|Aa (.q ids 0 g) J Ad<|Ap [0] hI J J (Di [59] (((s0_l.drop 1).drop 1).drop 1) s0_end _ (ix ids 0) w w1 w2 w3 w4 w5 w6 v1 g (by exact hI.sub' J J)) J J J J J J (fun v _=>Ao (K:=5) (N:=1) Tryz.func215 hI) ?_
  rintro _ _ _ _ ⟨rfl,rfl⟩
  refine A0 [0] hI J J J ?_
  refine Ar<|Z<|Aj ?_
  refine Ct Es [[],[],[1],[1,2],[],[4],[1,2,3,4,5],[0,0,1,2,3,4,5,6],[0,1,2,3,4,5,6,6,6,7]] [(false,0),(false,1),(false,2),(false,3),(false,4),(true,5),(true,6),(false,7),(true,8)] (by kernel_rfl)<|Af (.ptr (ix ids 0) g 0 9) J J Ad<|Af (.ptr (ix ids 0) g 0 9) J J Ad<|Af (.ptr (ix ids 0) g 0 9) J J (Br J)<|Af v1 J J (Au (A3 hI J J J Fg J))<|Af (.agg (Bc r2)) J J (Au (A3 hI J J J D3 J))<|Iv J J (fun _ _=>J) (fun K hK=>Mr (e:=Bc) (L:=[r2]) (st:=8) (rows:=[[(.I r2.Kind),(.str r2.C),(.str r2.A),(.I r2.Class),(.I r2.Airport),(.I r2.N),(.I r2.Hours.From),(.I r2.Hours.To)]]) Fg D3 J J J J J (.cons (RowSim.refl _) .nil) (fun x=>Q4 x) J J (hK _ _ (Ae J (Bt J (Au (A3 hI J J J Fg J)) (Bt J (Br J) (Bt J Ad (Bt J Ad Bp))))) ?_))
  clear hK K
  refine Kt fun hl=>Iv J J (fun _ _=>J) (fun K hK=>H4 (e:=Bc) (L:=l) (L2:=[r2]) (v:=v1) (g:=g1) (st:=8) (j:=1) hI J J J vH J (Gb J) Fg Fg J D3 J J J hl fun v2 g6 vH1=>hK _ _ (Ae J (Ae J (Ae J (Ae J (Bt J Ad Bp))))) ?_)
  clear hK K
  refine Af (.ptr (ix ids 0) g 0 9) J J (Br J)<|D7 J (fun _ _=>J) (fun K hK=>Co (G5 vH1 hI J J J J Fg J J J) (hK _ _ (Ae J (Ae J (Ae J (Ae J (Ae J (Ae J Bp)))))) ?_))
  clear hK K
  refine Ck<|Aj ?_
  exact Ci (K:=5) (N:=1) (a:=(l++[r2])) (vs:=[]) [some (.rows g 10 [[(.sl 4 (List.map Ac ((((s0_l.drop 1).drop 1).drop 1).drop 1))),(.I s0_end),w,w1,w2,w3,w4,w5,w6,v2]]),Ah v2 g6 8 (List.map Bc (l++[r2])),some (.rows g2 1 [[(.I s2)]]),some (.rows g3 1 [[(.func (.func 204) [] [(.q ids 4 g4)])]]),some (.rows g4 1 [[(.q ids 0 g)]])] Tryz.func215 hI J J J (.keep (.keep (.keep (.keep (.keep (.drop .nil)))))) (.same _) ⟨v2,g6,vH1,J,J⟩
 refine Bx J (fun hc=>?_) (fun hc=>?_)
 ·refine O<|Aa (.q ids 0 g) J Ad<|Ap [0] hI J J (Cn 2 s0_l s0_end _ (ix ids 0) w w1 w2 w3 w4 w5 w6 v1 g (by exact hI.sub' J J)) J J J J J J (fun v _=>Ao (K:=5) (N:=1) Tryz.func215 hI) ?_
  rintro _ _ _ _ ⟨rfl,rfl⟩
  refine A0 [0] hI J J J ?_
  refine Ar<|Z<|Bo (hJ () _ _ ⟨J,J⟩)
 refine Ax<|Bo (hJ () _ _ ⟨J,J⟩)
theorem U8 (kind:Int)(s0_l:List Token)(s0_end:Int)(l:List Rule)(h0:Ag)(o0:Nat)(o1:Nat)(o2:Nat)(w:AV)(w1:AV)(w2:AV)(w3:AV)(w4:AV)(w5:AV)(w6:AV)(g:Nat)(v1:AV)(g1:Nat)(g2:Nat)(vH:Av v1 o1 g1 l.length)(hI0:Ids h0 [o0,o1,o2] 3):K6 kind s0_l s0_end l≠.bad→Bq Tryz.prog 198 [(.ptr o0 g 0 0),(.int .i64 kind),(.func (.func 204) [] [(.ptr o2 g2 0 0)])] (hp h0 [o0,o1,o2] [some (.rows g 10 [[(.sl 4 (List.map Ac s0_l)),(.int .i64 s0_end),w,w1,w2,w3,w4,w5,w6,v1]]),Ah v1 g1 8 (List.map Bc l),some (.rows g2 1 [[(.ptr o0 g 0 0)]])]) (C5 (fun a_ v h' => ∃ (v3:AV),∃ (g6:Nat),Av v3 o1 g6 a_.length∧v=(.tup [])∧h'=hp h0 [o0,o1,o2] [some (.rows g 10 [[(.sl 4 (List.map Ac ((((s0_l.drop 1).drop 1).drop 1).drop 1))),(.int .i64 s0_end),w,w1,w2,w3,w4,w5,w6,v3]]),Ah v3 g6 8 (List.map Bc a_),some (.rows g2 1 [[(.ptr o0 g 0 0)]])]) h0 (K6 kind s0_l s0_end l)):=by
 refine Bm (n:=13) 2 Tryz.func198 J (by decide) J J hI0 J fun ids he hI=>?_
 clear hI0
 obtain rfl:ix ids 0=o0:=he 0 rfl
 obtain rfl:ix ids 1=o1:=he 1 rfl
 obtain rfl:ix ids 2=o2:=he 2 rfl
 clear he
 refine Bn (Al (K6.eq_1 _ _ _ _) ?_)
 refine Aj ?_
 refine Y<|O<|Cl (v:=(.I kind)) (j:=3) hI J J J J J J J fun g3=>Cl (v:=(.func (.func 204) [] [(.q ids 2 g2)])) (j:=4) hI J J J J J J J fun g4=>Z<|Aj ?_
 refine O<|Ab 6 [] [(11,(.func (.func 216) [] [(.q ids 3 g3),(.q ids 4 g4)])),(10,(.ptr (ix ids 0) g 0 9)),(6,(.q ids 0 g))] ?_
 refine Ap [0,1,3,4,2] hI J J (Xq 64 s0_l s0_end l kind _ (ix ids 0) (ix ids 1) (ix ids 3) (ix ids 4) (ix ids 2) w w1 w2 w3 w4 w5 w6 g v1 g1 g3 g4 g2 vH (by exact hI.sub' J J)) J J J J J J (fun v _=>Ao (K:=3) (N:=2) Tryz.func198 hI) ?_
 rintro r _ _ _ ⟨v2,g5,vH1,rfl,rfl⟩
 refine A0 [0,1,3,4,2] hI J J J ?_
 refine Ar<|Z<|Aj ?_
 exact Ci (K:=3) (N:=2) (a:=r) (vs:=[]) [some (.rows g 10 [[(.sl 4 (List.map Ac ((((s0_l.drop 1).drop 1).drop 1).drop 1))),(.I s0_end),w,w1,w2,w3,w4,w5,w6,v2]]),Ah v2 g5 8 (List.map Bc r),some (.rows g2 1 [[(.q ids 0 g)]])] Tryz.func198 hI J J J (.keep (.keep (.keep (.drop (.drop .nil))))) (.same _) ⟨v2,g5,vH1,J,J⟩
theorem U4 (s0_l:List Token)(s0_end:Int)(l:List Rule)(h0:Ag)(o0:Nat)(o1:Nat)(w:AV)(w1:AV)(w2:AV)(w3:AV)(w4:AV)(w5:AV)(w6:AV)(g:Nat)(v1:AV)(g1:Nat)(vH:Av v1 o1 g1 l.length)(hI0:Ids h0 [o0,o1] 2):Ig s0_l s0_end l≠.bad→Bq Tryz.prog 203 [(.ptr o0 g 0 0)] (hp h0 [o0,o1] [some (.rows g 10 [[(.sl 4 (List.map Ac s0_l)),(.int .i64 s0_end),w,w1,w2,w3,w4,w5,w6,v1]]),Ah v1 g1 8 (List.map Bc l)]) (C5 (fun a_ v h' => ∃ (v3:AV),∃ (g4:Nat),Av v3 o1 g4 a_.length∧v=(.tup [])∧h'=hp h0 [o0,o1] [some (.rows g 10 [[(.sl 4 (List.map Ac ((((s0_l.drop 1).drop 1).drop 1).drop 1))),(.int .i64 s0_end),w,w1,w2,w3,w4,w5,w6,v3]]),Ah v3 g4 8 (List.map Bc a_)]) h0 (Ig s0_l s0_end l)):=by
 refine Bm (n:=5) 1 Tryz.func203 J (by decide) J J hI0 J fun ids he hI=>?_
 clear hI0
 obtain rfl:ix ids 0=o0:=he 0 rfl
 obtain rfl:ix ids 1=o1:=he 1 rfl
 clear he
 refine Bn (Al (Ig.eq_1 _ _ _) ?_)
 refine Aj ?_
 refine Y<|O<|Cl (v:=(.q ids 0 g)) (j:=2) hI J J J J J J J fun g2=>Z<|Aj ?_
 refine O<|Ab 2 [2] [(3,(.func (.func 204) [] [(.q ids 2 g2)])),(2,(.q ids 0 g))] ?_
 refine Ap [0,1,2] hI J J (U8 3 s0_l s0_end l _ (ix ids 0) (ix ids 1) (ix ids 2) w w1 w2 w3 w4 w5 w6 g v1 g1 g2 vH (by exact hI.sub' J J)) J J J J J J (fun v _=>Ao (K:=2) (N:=1) Tryz.func203 hI) ?_
 rintro r _ _ _ ⟨v2,g3,vH1,rfl,rfl⟩
 refine A0 [0,1,2] hI J J J ?_
 refine Ar<|Z<|Aj ?_
 exact Ci (K:=2) (N:=1) (a:=r) (vs:=[]) [some (.rows g 10 [[(.sl 4 (List.map Ac ((((s0_l.drop 1).drop 1).drop 1).drop 1))),(.I s0_end),w,w1,w2,w3,w4,w5,w6,v2]]),Ah v2 g3 8 (List.map Bc r)] Tryz.func203 hI J J J (.keep (.keep (.drop .nil))) (.same _) ⟨v2,g3,vH1,J,J⟩
theorem Tu (s0_l:List Token)(s0_end:Int)(l:List Volume)(l1:List Sector)(l2:List Config)(l3:List Segment)(l4:List Route)(l5:List Airport)(l6:List Class)(l7:List Rule)(h0:Ag)(o0:Nat)(o1:Nat)(o2:Nat)(o3:Nat)(o4:Nat)(o5:Nat)(o6:Nat)(o7:Nat)(o8:Nat)(g:Nat)(v1:AV)(g1:Nat)(v2:AV)(g2:Nat)(v3:AV)(g3:Nat)(v4:AV)(g4:Nat)(v5:AV)(g5:Nat)(v6:AV)(g6:Nat)(v7:AV)(g7:Nat)(v8:AV)(g8:Nat)(vH:Av v1 o1 g1 l.length)(vH1:Av v2 o2 g2 l1.length)(vH2:Av v3 o3 g3 l2.length)(vH3:Av v4 o4 g4 l3.length)(vH4:Av v5 o5 g5 l4.length)(vH5:Av v6 o6 g6 l5.length)(vH6:Av v7 o7 g7 l6.length)(vH7:Av v8 o8 g8 l7.length)(hI0:Ids h0 [o0,o1,o2,o3,o4,o5,o6,o7,o8] 9):F7 s0_l s0_end l l1 l2 l3 l4 l5 l6 l7≠.bad→Bq Tryz.prog 21 [(.ptr o0 g 0 0)] (hp h0 [o0,o1,o2,o3,o4,o5,o6,o7,o8] [some (.rows g 10 [[(.sl 4 (List.map Ac s0_l)),(.int .i64 s0_end),v1,v2,v3,v4,v5,v6,v7,v8]]),Ah v1 g1 2 (List.map Aw l),Ah v2 g2 5 (List.map A9 l1),Ah v3 g3 3 (List.map Bj l2),Ah v4 g4 5 (List.map Be l3),Ah v5 g5 7 (List.map Bu l4),Ah v6 g6 2 (List.map Bb l5),Ah v7 g7 4 (List.map B4 l6),Ah v8 g8 8 (List.map Bc l7)]) (C5 (fun a_ v h' => ∃ (v20:AV),∃ (g20:Nat),∃ (v21:AV),∃ (g21:Nat),∃ (v22:AV),∃ (g22:Nat),∃ (v23:AV),∃ (g23:Nat),∃ (v24:AV),∃ (g24:Nat),∃ (v25:AV),∃ (g25:Nat),∃ (v26:AV),∃ (g26:Nat),∃ (v27:AV),∃ (g27:Nat),Av v20 o1 g20 a_.2.1.length∧Av v21 o2 g21 a_.2.2.1.length∧Av v22 o3 g22 a_.2.2.2.1.length∧Av v23 o4 g23 a_.2.2.2.2.1.length∧Av v24 o5 g24 a_.2.2.2.2.2.1.length∧Av v25 o6 g25 a_.2.2.2.2.2.2.1.length∧Av v26 o7 g26 a_.2.2.2.2.2.2.2.1.length∧Av v27 o8 g27 a_.2.2.2.2.2.2.2.2.length∧v=(.tup [])∧h'=hp h0 [o0,o1,o2,o3,o4,o5,o6,o7,o8] [some (.rows g 10 [[(.sl 4 (List.map Ac a_.1)),(.int .i64 s0_end),v20,v21,v22,v23,v24,v25,v26,v27]]),Ah v20 g20 2 (List.map Aw a_.2.1),Ah v21 g21 5 (List.map A9 a_.2.2.1),Ah v22 g22 3 (List.map Bj a_.2.2.2.1),Ah v23 g23 5 (List.map Be a_.2.2.2.2.1),Ah v24 g24 7 (List.map Bu a_.2.2.2.2.2.1),Ah v25 g25 2 (List.map Bb a_.2.2.2.2.2.2.1),Ah v26 g26 4 (List.map B4 a_.2.2.2.2.2.2.2.1),Ah v27 g27 8 (List.map Bc a_.2.2.2.2.2.2.2.2)]) h0 (F7 s0_l s0_end l l1 l2 l3 l4 l5 l6 l7)):=by
 refine Bm (n:=30) 0 Tryz.func21 J (by decide) J J hI0 J fun ids he hI=>?_
 clear hI0
 obtain rfl:ix ids 0=o0:=he 0 rfl
 obtain rfl:ix ids 1=o1:=he 1 rfl
 obtain rfl:ix ids 2=o2:=he 2 rfl
 obtain rfl:ix ids 3=o3:=he 3 rfl
 obtain rfl:ix ids 4=o4:=he 4 rfl
 obtain rfl:ix ids 5=o5:=he 5 rfl
 obtain rfl:ix ids 6=o6:=he 6 rfl
 obtain rfl:ix ids 7=o7:=he 7 rfl
 obtain rfl:ix ids 8=o8:=he 8 rfl
 clear he
 refine Bn (Al (F7.eq_1 _ _ _ _ _ _ _ _ _ _) ?_)
 refine Y<|Y<|O<|Ab 4 [0] [(7,(.sl 4 (List.map Ac s0_l)))] ?_
 refine Dv fun a hz hx1=>Aa (.cp (Ac a) 0) J (Bz (Dc Ch C1 J hz hx1))<|Ab 3 [] [(11,(.bool (a.Kind==1)))] ?_
 refine Z<|Dx (π:=Unit) (fun _=>Fl s0_l s0_end l l1 l2 l3 l4 l5 l6 l7) (fun _=>fun(fr:Nat→AV) (h:Ag)=>fr=A5 [(0,(.q ids 0 g))]∧h=hp h0 ids [(some (.rows g 10 [[(.sl 4 (List.map Ac s0_l)),(.I s0_end),v1,v2,v3,v4,v5,v6,v7,v8]])),(Ah v1 g1 2 (List.map Aw l)),(Ah v2 g2 5 (List.map A9 l1)),(Ah v3 g3 3 (List.map Bj l2)),(Ah v4 g4 5 (List.map Be l3)),(Ah v5 g5 7 (List.map Bu l4)),(Ah v6 g6 2 (List.map Bb l5)),(Ah v7 g7 4 (List.map B4 l6)),(Ah v8 g8 8 (List.map Bc l7))]) ?_ fun hJ=>?_
 ·rintro _ fr h ⟨rfl,rfl⟩
  refine Al (Fl.eq_1 _ _ _ _ _ _ _ _ _ _)<|O<|Aa (.q ids 0 g) J Ad<|A7 [(.q ids 0 g),(.I 80)] J J J J (CP.lend (Yl ({ fL:=s0_l,fEnd:=s0_end,fA:=({ Volumes:=l,Sectors:=l1,Configs:=l2,Segments:=l3,Routes:=l4,Airports:=l5,Classes:=l6,Rules:=l7 }:Airspace) }:T67) 80) (LF.lfz (.cons (.ptrL (hI.at J J) J J (.cons (.same _) (.cons (.same _) (.cons (D9 vH (hI.at J J) J (fun x=>Rm x)) (.cons (D9 vH1 (hI.at J J) J (fun x=>Qe x)) (.cons (D9 vH2 (hI.at J J) J (fun x=>S2 x)) (.cons (D9 vH3 (hI.at J J) J (fun x=>Rw x)) (.cons (D9 vH4 (hI.at J J) J (fun x=>Ut x)) (.cons (D9 vH5 (hI.at J J) J (fun x=>Qu x)) (.cons (D9 vH6 (hI.at J J) J (fun x=>Uq x)) (.cons (D9 vH7 (hI.at J J) J (fun x=>Q4 x)) .nil))))))))))) (.cons (.same _) .nil))) (fun _ _=>.tup0)) (fun v _=>Ao (K:=9) (N:=0) Tryz.func21 hI) fun _ _=>Z<|Ci (K:=9) (N:=0) (a:=(s0_l,l,l1,l2,l3,l4,l5,l6,l7)) (vs:=[]) [some (.rows g 10 [[(.sl 4 (List.map Ac s0_l)),(.I s0_end),v1,v2,v3,v4,v5,v6,v7,v8]]),Ah v1 g1 2 (List.map Aw l),Ah v2 g2 5 (List.map A9 l1),Ah v3 g3 3 (List.map Bj l2),Ah v4 g4 5 (List.map Be l3),Ah v5 g5 7 (List.map Bu l4),Ah v6 g6 2 (List.map Bb l5),Ah v7 g7 4 (List.map B4 l6),Ah v8 g8 8 (List.map Bc l7)] Tryz.func21 hI J J J (.keep (.keep (.keep (.keep (.keep (.keep (.keep (.keep (.keep .nil))))))))) (.same _) ⟨v1,g1,v2,g2,v3,g3,v4,g4,v5,g5,v6,g6,v7,g7,v8,g8,vH,vH1,vH2,vH3,vH4,vH5,vH6,vH7,J,J⟩
 refine Bx J (fun hc=>?_) (fun hc=>?_)
 ·refine Y<|Ct Es [[],[],[1],[1,2],[1,2,3],[1,2,3,4],[1,2,3,4,5],[1,2,3,4,5,6],[0,1,2,3,4,5,6,7],[0,1,2,3,4,5,6,7,8],[0,1,2,3,4,5,6,7,8,9],[0,1,2,3,4,5,6,7,8,9],[0,1,2,3,4,5,6,7,8,9,10,10],[0,1,2,3,4,5,6,7,8,9,10,11,11,12,12]] [(false,0),(false,1),(false,2),(false,3),(false,4),(false,5),(false,6),(false,7),(false,8),(false,9),(false,10),(false,11),(false,12),(false,13)] (by kernel_rfl)<|Af (.mapc (Ks Ph)) J J (Au (Aqe (b:=0) (c:=0) J R6 J))<|Af (.q ids 0 g) J J Ad<|Af (.q ids 0 g) J J (Br J)<|Af (.q ids 0 g) J J (Cb (B3 (c:=0) (off:=0) (i:=0) Z1 J Ch J))<|Af (.sl 4 (List.map Ac s0_l)) J J (Au (A3 hI J J J Ch J)) ?_
  refine Af (.cp (Ac a) 0) J J (Bz (Dc Ch C1 J hz hx1))<|Af (.cp (Ac a) 1) J J (Cb (Zo (c:=0) (off:=1) (i:=1) C1 J Cf J))<|Af (.str a.Text) J J (Au (C7 Cf J))<|Mh (fun hk=>?_) (fun hk=>?_)
  ·refine Af (.tup [(.func (.func 189) [] []),(.bool true)]) J J (Ow (P7 (es:=Ks Ph) R6 Cf J Sp hk J))<|Af (.tup [(.func (.func 189) [] []),(.bool true)]) J J Ad<|Af (.func (.func 189) [] []) J J (F8 J)<|Af (.bool true) J J (F8 J)<|Af (.func (.func 189) [] []) J J Ai<|Af (.bool true) J J Ai<|Ck ?_
   refine Y<|O<|Aa (.bool true) J Ad<|Z<|Kp true J<|Y<|O ?_
   refine Ab 2 [] [(26,(.q ids 0 g)),(25,(.func (.func 189) [] []))] ?_
   refine Ap [0,1,6] hI J J (Vp s0_l s0_end l l5 _ (ix ids 0) (ix ids 1) (ix ids 6) v2 v3 v4 v5 v7 v8 g v1 g1 v6 g6 vH vH5 (by exact hI.sub' J J)) J J J J J J (fun v _=>Ao (K:=9) (N:=0) Tryz.func21 hI) ?_
   rintro r _ _ _ ⟨v9,g9,vH8,rfl,rfl⟩
   refine A0 [0,1,6] hI J J J ?_
   refine Ar<|Z<|Aj ?_
   exact D4 (K:=9) (N:=0) (a:=(r.1,l,l1,l2,l3,l4,r.2,l6,l7)) (vs:=[]) [some (.rows g 10 [[(.sl 4 (List.map Ac r.1)),(.I s0_end),v1,v2,v3,v4,v5,v9,v7,v8]]),Ah v1 g1 2 (List.map Aw l),Ah v2 g2 5 (List.map A9 l1),Ah v3 g3 3 (List.map Bj l2),Ah v4 g4 5 (List.map Be l3),Ah v5 g5 7 (List.map Bu l4),Ah v9 g9 2 (List.map Bb r.2),Ah v7 g7 4 (List.map B4 l6),Ah v8 g8 8 (List.map Bc l7)] Tryz.func21 hI J J J (.keep (.keep (.keep (.keep (.keep (.keep (.keep (.keep (.keep .nil))))))))) (.same _) ⟨v1,g1,v2,g2,v3,g3,v4,g4,v5,g5,v9,g9,v7,g7,v8,g8,vH,vH1,vH2,vH3,vH4,vH8,vH6,vH7,J,J⟩
  refine Mh (fun hk1=>?_) (fun hk1=>?_)
  ·refine Af (.tup [(.func (.func 194) [] []),(.bool true)]) J J (Ow (P7 (es:=Ks Ph) R6 Cf J Sp hk1 J))<|Af (.tup [(.func (.func 194) [] []),(.bool true)]) J J Ad<|Af (.func (.func 194) [] []) J J (F8 J)<|Af (.bool true) J J (F8 J)<|Af (.func (.func 194) [] []) J J Ai<|Af (.bool true) J J Ai<|Ck ?_
   refine Y<|O<|Aa (.bool true) J Ad<|Z<|Kp true J<|Y<|O ?_
   refine Ab 2 [] [(26,(.q ids 0 g)),(25,(.func (.func 194) [] []))] ?_
   refine Ap [0,7] hI J J (V5 s0_l s0_end l6 _ (ix ids 0) (ix ids 7) v1 v2 v3 v4 v5 v6 v8 g v7 g7 vH6 (by exact hI.sub' J J)) J J J J J J (fun v _=>Ao (K:=9) (N:=0) Tryz.func21 hI) ?_
   rintro r1 _ _ _ ⟨v10,g10,vH9,rfl,rfl⟩
   refine A0 [0,7] hI J J J ?_
   refine Ar<|Z<|Aj ?_
   exact D4 (K:=9) (N:=0) (a:=((((((((((s0_l.drop 1).drop 1).drop 1).drop 1).drop 1).drop 1).drop 1).drop 1).drop 1),l,l1,l2,l3,l4,l5,r1,l7)) (vs:=[]) [some (.rows g 10 [[(.sl 4 (List.map Ac (((((((((s0_l.drop 1).drop 1).drop 1).drop 1).drop 1).drop 1).drop 1).drop 1).drop 1))),(.I s0_end),v1,v2,v3,v4,v5,v6,v10,v8]]),Ah v1 g1 2 (List.map Aw l),Ah v2 g2 5 (List.map A9 l1),Ah v3 g3 3 (List.map Bj l2),Ah v4 g4 5 (List.map Be l3),Ah v5 g5 7 (List.map Bu l4),Ah v6 g6 2 (List.map Bb l5),Ah v10 g10 4 (List.map B4 r1),Ah v8 g8 8 (List.map Bc l7)] Tryz.func21 hI J J J (.keep (.keep (.keep (.keep (.keep (.keep (.keep (.keep (.keep .nil))))))))) (.same _) ⟨v1,g1,v2,g2,v3,g3,v4,g4,v5,g5,v6,g6,v10,g10,v8,g8,vH,vH1,vH2,vH3,vH4,vH5,vH9,vH7,J,J⟩
  refine Mh (fun hk2=>?_) (fun hk2=>?_)
  ·refine Af (.tup [(.func (.func 180) [] []),(.bool true)]) J J (Ow (P7 (es:=Ks Ph) R6 Cf J Sp hk2 J))<|Af (.tup [(.func (.func 180) [] []),(.bool true)]) J J Ad<|Af (.func (.func 180) [] []) J J (F8 J)<|Af (.bool true) J J (F8 J)<|Af (.func (.func 180) [] []) J J Ai<|Af (.bool true) J J Ai<|Ck ?_
   refine Y<|O<|Aa (.bool true) J Ad<|Z<|Kp true J<|Y<|O ?_
   refine Ab 2 [] [(26,(.q ids 0 g)),(25,(.func (.func 180) [] []))] ?_
   refine Ap [0,1,3] hI J J (V6 s0_l s0_end l l2 _ (ix ids 0) (ix ids 1) (ix ids 3) v2 v4 v5 v6 v7 v8 g v1 g1 v3 g3 vH vH2 (by exact hI.sub' J J)) J J J J J J (fun v _=>Ao (K:=9) (N:=0) Tryz.func21 hI) ?_
   rintro r2 _ _ _ ⟨v11,g11,vH10,rfl,rfl⟩
   refine A0 [0,1,3] hI J J J ?_
   refine Ar<|Z<|Aj ?_
   exact D4 (K:=9) (N:=0) (a:=(r2.1,l,l1,r2.2,l3,l4,l5,l6,l7)) (vs:=[]) [some (.rows g 10 [[(.sl 4 (List.map Ac r2.1)),(.I s0_end),v1,v2,v11,v4,v5,v6,v7,v8]]),Ah v1 g1 2 (List.map Aw l),Ah v2 g2 5 (List.map A9 l1),Ah v11 g11 3 (List.map Bj r2.2),Ah v4 g4 5 (List.map Be l3),Ah v5 g5 7 (List.map Bu l4),Ah v6 g6 2 (List.map Bb l5),Ah v7 g7 4 (List.map B4 l6),Ah v8 g8 8 (List.map Bc l7)] Tryz.func21 hI J J J (.keep (.keep (.keep (.keep (.keep (.keep (.keep (.keep (.keep .nil))))))))) (.same _) ⟨v1,g1,v2,g2,v11,g11,v4,g4,v5,g5,v6,g6,v7,g7,v8,g8,vH,vH1,vH10,vH3,vH4,vH5,vH6,vH7,J,J⟩
  refine Mh (fun hk3=>?_) (fun hk3=>?_)
  ·refine Af (.tup [(.func (.func 197) [] []),(.bool true)]) J J (Ow (P7 (es:=Ks Ph) R6 Cf J Sp hk3 J))<|Af (.tup [(.func (.func 197) [] []),(.bool true)]) J J Ad<|Af (.func (.func 197) [] []) J J (F8 J)<|Af (.bool true) J J (F8 J)<|Af (.func (.func 197) [] []) J J Ai<|Af (.bool true) J J Ai<|Ck ?_
   refine Y<|O<|Aa (.bool true) J Ad<|Z<|Kp true J<|Y<|O ?_
   refine Ab 2 [] [(26,(.q ids 0 g)),(25,(.func (.func 197) [] []))] ?_
   refine Ap [0,8] hI J J (V9 s0_l s0_end l7 _ (ix ids 0) (ix ids 8) v1 v2 v3 v4 v5 v6 v7 g v8 g8 vH7 (by exact hI.sub' J J)) J J J J J J (fun v _=>Ao (K:=9) (N:=0) Tryz.func21 hI) ?_
   rintro r3 _ _ _ ⟨v12,g12,vH11,rfl,rfl⟩
   refine A0 [0,8] hI J J J ?_
   refine Ar<|Z<|Aj ?_
   exact D4 (K:=9) (N:=0) (a:=(((((((((s0_l.drop 1).drop 1).drop 1).drop 1).drop 1).drop 1).drop 1).drop 1),l,l1,l2,l3,l4,l5,l6,r3)) (vs:=[]) [some (.rows g 10 [[(.sl 4 (List.map Ac ((((((((s0_l.drop 1).drop 1).drop 1).drop 1).drop 1).drop 1).drop 1).drop 1))),(.I s0_end),v1,v2,v3,v4,v5,v6,v7,v12]]),Ah v1 g1 2 (List.map Aw l),Ah v2 g2 5 (List.map A9 l1),Ah v3 g3 3 (List.map Bj l2),Ah v4 g4 5 (List.map Be l3),Ah v5 g5 7 (List.map Bu l4),Ah v6 g6 2 (List.map Bb l5),Ah v7 g7 4 (List.map B4 l6),Ah v12 g12 8 (List.map Bc r3)] Tryz.func21 hI J J J (.keep (.keep (.keep (.keep (.keep (.keep (.keep (.keep (.keep .nil))))))))) (.same _) ⟨v1,g1,v2,g2,v3,g3,v4,g4,v5,g5,v6,g6,v7,g7,v12,g12,vH,vH1,vH2,vH3,vH4,vH5,vH6,vH11,J,J⟩
  refine Mh (fun hk4=>?_) (fun hk4=>?_)
  ·refine Af (.tup [(.func (.func 201) [] []),(.bool true)]) J J (Ow (P7 (es:=Ks Ph) R6 Cf J Sp hk4 J))<|Af (.tup [(.func (.func 201) [] []),(.bool true)]) J J Ad<|Af (.func (.func 201) [] []) J J (F8 J)<|Af (.bool true) J J (F8 J)<|Af (.func (.func 201) [] []) J J Ai<|Af (.bool true) J J Ai<|Ck ?_
   refine Y<|O<|Aa (.bool true) J Ad<|Z<|Kp true J<|Y<|O ?_
   refine Ab 2 [] [(26,(.q ids 0 g)),(25,(.func (.func 201) [] []))] ?_
   refine Ap [0,8] hI J J (Vx s0_l s0_end l7 _ (ix ids 0) (ix ids 8) v1 v2 v3 v4 v5 v6 v7 g v8 g8 vH7 (by exact hI.sub' J J)) J J J J J J (fun v _=>Ao (K:=9) (N:=0) Tryz.func21 hI) ?_
   rintro r4 _ _ _ ⟨v13,g13,vH12,rfl,rfl⟩
   refine A0 [0,8] hI J J J ?_
   refine Ar<|Z<|Aj ?_
   exact D4 (K:=9) (N:=0) (a:=((((s0_l.drop 1).drop 1).drop 1),l,l1,l2,l3,l4,l5,l6,r4)) (vs:=[]) [some (.rows g 10 [[(.sl 4 (List.map Ac (((s0_l.drop 1).drop 1).drop 1))),(.I s0_end),v1,v2,v3,v4,v5,v6,v7,v13]]),Ah v1 g1 2 (List.map Aw l),Ah v2 g2 5 (List.map A9 l1),Ah v3 g3 3 (List.map Bj l2),Ah v4 g4 5 (List.map Be l3),Ah v5 g5 7 (List.map Bu l4),Ah v6 g6 2 (List.map Bb l5),Ah v7 g7 4 (List.map B4 l6),Ah v13 g13 8 (List.map Bc r4)] Tryz.func21 hI J J J (.keep (.keep (.keep (.keep (.keep (.keep (.keep (.keep (.keep .nil))))))))) (.same _) ⟨v1,g1,v2,g2,v3,g3,v4,g4,v5,g5,v6,g6,v7,g7,v13,g13,vH,vH1,vH2,vH3,vH4,vH5,vH6,vH12,J,J⟩
  refine Mh (fun hk5=>?_) (fun hk5=>?_)
  ·refine Af (.tup [(.func (.func 205) [] []),(.bool true)]) J J (Ow (P7 (es:=Ks Ph) R6 Cf J Sp hk5 J))<|Af (.tup [(.func (.func 205) [] []),(.bool true)]) J J Ad<|Af (.func (.func 205) [] []) J J (F8 J)<|Af (.bool true) J J (F8 J)<|Af (.func (.func 205) [] []) J J Ai<|Af (.bool true) J J Ai<|Ck ?_
   refine Y<|O<|Aa (.bool true) J Ad<|Z<|Kp true J<|Y<|O ?_
   refine Ab 2 [] [(26,(.q ids 0 g)),(25,(.func (.func 205) [] []))] ?_
   refine Ap [0,8] hI J J (Uy s0_l s0_end l7 _ (ix ids 0) (ix ids 8) v1 v2 v3 v4 v5 v6 v7 g v8 g8 vH7 (by exact hI.sub' J J)) J J J J J J (fun v _=>Ao (K:=9) (N:=0) Tryz.func21 hI) ?_
   rintro r5 _ _ _ ⟨v14,g14,vH13,rfl,rfl⟩
   refine A0 [0,8] hI J J J ?_
   refine Ar<|Z<|Aj ?_
   exact D4 (K:=9) (N:=0) (a:=(((((s0_l.drop 1).drop 1).drop 1).drop 1),l,l1,l2,l3,l4,l5,l6,r5)) (vs:=[]) [some (.rows g 10 [[(.sl 4 (List.map Ac ((((s0_l.drop 1).drop 1).drop 1).drop 1))),(.I s0_end),v1,v2,v3,v4,v5,v6,v7,v14]]),Ah v1 g1 2 (List.map Aw l),Ah v2 g2 5 (List.map A9 l1),Ah v3 g3 3 (List.map Bj l2),Ah v4 g4 5 (List.map Be l3),Ah v5 g5 7 (List.map Bu l4),Ah v6 g6 2 (List.map Bb l5),Ah v7 g7 4 (List.map B4 l6),Ah v14 g14 8 (List.map Bc r5)] Tryz.func21 hI J J J (.keep (.keep (.keep (.keep (.keep (.keep (.keep (.keep (.keep .nil))))))))) (.same _) ⟨v1,g1,v2,g2,v3,g3,v4,g4,v5,g5,v6,g6,v7,g7,v14,g14,vH,vH1,vH2,vH3,vH4,vH5,vH6,vH13,J,J⟩
  refine Mh (fun hk6=>?_) (fun hk6=>?_)
  ·refine Af (.tup [(.func (.func 186) [] []),(.bool true)]) J J (Ow (P7 (es:=Ks Ph) R6 Cf J Sp hk6 J))<|Af (.tup [(.func (.func 186) [] []),(.bool true)]) J J Ad<|Af (.func (.func 186) [] []) J J (F8 J)<|Af (.bool true) J J (F8 J)<|Af (.func (.func 186) [] []) J J Ai<|Af (.bool true) J J Ai<|Ck ?_
   refine Y<|O<|Aa (.bool true) J Ad<|Z<|Kp true J<|Y<|O ?_
   refine Ab 2 [] [(26,(.q ids 0 g)),(25,(.func (.func 186) [] []))] ?_
   refine Ap [0,1,5] hI J J (Vu s0_l s0_end l l4 _ (ix ids 0) (ix ids 1) (ix ids 5) v2 v3 v4 v6 v7 v8 g v1 g1 v5 g5 vH vH4 (by exact hI.sub' J J)) J J J J J J (fun v _=>Ao (K:=9) (N:=0) Tryz.func21 hI) ?_
   rintro r6 _ _ _ ⟨v15,g15,vH14,rfl,rfl⟩
   refine A0 [0,1,5] hI J J J ?_
   refine Ar<|Z<|Aj ?_
   exact D4 (K:=9) (N:=0) (a:=(r6.1,l,l1,l2,l3,r6.2,l5,l6,l7)) (vs:=[]) [some (.rows g 10 [[(.sl 4 (List.map Ac r6.1)),(.I s0_end),v1,v2,v3,v4,v15,v6,v7,v8]]),Ah v1 g1 2 (List.map Aw l),Ah v2 g2 5 (List.map A9 l1),Ah v3 g3 3 (List.map Bj l2),Ah v4 g4 5 (List.map Be l3),Ah v15 g15 7 (List.map Bu r6.2),Ah v6 g6 2 (List.map Bb l5),Ah v7 g7 4 (List.map B4 l6),Ah v8 g8 8 (List.map Bc l7)] Tryz.func21 hI J J J (.keep (.keep (.keep (.keep (.keep (.keep (.keep (.keep (.keep .nil))))))))) (.same _) ⟨v1,g1,v2,g2,v3,g3,v4,g4,v15,g15,v6,g6,v7,g7,v8,g8,vH,vH1,vH2,vH3,vH14,vH5,vH6,vH7,J,J⟩
  refine Mh (fun hk7=>?_) (fun hk7=>?_)
  ·refine Af (.tup [(.func (.func 172) [] []),(.bool true)]) J J (Ow (P7 (es:=Ks Ph) R6 Cf J Sp hk7 J))<|Af (.tup [(.func (.func 172) [] []),(.bool true)]) J J Ad<|Af (.func (.func 172) [] []) J J (F8 J)<|Af (.bool true) J J (F8 J)<|Af (.func (.func 172) [] []) J J Ai<|Af (.bool true) J J Ai<|Ck ?_
   refine Y<|O<|Aa (.bool true) J Ad<|Z<|Kp true J<|Y<|O ?_
   refine Ab 2 [] [(26,(.q ids 0 g)),(25,(.func (.func 172) [] []))] ?_
   refine Ap [0,1,2] hI J J (Vm s0_l s0_end l l1 _ (ix ids 0) (ix ids 1) (ix ids 2) v3 v4 v5 v6 v7 v8 g v1 g1 v2 g2 vH vH1 (by exact hI.sub' J J)) J J J J J J (fun v _=>Ao (K:=9) (N:=0) Tryz.func21 hI) ?_
   rintro r7 _ _ _ ⟨v16,g16,vH15,rfl,rfl⟩
   refine A0 [0,1,2] hI J J J ?_
   refine Ar<|Z<|Aj ?_
   exact D4 (K:=9) (N:=0) (a:=(r7.1,l,r7.2,l2,l3,l4,l5,l6,l7)) (vs:=[]) [some (.rows g 10 [[(.sl 4 (List.map Ac r7.1)),(.I s0_end),v1,v16,v3,v4,v5,v6,v7,v8]]),Ah v1 g1 2 (List.map Aw l),Ah v16 g16 5 (List.map A9 r7.2),Ah v3 g3 3 (List.map Bj l2),Ah v4 g4 5 (List.map Be l3),Ah v5 g5 7 (List.map Bu l4),Ah v6 g6 2 (List.map Bb l5),Ah v7 g7 4 (List.map B4 l6),Ah v8 g8 8 (List.map Bc l7)] Tryz.func21 hI J J J (.keep (.keep (.keep (.keep (.keep (.keep (.keep (.keep (.keep .nil))))))))) (.same _) ⟨v1,g1,v16,g16,v3,g3,v4,g4,v5,g5,v6,g6,v7,g7,v8,g8,vH,vH15,vH2,vH3,vH4,vH5,vH6,vH7,J,J⟩
  refine Mh (fun hk8=>?_) (fun hk8=>?_)
  ·refine Af (.tup [(.func (.func 183) [] []),(.bool true)]) J J (Ow (P7 (es:=Ks Ph) R6 Cf J Sp hk8 J))<|Af (.tup [(.func (.func 183) [] []),(.bool true)]) J J Ad<|Af (.func (.func 183) [] []) J J (F8 J)<|Af (.bool true) J J (F8 J)<|Af (.func (.func 183) [] []) J J Ai<|Af (.bool true) J J Ai<|Ck ?_
   refine Y<|O<|Aa (.bool true) J Ad<|Z<|Kp true J<|Y<|O ?_
   refine Ab 2 [] [(26,(.q ids 0 g)),(25,(.func (.func 183) [] []))] ?_
   refine Ap [0,1,4] hI J J (Vz s0_l s0_end l l3 _ (ix ids 0) (ix ids 1) (ix ids 4) v2 v3 v5 v6 v7 v8 g v1 g1 v4 g4 vH vH3 (by exact hI.sub' J J)) J J J J J J (fun v _=>Ao (K:=9) (N:=0) Tryz.func21 hI) ?_
   rintro r8 _ _ _ ⟨v17,g17,vH16,rfl,rfl⟩
   refine A0 [0,1,4] hI J J J ?_
   refine Ar<|Z<|Aj ?_
   exact D4 (K:=9) (N:=0) (a:=(r8.1,l,l1,l2,r8.2,l4,l5,l6,l7)) (vs:=[]) [some (.rows g 10 [[(.sl 4 (List.map Ac r8.1)),(.I s0_end),v1,v2,v3,v17,v5,v6,v7,v8]]),Ah v1 g1 2 (List.map Aw l),Ah v2 g2 5 (List.map A9 l1),Ah v3 g3 3 (List.map Bj l2),Ah v17 g17 5 (List.map Be r8.2),Ah v5 g5 7 (List.map Bu l4),Ah v6 g6 2 (List.map Bb l5),Ah v7 g7 4 (List.map B4 l6),Ah v8 g8 8 (List.map Bc l7)] Tryz.func21 hI J J J (.keep (.keep (.keep (.keep (.keep (.keep (.keep (.keep (.keep .nil))))))))) (.same _) ⟨v1,g1,v2,g2,v3,g3,v17,g17,v5,g5,v6,g6,v7,g7,v8,g8,vH,vH1,vH2,vH16,vH4,vH5,vH6,vH7,J,J⟩
  refine Mh (fun hk9=>?_) (fun hk9=>?_)
  ·refine Af (.tup [(.func (.func 168) [] []),(.bool true)]) J J (Ow (P7 (es:=Ks Ph) R6 Cf J Sp hk9 J))<|Af (.tup [(.func (.func 168) [] []),(.bool true)]) J J Ad<|Af (.func (.func 168) [] []) J J (F8 J)<|Af (.bool true) J J (F8 J)<|Af (.func (.func 168) [] []) J J Ai<|Af (.bool true) J J Ai<|Ck ?_
   refine Y<|O<|Aa (.bool true) J Ad<|Z<|Kp true J<|Y<|O ?_
   refine Ab 2 [] [(26,(.q ids 0 g)),(25,(.func (.func 168) [] []))] ?_
   refine Ap [0,1] hI J J (Vo s0_l s0_end l _ (ix ids 0) (ix ids 1) v2 v3 v4 v5 v6 v7 v8 g v1 g1 vH (by exact hI.sub' J J)) J J J J J J (fun v _=>Ao (K:=9) (N:=0) Tryz.func21 hI) ?_
   rintro r9 _ _ _ ⟨v18,g18,vH17,rfl,rfl⟩
   refine A0 [0,1] hI J J J ?_
   refine Ar<|Z<|Aj ?_
   exact D4 (K:=9) (N:=0) (a:=(r9.1,r9.2,l1,l2,l3,l4,l5,l6,l7)) (vs:=[]) [some (.rows g 10 [[(.sl 4 (List.map Ac r9.1)),(.I s0_end),v18,v2,v3,v4,v5,v6,v7,v8]]),Ah v18 g18 2 (List.map Aw r9.2),Ah v2 g2 5 (List.map A9 l1),Ah v3 g3 3 (List.map Bj l2),Ah v4 g4 5 (List.map Be l3),Ah v5 g5 7 (List.map Bu l4),Ah v6 g6 2 (List.map Bb l5),Ah v7 g7 4 (List.map B4 l6),Ah v8 g8 8 (List.map Bc l7)] Tryz.func21 hI J J J (.keep (.keep (.keep (.keep (.keep (.keep (.keep (.keep (.keep .nil))))))))) (.same _) ⟨v18,g18,v2,g2,v3,g3,v4,g4,v5,g5,v6,g6,v7,g7,v8,g8,vH17,vH1,vH2,vH3,vH4,vH5,vH6,vH7,J,J⟩
  refine Mh (fun hk10=>?_) (fun hk10=>?_)
  ·refine Af (.tup [(.func (.func 203) [] []),(.bool true)]) J J (Ow (P7 (es:=Ks Ph) R6 Cf J Sp hk10 J))<|Af (.tup [(.func (.func 203) [] []),(.bool true)]) J J Ad<|Af (.func (.func 203) [] []) J J (F8 J)<|Af (.bool true) J J (F8 J)<|Af (.func (.func 203) [] []) J J Ai<|Af (.bool true) J J Ai<|Ck ?_
   refine Y<|O<|Aa (.bool true) J Ad<|Z<|Kp true J<|Y<|O ?_
   refine Ab 2 [] [(26,(.q ids 0 g)),(25,(.func (.func 203) [] []))] ?_
   refine Ap [0,8] hI J J (U4 s0_l s0_end l7 _ (ix ids 0) (ix ids 8) v1 v2 v3 v4 v5 v6 v7 g v8 g8 vH7 (by exact hI.sub' J J)) J J J J J J (fun v _=>Ao (K:=9) (N:=0) Tryz.func21 hI) ?_
   rintro r10 _ _ _ ⟨v19,g19,vH18,rfl,rfl⟩
   refine A0 [0,8] hI J J J ?_
   refine Ar<|Z<|Aj ?_
   exact D4 (K:=9) (N:=0) (a:=(((((s0_l.drop 1).drop 1).drop 1).drop 1),l,l1,l2,l3,l4,l5,l6,r10)) (vs:=[]) [some (.rows g 10 [[(.sl 4 (List.map Ac ((((s0_l.drop 1).drop 1).drop 1).drop 1))),(.I s0_end),v1,v2,v3,v4,v5,v6,v7,v19]]),Ah v1 g1 2 (List.map Aw l),Ah v2 g2 5 (List.map A9 l1),Ah v3 g3 3 (List.map Bj l2),Ah v4 g4 5 (List.map Be l3),Ah v5 g5 7 (List.map Bu l4),Ah v6 g6 2 (List.map Bb l5),Ah v7 g7 4 (List.map B4 l6),Ah v19 g19 8 (List.map Bc r10)] Tryz.func21 hI J J J (.keep (.keep (.keep (.keep (.keep (.keep (.keep (.keep (.keep .nil))))))))) (.same _) ⟨v1,g1,v2,g2,v3,g3,v4,g4,v5,g5,v6,g6,v7,g7,v19,g19,vH,vH1,vH2,vH3,vH4,vH5,vH6,vH18,J,J⟩
  refine Af (.tup [.nilf,(.bool false)]) J J (Ow (Alk (es:=Ks Ph) R6 Cf J Sp J (Tc hk (Tc hk1 (Tc hk2 (Tc hk3 (Tc hk4 (Tc hk5 (Tc hk6 (Tc hk7 (Tc hk8 (Tc hk9 (Tc hk10 J)))))))))))))<|Af (.tup [.nilf,(.bool false)]) J J Ad<|Af .nilf J J (F8 J)<|Af (.bool false) J J (F8 J)<|Af .nilf J J Ai<|Af (.bool false) J J Ai<|Ck ?_
  refine Y<|O<|Aa (.bool false) J Ad<|Z<|Kp false J<|Ax<|Bo (hJ () _ _ ⟨J,J⟩)
 refine Ax<|Bo (hJ () _ _ ⟨J,J⟩)
theorem Aae (a0:AV)(a1:AV)(a2:AV)(h:Ag):Qc Tryz.prog 20 [a0,a1,a2] .ret h (Aa0 (fun _:Unit=>h) .ret (.ok ())):=by
 refine Acd (n:=22) Tryz.func20 J (by decide) J J ?_ ⟨(),J⟩
 refine Y<|O<|Ah3 J<|Aa .nili J Ai<|Z<|Y<|O ?_
 refine Aa .nili J Ad<|Aa (.bool false) J (Bh J J (Ad8 Ajd))<|Z<|Kp false J<|Ax<|Abp Tryz.func20 J J J
theorem Xl (n:Int)(n2:Int)(h0:Ag)(ids:List Nat)(hI:Ids h0 ids 3)(g0_:Nat)(g1_:Nat)(g2_:Nat)(r0_:List AV)(r1_:List AV)(r2_:List AV)(hr0_:r0_.length=8)(hr1_:r1_.length=1)(hr2_:r2_.length=1):(∃ a,Gx n n2=.ok a)→Qc Tryz.prog 20 [(.ptr (ix ids 0) g0_ 0 0),(.ptr (ix ids 1) g1_ 0 0),(.ptr (ix ids 2) g2_ 0 0)] (.pan (.iface 64 (.agg [.int .i64 n,.int .i64 n2])) false) (hp h0 ids [some (.rows g0_ 8 [r0_]),some (.rows g1_ 1 [r1_]),some (.rows g2_ 1 [r2_])]) (Aa0 (fun p=>hp h0 ids [some (.rows g0_ 8 [[.emp,.emp,.emp,.emp,.emp,.emp,.emp,.emp]]),some (.rows g1_ 1 [[(.int .i64 p.1)]]),some (.rows g2_ 1 [[(.int .i64 p.2)]])]) (.pan (.iface 64 (.agg [.int .i64 n,.int .i64 n2])) true) (Gx n n2)):=by
 have hI0_:=hI
 clear hI
 refine Akq (n:=22) (ysf:=fun(p:(Int×Int))=>[some (.rows g0_ 8 [[.emp,.emp,.emp,.emp,.emp,.emp,.emp,.emp]]),some (.rows g1_ 1 [[(.I p.1)]]),some (.rows g2_ 1 [[(.I p.2)]])]) 1 Tryz.func20 J (by decide) J J hI0_ J (fun _=>J) fun ids2 he hI=>?_
 rw [← he 0 rfl,← he 1 rfl,← he 2 rfl]
 clear he hI0_
 revert hI
 generalize ids2=ids
 intro hI
 refine Bn (Al (Gx.eq_1 _ _) ?_)
 refine Aj ?_
 refine Y<|O<|Air J<|Aa (.iface 64 (.agg [(.I n),(.I n2)])) J Ai<|Z<|Y<|O ?_
 refine Aa (.iface 64 (.agg [(.I n),(.I n2)])) J Ad<|Aa (.bool true) J (Bh J J (Acq Ajd))<|Z<|Kp true J<|Y<|O<|Aa (.iface 64 (.agg [(.I n),(.I n2)])) J Ad ?_
 refine Aa (.tup [(.agg [(.I n),(.I n2)]),(.bool true)]) J (Ajc (Apo Aau (by decide)))<|Ab 3 [] [(13,(.bool true)),(12,(.agg [(.I n),(.I n2)]))] ?_
 refine A8 (j:=3) hI J J J J Aau J fun g=>An (Aq (v:=(.agg [(.I n),(.I n2)])) hI J J J J Aau J J J J J)<|Aa (.bool true) J Ai<|Z<|Aj ?_
 refine Y<|Y<|O<|Ab 2 [] [(15,(.bool false))] ?_
 refine Z<|Kp false J<|Ax<|Ct Es [[],[],[1],[],[3],[0,0],[0,1,2,2,5,5],[0,1,2,3,4,4,5,6,6]] [(false,0),(false,1),(false,2),(false,3),(false,4),(true,5),(true,6),(true,7)] (by kernel_rfl)<|Af (.agg [.emp,.emp,.emp,.emp,.emp,.emp,.emp,.emp]) J J (Hy (Oq Dl Ad2 J))<|Af (.q ids 3 g) J J (Cb (B3 (c:=0) (off:=0) (i:=0) Aau J C2 J))<|Af (.I n) J J (Au (A3 hI J J J C2 J)) ?_
 refine Af (.ptr (ix ids 3) g 0 1) J J (Cb (B3 (c:=0) (off:=1) (i:=1) Aau J K5 J))<|Af (.I n2) J J (Au (A3 hI J J J K5 J))<|D7 J (fun _ _=>J) (fun K hK=>Co (Wq (v:=(.agg [.emp,.emp,.emp,.emp,.emp,.emp,.emp,.emp])) hI J J J Dl J J J hr0_ J) (hK _ _ (Bt J (Au (A3 hI J J J K5 J)) (Bt J (Cb (B3 (c:=0) (off:=1) (i:=1) Aau J K5 J)) (Bt J (Au (A3 hI J J J C2 J)) (Bt J (Cb (B3 (c:=0) (off:=0) (i:=0) Aau J C2 J)) (Ae J Bp))))) ?_))
 clear hK K
 refine D7 J (fun _ _=>J) (fun K hK=>Co (Wq (v:=(.I n)) hI J J J C2 J J J hr1_ J) (hK _ _ (Bt J (Au (A3 hI J J J K5 J)) (Bt J (Cb (B3 (c:=0) (off:=1) (i:=1) Aau J K5 J)) (Ae J (Ae J (Ae J Bp))))) ?_))
 clear hK K
 refine D7 J (fun _ _=>J) (fun K hK=>Co (Wq (v:=(.I n2)) hI J J J K5 J J J hr2_ J) (hK _ _ (Ae J (Ae J (Ae J (Ae J (Ae J Bp))))) ?_))
 clear hK K
 refine Ck<|Aj ?_
 refine Eb [(some (.rows g0_ 8 [[.emp,.emp,.emp,.emp,.emp,.emp,.emp,.emp]])),(some (.rows g1_ 1 [[(.I n)]])),(some (.rows g2_ 1 [[(.I n2)]])),none] hI J (.keep (.keep (.keep (.drop .nil))))<|Abp (a:=(n,n2)) Tryz.func20 J J J
theorem Nl (src:Ay):CP Tryz.prog 10 [(.str src)] (J5 src) (fun(p:(Airspace×Int×Int))=>AV.tup [(.agg (A6 p.1)),(.int .i64 p.2.1),(.int .i64 p.2.2)]):=by
 show CP _ _ _ ((R5 src).catch' (O3 64 .i64 .i64 (fun n n2=>(Gx n n2).bind fun p=>.ok (({ Volumes:=[],Sectors:=[],Configs:=[],Segments:=[],Routes:=[],Airports:=[],Classes:=[],Rules:=[] }:Airspace),p.1,p.2)) (fun _=>.bad))) _
 refine Ae8 (n:=36) 12 Tryz.func10 J (by decide) J J fun h0 ids hI=>?_
 have hU : ∀ (v:PV) (fr:Nat→AV) (xs:List (Option AO)) (g0_:Nat) (r0_:List AV) (g1_:Nat) (r1_:List AV) (g2_:Nat) (r2_:List AV) (hl_:xs.length=12) (hr0_:r0_.length=8) (hr1_:r1_.length=1) (hr2_:r2_.length=1) (hy_:xs.take 3=[some (.rows g0_ 8 [r0_]),some (.rows g1_ 1 [r1_]),some (.rows g2_ 1 [r2_])]) (hq2_:fr 2=.q ids 0 g0_) (hq3_:fr 3=.q ids 1 g1_) (hq4_:fr 4=.q ids 2 g2_),WU Tryz.prog 10 36 false (Q9 (fun(p:(Airspace×Int×Int))=>AV.tup [(.agg (A6 p.1)),(.I p.2.1),(.I p.2.2)]) h0 (O3 64 .i64 .i64 (fun n n2=>(Gx n n2).bind fun p=>.ok (({ Volumes:=[],Sectors:=[],Configs:=[],Segments:=[],Routes:=[],Airports:=[],Classes:=[],Rules:=[] }:Airspace),p.1,p.2)) (fun _=>.bad))) (.pan v) (.pan v.av false) fr [⟨20,[.q ids 0 g0_,.q ids 1 g1_,.q ids 2 g2_]⟩] (hp h0 ids xs) .ret:=by
  intro v fr xs g0_ r0_ g1_ r1_ g2_ r2_ hl_ hr0_ hr1_ hr2_ hy_ hq2_ hq3_ hq4_
  refine Ap9 (t:=64) (k1:=.i64) (k2:=.i64) J (fun n n2 hv=>?_) (fun hne64=>?_)
  ·subst hv
   exact Agg (Hc:=Gx n n2) (fin:=fun p=>(({ Volumes:=[],Sectors:=[],Configs:=[],Segments:=[],Routes:=[],Airports:=[],Classes:=[],Rules:=[] }:Airspace),p.1,p.2)) (c:=3) (cells:=fun p=>[some (.rows g0_ 8 [[.emp,.emp,.emp,.emp,.emp,.emp,.emp,.emp]]),some (.rows g1_ 1 [[(.I p.1)]]),some (.rows g2_ 1 [[(.I p.2)]])]) (vs:=fun p=>[(.agg [.emp,.emp,.emp,.emp,.emp,.emp,.emp,.emp]),(.I p.1),(.I p.2)]) Tryz.func10 hI hl_ J hy_ (by first | (rw [Ae7]; done) | (rw [Ae7]; rfl)) (fun hx=>by have:=Xl n n2 h0 (ids.take 3) (hI.take J) g0_ g1_ g2_ r0_ r1_ r2_ hr0_ hr1_ hr2_ hx; simp only [Ox (c:=3) (j:=0) J,Ox (c:=3) (j:=1) J,Ox (c:=3) (j:=2) J] at this; exact this) (by intro w; simp [Gx]) (fun p=>(R4 hq2_ (Wr (hI.take J) (Ox J) J J J Dl J) (R4 hq3_ (Wr (hI.take J) (Ox J) J J J C2 J) (R4 hq4_ (Wr (hI.take J) (Ox J) J J J K5 J) C8)))) (fun p=>(.tupL (.cons (.aggL (.cons (.emp _) (.cons (.emp _) (.cons (.emp _) (.cons (.emp _) (.cons (.emp _) (.cons (.emp _) (.cons (.emp _) (.cons (.emp _) .nil))))))))) (.cons (.same _) (.cons (.same _) .nil)))))
  exact Amy (by rw [Aj7 hne64])
 refine Bn (Al (R5.eq_1 _) ?_)
 refine Y<|O<|A8 (j:=0) hI J J J J Dl J fun g=>A8 (j:=1) hI J J J J C2 J fun g1=>A8 (j:=2) hI J J J J K5 J fun g2=>Z<|Aj ?_
 refine Y<|O<|Aa (.str src) J Ad<|Aqc fun hne=>A7 [(.str src)] J J J J ((Aix src) _) (fun v hv=>absurd hv (hne v)) fun r _=>Ab 5 [] [(5,(.sl 4 (List.map Ac r.1))),(12,(.I r.2.2)),(11,(.I r.2.1))] ?_
 refine An (Aq (v:=(.I r.2.1)) hI J J J J C2 J J J J J)<|An (Aq (v:=(.I r.2.2)) hI J J J J K5 J J J J J)<|Z<|Aj ?_
 refine Y<|Y<|O<|Ab 2 [2] [(14,(.bool (r.2.2 != 0)))] ?_
 refine Z<|Bx J (fun hc=>?_) (fun hc=>?_)
 ·refine Y<|Ct Es [[],[],[],[0,0],[0,1,1,3,3],[0,1,2,2,3,4,4]] [(false,0),(false,1),(false,2),(true,3),(true,4),(true,5)] (by kernel_rfl)<|Af (.agg [.emp,.emp,.emp,.emp,.emp,.emp,.emp,.emp]) J J (Au (A3 hI J J J Dl J))<|Af (.I r.2.1) J J (Au (A3 hI J J J C2 J))<|Af (.I r.2.2) J J (Au (A3 hI J J J K5 J))<|D7 J (fun _ _=>J) (fun K hK=>Co (Aq (v:=(.agg [.emp,.emp,.emp,.emp,.emp,.emp,.emp,.emp])) hI J J J J Dl J J J J J) (hK _ _ (Bt J (Au (A3 hI J J J K5 J)) (Bt J (Au (A3 hI J J J C2 J)) (Ae J Bp))) ?_))
  clear hK K
  refine D7 J (fun _ _=>J) (fun K hK=>Co (Aq (v:=(.I r.2.1)) hI J J J J C2 J J J J J) (hK _ _ (Bt J (Au (A3 hI J J J K5 J)) (Ae J (Ae J Bp))) ?_))
  clear hK K
  refine D7 J (fun _ _=>J) (fun K hK=>Co (Aq (v:=(.I r.2.2)) hI J J J J K5 J J J J J) (hK _ _ (Ae J (Ae J (Ae J Bp))) ?_))
  clear hK K
  refine Ck<|Ago (a:=(({ Volumes:=[],Sectors:=[],Configs:=[],Segments:=[],Routes:=[],Airports:=[],Classes:=[],Rules:=[] }:Airspace),r.2.1,r.2.2)) (vs:=[(.agg [.emp,.emp,.emp,.emp,.emp,.emp,.emp,.emp]),(.I r.2.1),(.I r.2.2)]) Tryz.func10 hI (Cc (A3 hI J J J Dl J) (Cc (A3 hI J J J C2 J) (Cc (A3 hI J J J K5 J) C8))) (.tupL (.cons (.aggL (.cons (.emp _) (.cons (.emp _) (.cons (.emp _) (.cons (.emp _) (.cons (.emp _) (.cons (.emp _) (.cons (.emp _) (.cons (.emp _) .nil))))))))) (.cons (.same _) (.cons (.same _) .nil))))
 refine Ax<|Y<|O<|Aa (.func (.func 20) [] [(.q ids 0 g),(.q ids 1 g1),(.q ids 2 g2)]) J R9<|Af8 J J J ?_
 refine Z<|Y<|O<|Ab 2 [] [(20,(.str src)),(19,(.sl 4 (List.map Ac r.1)))] ?_
 refine Aa (.I (src.length:Int)) J (A2 (Fe Cf))<|Aa (.agg [(.sl 4 (List.map Ac r.1)),(.I (src.length:Int)),.emp,.emp,.emp,.emp,.emp,.emp,.emp,.emp]) J (Hy (Oq Z1 Aqq J))<|Cl (v:=(.agg [(.sl 4 (List.map Ac r.1)),(.I (src.length:Int)),.emp,.emp,.emp,.emp,.emp,.emp,.emp,.emp])) (j:=3) hI J J J J J J J fun g3=>Aa (.q ids 3 g3) J Ai<|Z<|Aj ?_
 refine Y<|Dx (Xb fun fL3 l8 l9 l10 l11 l12 l13 l14 l15=>Q8 fL3 l8 l9 l10 l11 l12 l13 l14 l15) (Xb fun fL3 l8 l9 l10 l11 l12 l13 l14 l15=>fun(fr:Nat→AV) (h:Ag) => ∃ (v16:AV),∃ (g20:Nat),∃ (v17:AV),∃ (g21:Nat),∃ (v18:AV),∃ (g22:Nat),∃ (v19:AV),∃ (g23:Nat),∃ (v20:AV),∃ (g24:Nat),∃ (v21:AV),∃ (g25:Nat),∃ (v22:AV),∃ (g26:Nat),∃ (v23:AV),∃ (g27:Nat),Av v16 (ix ids 4) g20 l8.length∧Av v17 (ix ids 5) g21 l9.length∧Av v18 (ix ids 6) g22 l10.length∧Av v19 (ix ids 7) g23 l11.length∧Av v20 (ix ids 8) g24 l12.length∧Av v21 (ix ids 9) g25 l13.length∧Av v22 (ix ids 10) g26 l14.length∧Av v23 (ix ids 11) g27 l15.length∧fr=A5 [(2,(.q ids 0 g)),(3,(.q ids 1 g1)),(4,(.q ids 2 g2)),(6,(.q ids 3 g3))]∧h=hp h0 ids [(some (.rows g 8 [[.emp,.emp,.emp,.emp,.emp,.emp,.emp,.emp]])),(some (.rows g1 1 [[(.I r.2.1)]])),(some (.rows g2 1 [[(.I r.2.2)]])),(some (.rows g3 10 [[(.sl 4 (List.map Ac fL3)),(.I (src.length:Int)),v23,v21,v18,v22,v20,v16,v17,v19]])),(Ah v16 g20 2 (List.map Bb l8)),(Ah v17 g21 4 (List.map B4 l9)),(Ah v18 g22 3 (List.map Bj l10)),(Ah v19 g23 8 (List.map Bc l11)),(Ah v20 g24 7 (List.map Bu l12)),(Ah v21 g25 5 (List.map A9 l13)),(Ah v22 g26 5 (List.map Be l14)),(Ah v23 g27 2 (List.map Aw l15))]) ?_ fun hJ=>?_
 ·rintro⟨fL3,l8,l9,l10,l11,l12,l13,l14,l15⟩ fr h ⟨v16,g20,v17,g21,v18,g22,v19,g23,v20,g24,v21,g25,v22,g26,v23,g27,vH16,vH17,vH18,vH19,vH20,vH21,vH22,vH23,rfl,rfl⟩
  refine Al (Q8.eq_1 _ _ _ _ _ _ _ _ _)<|Y<|O<|Ab 4 [3] [(35,(.agg [v23,v21,v18,v22,v20,v16,v17,v19]))] ?_
  refine An (Aq (v:=(.agg [v23,v21,v18,v22,v20,v16,v17,v19])) hI J J J J Dl J J J J (Bs (Av.flat vH23) (Bs (Av.flat vH21) (Bs (Av.flat vH18) (Bs (Av.flat vH22) (Bs (Av.flat vH20) (Bs (Av.flat vH16) (Bs (Av.flat vH17) (Bs (Av.flat vH19) Pe)))))))))<|An (Aq (v:=(.I 0)) hI J J J J C2 J J J J J)<|An (Aq (v:=(.I 0)) hI J J J J K5 J J J J J)<|Z<|Aj ?_
  exact Aij (a:=(({ Volumes:=l15,Sectors:=l13,Configs:=l10,Segments:=l14,Routes:=l12,Airports:=l8,Classes:=l9,Rules:=l11 }:Airspace),0,0)) (vs:=[(.agg [v23,v21,v18,v22,v20,v16,v17,v19]),(.I 0),(.I 0)]) Tryz.func10 hI (Aae _ _ _ _) (Cc (A3 hI J J J Dl J) (Cc (A3 hI J J J C2 J) (Cc (A3 hI J J J K5 J) C8))) (.tupL (.cons (.aggL (.cons (D9 vH23 (hI.at J J) (hI.out J) (fun x=>Rm x)) (.cons (D9 vH21 (hI.at J J) (hI.out J) (fun x=>Qe x)) (.cons (D9 vH18 (hI.at J J) (hI.out J) (fun x=>S2 x)) (.cons (D9 vH22 (hI.at J J) (hI.out J) (fun x=>Rw x)) (.cons (D9 vH20 (hI.at J J) (hI.out J) (fun x=>Ut x)) (.cons (D9 vH16 (hI.at J J) (hI.out J) (fun x=>Qu x)) (.cons (D9 vH17 (hI.at J J) (hI.out J) (fun x=>Uq x)) (.cons (D9 vH19 (hI.at J J) (hI.out J) (fun x=>Q4 x)) .nil))))))))) (.cons (.same _) (.cons (.same _) .nil))))
 refine Ba<|D6 [(2,(.q ids 0 g)),(3,(.q ids 1 g1)),(4,(.q ids 2 g2)),(6,(.q ids 3 g3))] (FI J)<|Lo (P:=Tryz.prog) (Xb fun fL l l1 l2 l3 l4 l5 l6 l7=>Js src fL l l1 l2 l3 l4 l5 l6 l7) ((Xb fun fL3 l8 l9 l10 l11 l12 l13 l14 l15=>Q8 fL3 l8 l9 l10 l11 l12 l13 l14 l15):((List Token)×(List Airport)×(List Class)×(List Config)×(List Rule)×(List Route)×(List Sector)×(List Segment)×(List Volume))→R (Airspace×Int×Int)) (Xb fun fL l l1 l2 l3 l4 l5 l6 l7=>fun(fr:Nat→AV) (h:Ag) => ∃ (v:AV),∃ (g4:Nat),∃ (v1:AV),∃ (g5:Nat),∃ (v2:AV),∃ (g6:Nat),∃ (v3:AV),∃ (g7:Nat),∃ (v4:AV),∃ (g8:Nat),∃ (v5:AV),∃ (g9:Nat),∃ (v6:AV),∃ (g10:Nat),∃ (v7:AV),∃ (g11:Nat),Av v (ix ids 4) g4 l.length∧Av v1 (ix ids 5) g5 l1.length∧Av v2 (ix ids 6) g6 l2.length∧Av v3 (ix ids 7) g7 l3.length∧Av v4 (ix ids 8) g8 l4.length∧Av v5 (ix ids 9) g9 l5.length∧Av v6 (ix ids 10) g10 l6.length∧Av v7 (ix ids 11) g11 l7.length∧fr=A5 [(2,(.q ids 0 g)),(3,(.q ids 1 g1)),(4,(.q ids 2 g2)),(6,(.q ids 3 g3))]∧h=hp h0 ids [(some (.rows g 8 [[.emp,.emp,.emp,.emp,.emp,.emp,.emp,.emp]])),(some (.rows g1 1 [[(.I r.2.1)]])),(some (.rows g2 1 [[(.I r.2.2)]])),(some (.rows g3 10 [[(.sl 4 (List.map Ac fL)),(.I (src.length:Int)),v7,v5,v2,v6,v4,v,v1,v3]])),(Ah v g4 2 (List.map Bb l)),(Ah v1 g5 4 (List.map B4 l1)),(Ah v2 g6 3 (List.map Bj l2)),(Ah v3 g7 8 (List.map Bc l3)),(Ah v4 g8 7 (List.map Bu l4)),(Ah v5 g9 5 (List.map A9 l5)),(Ah v6 g10 5 (List.map Be l6)),(Ah v7 g11 2 (List.map Aw l7))]) (r.1,[],[],[],[],[],[],[],[]) ?_ ?_
 ·exact⟨.emp,0,.emp,0,.emp,0,.emp,0,.emp,0,.emp,0,.emp,0,.emp,0,.nil,.nil,.nil,.nil,.nil,.nil,.nil,.nil,J,J⟩
 rintro vW hW ⟨fL,l,l1,l2,l3,l4,l5,l6,l7⟩ fr h ⟨v,g4,v1,g5,v2,g6,v3,g7,v4,g8,v5,g9,v6,g10,v7,g11,vH,vH1,vH2,vH3,vH4,vH5,vH6,vH7,rfl,rfl⟩
 refine Al (m':=Js src fL l l1 l2 l3 l4 l5 l6 l7) J (Al (Js.eq_1 _ _ _ _ _ _ _ _ _ _) ?_)
 refine Y<|Y<|O<|Ab 4 [3] [(27,(.sl 4 (List.map Ac fL)))] ?_
 refine Aa (.I (fL.length:Int)) J (A2 (Bk Ch))<|Aa (.bool (decide ((fL.length:Int) > 0))) J (Bh J J J)<|Z<|Na J (fun hc1=>?_) (fun hc1=>?_)
 ·refine Ax<|Ba<|O<|Aa (.q ids 3 g3) J Ad<|Ap [3,11,9,6,10,8,4,5,7] hI J J (Tu fL (src.length:Int) l7 l5 l2 l6 l4 l l1 l3 _ (ix ids 3) (ix ids 11) (ix ids 9) (ix ids 6) (ix ids 10) (ix ids 8) (ix ids 4) (ix ids 5) (ix ids 7) g3 v7 g11 v5 g9 v2 g6 v6 g10 v4 g8 v g4 v1 g5 v3 g7 vH7 vH5 vH2 vH6 vH4 vH vH1 vH3 (by exact hI.sub' J J)) J J J J J J (fun v _=>hU v _ _ _ _ _ _ _ _ J J J J J J J J) ?_
  rintro r1 _ _ _ ⟨v8,g12,v9,g13,v10,g14,v11,g15,v12,g16,v13,g17,v14,g18,v15,g19,vH8,vH9,vH10,vH11,vH12,vH13,vH14,vH15,rfl,rfl⟩
  refine A0 [3,11,9,6,10,8,4,5,7] hI J J J ?_
  refine Ar<|Z<|Aj ?_
  refine Bi<|Bo (G7 (hW (r1.1,r1.2.2.2.2.2.2.1,r1.2.2.2.2.2.2.2.1,r1.2.2.2.1,r1.2.2.2.2.2.2.2.2,r1.2.2.2.2.2.1,r1.2.2.1,r1.2.2.2.2.1,r1.2.1) _ _ ⟨v13,g17,v14,g18,v10,g14,v15,g19,v12,g16,v9,g13,v11,g15,v8,g12,vH13,vH14,vH10,vH15,vH12,vH9,vH11,vH8,J,J⟩))
 refine Cy J<|Kq<|Bo (hJ (fL,l,l1,l2,l3,l4,l5,l6,l7) _ _ ⟨v,g4,v1,g5,v2,g6,v3,g7,v4,g8,v5,g9,v6,g10,v7,g11,vH,vH1,vH2,vH3,vH4,vH5,vH6,vH7,J,J⟩)
theorem Mw (ok:Bool)(t:Token)(s0_bad:Bool)(l:List Token)(h0:Ag)(o0:Nat)(o1:Nat)(g:Nat)(v1:AV)(g1:Nat)(vH:Av v1 o1 g1 l.length)(hI0:Ids h0 [o0,o1] 2):H2 ok t s0_bad l≠.bad→Bq Tryz.prog 99 [(.ptr o0 g 0 0),(.bool ok),(.agg (Ac t))] (hp h0 [o0,o1] [some (.rows g 2 [[v1,(.bool s0_bad)]]),Ah v1 g1 4 (List.map Ac l)]) (C5 (fun a_ v h' => ∃ (v3:AV),∃ (g4:Nat),Av v3 o1 g4 a_.length∧v=(.tup [])∧h'=hp h0 [o0,o1] [some (.rows g 2 [[v3,(.bool (s0_bad||(!ok)))]]),Ah v3 g4 4 (List.map Ac a_)]) h0 (H2 ok t s0_bad l)):=by
 refine Bm (n:=27) 1 Tryz.func99 J (by decide) J J hI0 J fun ids he hI=>?_
 clear hI0
 obtain rfl:ix ids 0=o0:=he 0 rfl
 obtain rfl:ix ids 1=o1:=he 1 rfl
 clear he
 refine Bn (Al (H2.eq_1 _ _ _ _) ?_)
 refine Aj ?_
 refine Y<|O<|Cl (v:=(.agg (Ac t))) (j:=2) hI J J J J J J J fun g2=>Z<|Aj ?_
 refine Y<|O<|Ab 6 [0] [(11,(.bool s0_bad)),(6,(.q ids 0 g))] ?_
 refine B2 3 [(0,(.q ids 0 g)),(5,(.q ids 2 g2)),(6,(.q ids 0 g)),(14,(.bool (s0_bad||(!ok))))] ?_ fun hJ=>Bw s0_bad (fun hb1=>?_) (fun hb1=>?_)
 ·refine Ab 2 [] [(16,(.ptr (ix ids 0) g 0 1))] ?_
  refine An (Aq (v:=(.bool (s0_bad||(!ok)))) hI J J J J Q3 J J J J J)<|Z<|Aj ?_
  refine Ct Es [[],[],[1],[1,2],[1,2,3],[],[5],[1,2,3,4,5,6],[0,0,1,2,3,4,5,6,7],[0,1,2,3,4,5,6,7,8],[0,1,2,3,4,5,6,7,8,9]] [(false,0),(false,1),(false,2),(false,3),(false,4),(false,5),(true,6),(true,7),(false,8),(false,9),(true,10)] (by kernel_rfl)<|Af (.q ids 0 g) J J Ad<|Af (.q ids 0 g) J J Ad<|Af (.q ids 0 g) J J (Br J)<|Af (.q ids 0 g) J J (Cb (B3 (c:=0) (off:=0) (i:=0) Ye J Ch J))<|Af v1 J J (Au (A3 hI J J J Ch J))<|Af (.agg (Ac t)) J J (Au (A3 hI J J J C1 J)) ?_
  refine Iv J J (fun _ _=>J) (fun K hK=>Mr (e:=Ac) (L:=[t]) (st:=4) (rows:=[[(.I t.Kind),(.str t.Text),(.I t.N),(.I t.At)]]) Ch C1 J J J J J (.cons (RowSim.refl _) .nil) (fun x=>Mq x) J J (hK _ _ (Ae J (Bt J (Au (A3 hI J J J Ch J)) (Bt J (Cb (B3 (c:=0) (off:=0) (i:=0) Ye J Ch J)) (Bt J (Br J) (Bt J Ad (Bt J Ad Bp)))))) ?_))
  clear hK K
  refine Kt fun hl=>Iv J J (fun _ _=>J) (fun K hK=>H4 (e:=Ac) (L:=l) (L2:=[t]) (v:=v1) (g:=g1) (st:=4) (j:=1) hI J J J vH J (Gb J) Ch Ch J C1 J J J hl fun v2 g3 vH1=>hK _ _ (Ae J (Ae J (Ae J (Ae J (Ae J (Bt J Ad Bp)))))) ?_)
  clear hK K
  refine Af (.q ids 0 g) J J (Br J)<|Af (.q ids 0 g) J J (Cb (B3 (c:=0) (off:=0) (i:=0) Ye J Ch J))<|D7 J (fun _ _=>J) (fun K hK=>Co (G5 vH1 hI J J J J Ch J J J) (hK _ _ (Ae J (Ae J (Ae J (Ae J (Ae J (Ae J (Ae J (Ae J Bp)))))))) ?_))
  clear hK K
  refine Ck<|Aj ?_
  exact Ci (K:=2) (N:=1) (a:=(l++[t])) (vs:=[]) [some (.rows g 2 [[v2,(.bool (s0_bad||(!ok)))]]),Ah v2 g3 4 (List.map Ac (l++[t]))] Tryz.func99 hI J J J (.keep (.keep (.drop .nil))) (.same _) ⟨v2,g3,vH1,J,J⟩
 ·refine Az (t:=11) hb1 J<|Ab 3 [] [(14,(.bool true))] ?_
  exact Bf hJ (.cons J (.cons J (.cons J (.cons (E6 hb1) .nil))))
 refine Az (t:=11) hb1 J<|Ab 3 [] [(14,(.bool (!ok)))] ?_
 exact Bf hJ (.cons J (.cons J (.cons J (.cons (E5 hb1) .nil))))
theorem Dm (s:Ay)(s0_bad:Bool)(l:List Token)(h0:Ag)(o0:Nat)(o1:Nat)(g:Nat)(v1:AV)(g1:Nat)(vH:Av v1 o1 g1 l.length)(hI0:Ids h0 [o0,o1] 2):De s s0_bad l≠.bad→Bq Tryz.prog 30 [(.ptr o0 g 0 0),(.str s)] (hp h0 [o0,o1] [some (.rows g 2 [[v1,(.bool s0_bad)]]),Ah v1 g1 4 (List.map Ac l)]) (C5 (fun a_ v h' => ∃ (v3:AV),∃ (g3:Nat),Av v3 o1 g3 a_.2.length∧v=(.tup [])∧h'=hp h0 [o0,o1] [some (.rows g 2 [[v3,(.bool a_.1)]]),Ah v3 g3 4 (List.map Ac a_.2)]) h0 (De s s0_bad l)):=by
 refine Bm (n:=10) 0 Tryz.func30 J (by decide) J J hI0 J fun ids he hI=>?_
 clear hI0
 obtain rfl:ix ids 0=o0:=he 0 rfl
 obtain rfl:ix ids 1=o1:=he 1 rfl
 clear he
 refine Bn (Al (De.eq_1 _ _ _) ?_)
 refine O<|Ab 2 [] [(5,(.str s)),(4,(.q ids 0 g))] ?_
 refine A7 [(.str s)] J J J J ((Ab0 s) _) (fun v _=>Ao (K:=2) (N:=0) Tryz.func30 hI) fun r _=>Ab 2 [] [(8,(.agg [(.I 1),(.str s),(.I 0),(.I 0)]))] ?_
 refine Ap [0,1] hI J J (Mw r ({ Kind:=1,Text:=s,N:=0,At:=0 }:Token) s0_bad l _ (ix ids 0) (ix ids 1) g v1 g1 vH (by exact hI.sub' J J)) J J J J J J (fun v _=>Ao (K:=2) (N:=0) Tryz.func30 hI) ?_
 rintro r1 _ _ _ ⟨v2,g2,vH1,rfl,rfl⟩
 refine A0 [0,1] hI J J J ?_
 refine Ar<|Z<|Aj ?_
 exact Ci (K:=2) (N:=0) (a:=((s0_bad||(!r)),r1)) (vs:=[]) [some (.rows g 2 [[v2,(.bool (s0_bad||(!r)))]]),Ah v2 g2 4 (List.map Ac r1)] Tryz.func30 hI J J J (.keep (.keep .nil)) (.same _) ⟨v2,g2,vH1,J,J⟩
theorem B6 (l:List Ay)(s0_bad:Bool)(l1:List Token)(h0:Ag)(o0:Nat)(o1:Nat)(g:Nat)(v1:AV)(g1:Nat)(vH:Av v1 o1 g1 l1.length)(hI0:Ids h0 [o0,o1] 2):B8 l s0_bad l1≠.bad→Bq Tryz.prog 36 [(.ptr o0 g 0 0),(.sl 1 (List.map rS l))] (hp h0 [o0,o1] [some (.rows g 2 [[v1,(.bool s0_bad)]]),Ah v1 g1 4 (List.map Ac l1)]) (C5 (fun a_ v h' => ∃ (v4:AV),∃ (g4:Nat),Av v4 o1 g4 a_.2.length∧v=(.tup [])∧h'=hp h0 [o0,o1] [some (.rows g 2 [[v4,(.bool a_.1)]]),Ah v4 g4 4 (List.map Ac a_.2)]) h0 (B8 l s0_bad l1)):=by
 refine Bm (n:=17) 0 Tryz.func36 J (by decide) J J hI0 J fun ids he hI=>?_
 clear hI0
 obtain rfl:ix ids 0=o0:=he 0 rfl
 obtain rfl:ix ids 1=o1:=he 1 rfl
 clear he
 refine Bn (Al (B8.eq_1 _ _ _) ?_)
 refine Y<|O<|Aa (.sl 1 (List.map rS l)) J Ad<|Aa (.I (l.length:Int)) J (A2 (Bk D0))<|Aa (.I 0) J Ad<|Z<|Ba ?_
 refine D6 [(0,(.q ids 0 g)),(6,(.sl 1 (List.map rS l))),(7,(.I (l.length:Int))),(8,(.I 0))] (FI J)<|Ko (P:=Tryz.prog) l (fun _ a=>C4 fun fBad l2=>Ld a fBad l2) (((C4 fun fBad l2=>.ok (fBad,l2))):(Bool×(List Token))→R (Bool×(List Token))) (fun j=>C4 fun fBad l2=>fun(fr:Nat→AV) (h:Ag) => ∃ (v2:AV),∃ (g2:Nat),Av v2 (ix ids 1) g2 l2.length∧fr=A5 [(0,(.q ids 0 g)),(6,(.sl 1 (List.map rS l))),(7,(.I (l.length:Int))),(8,(.I (j:Int)))]∧h=hp h0 ids [(some (.rows g 2 [[v2,(.bool fBad)]])),(Ah v2 g2 4 (List.map Ac l2))]) (s0_bad,l1) ?_ ?_ ?_
 ·exact⟨v1,g1,vH,J,J⟩
 ·rintro j a ha W hW ⟨fBad,l2⟩ fr h ⟨v2,g2,vH1,rfl,rfl⟩
  refine Al (m':=Ld a fBad l2) J (Al (Ld.eq_1 _ _ _) ?_)
  refine Y<|O<|Aa (.bool (decide ((j:Int)<(l.length:Int)))) J (Bh J J J)<|Z<|Y<|Ev (t:=6) (L:=l) J fun hlim=>Dg J (Int.ofNat_lt.2 (Bg ha)) ?_
  refine Ax<|Y<|Ba<|Y<|O<|Aa (.cp [(.str a)] 0) J (Bz (Ea D0 Cf J ha))<|Ab 2 [] [(5,(.str a))] ?_
  refine Z<|O<|Ab 3 [] [(14,(.agg [(.I 1),(.str a),(.I 0),(.I 0)])),(12,(.q ids 0 g))] ?_
  refine Ap [0,1] hI J J (Mw true ({ Kind:=1,Text:=a,N:=0,At:=0 }:Token) fBad l2 _ (ix ids 0) (ix ids 1) g v2 g2 vH1 (by exact hI.sub' J J)) J J J J J J (fun v _=>Ao (K:=2) (N:=0) Tryz.func36 hI) ?_
  rintro r _ _ _ ⟨v3,g3,vH2,rfl,rfl⟩
  refine A0 [0,1] hI J J J ?_
  refine Ar<|Z<|Aj ?_
  refine Bi<|O<|Ab 2 [] [(8,(.I (IntKind.wrap .i64 ((j:Int)+1))))] ?_
  refine Z<|Bo (Um (hW ((fBad||(!true)),r) _ _ ⟨v3,g3,vH2,J,J⟩)) (.cons J (.cons J (.cons J (.cons (Eg (Bg ha) hlim) .nil))))
 rintro⟨fBad,l2⟩ fr h ⟨v2,g2,vH1,rfl,rfl⟩
 refine Al (Py _ _ _)<|Y<|O<|Aa (.bool (decide ((l.length:Int)<(l.length:Int)))) J (Bh J J J)<|Z<|Y<|Df J (Int.lt_irrefl _) ?_
 refine Cy J<|Ci (K:=2) (N:=0) (a:=(fBad,l2)) (vs:=[]) [some (.rows g 2 [[v2,(.bool fBad)]]),Ah v2 g2 4 (List.map Ac l2)] Tryz.func36 hI J J J (.keep (.keep .nil)) (.same _) ⟨v2,g2,vH1,J,J⟩
theorem Dr (l:List Ay)(s0_bad:Bool)(l1:List Token)(h0:Ag)(o0:Nat)(o1:Nat)(g:Nat)(v1:AV)(g1:Nat)(vH:Av v1 o1 g1 l1.length)(hI0:Ids h0 [o0,o1] 2):Dj l s0_bad l1≠.bad→Bq Tryz.prog 34 [(.ptr o0 g 0 0),(.sl 1 (List.map rS l))] (hp h0 [o0,o1] [some (.rows g 2 [[v1,(.bool s0_bad)]]),Ah v1 g1 4 (List.map Ac l1)]) (C5 (fun a_ v h' => ∃ (v4:AV),∃ (g4:Nat),Av v4 o1 g4 a_.2.length∧v=(.tup [])∧h'=hp h0 [o0,o1] [some (.rows g 2 [[v4,(.bool a_.1)]]),Ah v4 g4 4 (List.map Ac a_.2)]) h0 (Dj l s0_bad l1)):=by
 refine Bm (n:=17) 0 Tryz.func34 J (by decide) J J hI0 J fun ids he hI=>?_
 clear hI0
 obtain rfl:ix ids 0=o0:=he 0 rfl
 obtain rfl:ix ids 1=o1:=he 1 rfl
 clear he
 refine Bn (Al (Dj.eq_1 _ _ _) ?_)
 refine Y<|O<|Aa (.sl 1 (List.map rS l)) J Ad<|Aa (.I (l.length:Int)) J (A2 (Bk D0))<|Aa (.I 0) J Ad<|Z<|Ba ?_
 refine D6 [(0,(.q ids 0 g)),(6,(.sl 1 (List.map rS l))),(7,(.I (l.length:Int))),(8,(.I 0))] (FI J)<|Ko (P:=Tryz.prog) l (fun _ a=>C4 fun fBad l2=>K7 a fBad l2) (((C4 fun fBad l2=>.ok (fBad,l2))):(Bool×(List Token))→R (Bool×(List Token))) (fun j=>C4 fun fBad l2=>fun(fr:Nat→AV) (h:Ag) => ∃ (v2:AV),∃ (g2:Nat),Av v2 (ix ids 1) g2 l2.length∧fr=A5 [(0,(.q ids 0 g)),(6,(.sl 1 (List.map rS l))),(7,(.I (l.length:Int))),(8,(.I (j:Int)))]∧h=hp h0 ids [(some (.rows g 2 [[v2,(.bool fBad)]])),(Ah v2 g2 4 (List.map Ac l2))]) (s0_bad,l1) ?_ ?_ ?_
 ·exact⟨v1,g1,vH,J,J⟩
 ·rintro j a ha W hW ⟨fBad,l2⟩ fr h ⟨v2,g2,vH1,rfl,rfl⟩
  refine Al (m':=K7 a fBad l2) J (Al (K7.eq_1 _ _ _) ?_)
  refine Y<|O<|Aa (.bool (decide ((j:Int)<(l.length:Int)))) J (Bh J J J)<|Z<|Y<|Ev (t:=6) (L:=l) J fun hlim=>Dg J (Int.ofNat_lt.2 (Bg ha)) ?_
  refine Ax<|Y<|Ba<|Y<|O<|Aa (.cp [(.str a)] 0) J (Bz (Ea D0 Cf J ha))<|Ab 2 [] [(5,(.str a))] ?_
  refine Z<|O<|Ab 3 [] [(14,(.agg [(.I 3),(.str a),(.I 0),(.I 0)])),(12,(.q ids 0 g))] ?_
  refine Ap [0,1] hI J J (Mw true ({ Kind:=3,Text:=a,N:=0,At:=0 }:Token) fBad l2 _ (ix ids 0) (ix ids 1) g v2 g2 vH1 (by exact hI.sub' J J)) J J J J J J (fun v _=>Ao (K:=2) (N:=0) Tryz.func34 hI) ?_
  rintro r _ _ _ ⟨v3,g3,vH2,rfl,rfl⟩
  refine A0 [0,1] hI J J J ?_
  refine Ar<|Z<|Aj ?_
  refine Bi<|O<|Ab 2 [] [(8,(.I (IntKind.wrap .i64 ((j:Int)+1))))] ?_
  refine Z<|Bo (Um (hW ((fBad||(!true)),r) _ _ ⟨v3,g3,vH2,J,J⟩)) (.cons J (.cons J (.cons J (.cons (Eg (Bg ha) hlim) .nil))))
 rintro⟨fBad,l2⟩ fr h ⟨v2,g2,vH1,rfl,rfl⟩
 refine Al (Py _ _ _)<|Y<|O<|Aa (.bool (decide ((l.length:Int)<(l.length:Int)))) J (Bh J J J)<|Z<|Y<|Df J (Int.lt_irrefl _) ?_
 refine Cy J<|Ci (K:=2) (N:=0) (a:=(fBad,l2)) (vs:=[]) [some (.rows g 2 [[v2,(.bool fBad)]]),Ah v2 g2 4 (List.map Ac l2)] Tryz.func34 hI J J J (.keep (.keep .nil)) (.same _) ⟨v2,g2,vH1,J,J⟩
theorem D5 (n:Int)(least:Int)(most:Int)(s0_bad:Bool)(l:List Token)(h0:Ag)(o0:Nat)(o1:Nat)(g:Nat)(v1:AV)(g1:Nat)(vH:Av v1 o1 g1 l.length)(hI0:Ids h0 [o0,o1] 2):Dw n least most s0_bad l≠.bad→Bq Tryz.prog 37 [(.ptr o0 g 0 0),(.int .i64 n),(.int .i64 least),(.int .i64 most)] (hp h0 [o0,o1] [some (.rows g 2 [[v1,(.bool s0_bad)]]),Ah v1 g1 4 (List.map Ac l)]) (C5 (fun a_ v h' => ∃ (v3:AV),∃ (g3:Nat),Av v3 o1 g3 a_.length∧v=(.tup [])∧h'=hp h0 [o0,o1] [some (.rows g 2 [[v3,(.bool (s0_bad||(!((decide (n≥least))&&(decide (n≤most))))))]]),Ah v3 g3 4 (List.map Ac a_)]) h0 (Dw n least most s0_bad l)):=by
 refine Bm (n:=20) 0 Tryz.func37 J (by decide) J J hI0 J fun ids he hI=>?_
 clear hI0
 obtain rfl:ix ids 0=o0:=he 0 rfl
 obtain rfl:ix ids 1=o1:=he 1 rfl
 clear he
 refine Bn (Al (Dw.eq_1 _ _ _ _ _) ?_)
 refine O<|Ab 5 [] [(12,(.bool (decide (n≥least)))),(8,(.q ids 0 g))] ?_
 refine B2 4 [(1,(.I n)),(8,(.q ids 0 g)),(16,(.bool ((decide (n≥least))&&(decide (n≤most)))))] ?_ fun hJ=>Bw (decide (n≥least)) (fun hb1=>?_) (fun hb1=>?_)
 ·refine Ab 2 [] [(18,(.agg [(.I 2),(.str []),(.I n),(.I 0)]))] ?_
  refine Ap [0,1] hI J J (Mw ((decide (n≥least))&&(decide (n≤most))) ({ Kind:=2,Text:=[],N:=n,At:=0 }:Token) s0_bad l _ (ix ids 0) (ix ids 1) g v1 g1 vH (by exact hI.sub' J J)) J J J J J J (fun v _=>Ao (K:=2) (N:=0) Tryz.func37 hI) ?_
  rintro r _ _ _ ⟨v2,g2,vH1,rfl,rfl⟩
  refine A0 [0,1] hI J J J ?_
  refine Ar<|Z<|Aj ?_
  exact Ci (K:=2) (N:=0) (a:=r) (vs:=[]) [some (.rows g 2 [[v2,(.bool (s0_bad||(!((decide (n≥least))&&(decide (n≤most))))))]]),Ah v2 g2 4 (List.map Ac r)] Tryz.func37 hI J J J (.keep (.keep .nil)) (.same _) ⟨v2,g2,vH1,J,J⟩
 ·refine Az (t:=12) hb1 J<|Ab 4 [] [(16,(.bool (decide (n≤most))))] ?_
  exact Bf hJ (.cons J (.cons J (.cons (Hk hb1) .nil)))
 refine Az (t:=12) hb1 J<|Ab 4 [] [(16,(.bool false))] ?_
 exact Bf hJ (.cons J (.cons J (.cons (Hl hb1) .nil)))
theorem Rs (s:Span)(s0_bad:Bool)(l:List Token)(h0:Ag)(o0:Nat)(o1:Nat)(g:Nat)(v1:AV)(g1:Nat)(vH:Av v1 o1 g1 l.length)(hI0:Ids h0 [o0,o1] 2):Kn s s0_bad l≠.bad→Bq Tryz.prog 102 [(.ptr o0 g 0 0),(.agg (B7 s))] (hp h0 [o0,o1] [some (.rows g 2 [[v1,(.bool s0_bad)]]),Ah v1 g1 4 (List.map Ac l)]) (C5 (fun a_ v h' => ∃ (v5:AV),∃ (g6:Nat),Av v5 o1 g6 a_.2.length∧v=(.tup [])∧h'=hp h0 [o0,o1] [some (.rows g 2 [[v5,(.bool a_.1)]]),Ah v5 g6 4 (List.map Ac a_.2)]) h0 (Kn s s0_bad l)):=by
 refine Bm (n:=18) 1 Tryz.func102 J (by decide) J J hI0 J fun ids he hI=>?_
 clear hI0
 obtain rfl:ix ids 0=o0:=he 0 rfl
 obtain rfl:ix ids 1=o1:=he 1 rfl
 clear he
 refine Bn (Al (Kn.eq_1 _ _ _) ?_)
 refine Aj ?_
 refine Y<|O<|Cl (v:=(.agg (B7 s))) (j:=2) hI J J J J J J J fun g2=>Z<|Aj ?_
 refine Y<|O<|Ab 3 [2] [(6,(.I s.From)),(4,(.q ids 0 g))] ?_
 refine Ap [0,1] hI J J (D5 s.From 0 1439 s0_bad l _ (ix ids 0) (ix ids 1) g v1 g1 vH (by exact hI.sub' J J)) J J J J J J (fun v _=>Ao (K:=2) (N:=1) Tryz.func102 hI) ?_
 rintro r _ _ _ ⟨v2,g3,vH1,rfl,rfl⟩
 refine A0 [0,1] hI J J J ?_
 refine Ar<|Z<|Aj ?_
 refine Y<|O<|Aa (.q ids 0 g) J Ad<|C3 (e:=rS) (L:=[[116,111]]) (st:=1) (rows:=[[(.str [116,111])]]) J D0 Cf J J J J J (.cons (RowSim.refl _) .nil) (fun x=>Gp x) J J<|Ap [0,1] hI J J (B6 [[116,111]] (s0_bad||(!((decide (s.From≥0))&&(decide (s.From≤1439))))) r _ (ix ids 0) (ix ids 1) g v2 g3 vH1 (by exact hI.sub' J J)) J J J J J J (fun v _=>Ao (K:=2) (N:=1) Tryz.func102 hI) ?_
 rintro r1 _ _ _ ⟨v3,g4,vH2,rfl,rfl⟩
 refine A0 [0,1] hI J J J ?_
 refine Ar<|Z<|Aj ?_
 refine O<|Ab 6 [2,2] [(16,(.I (IntKind.wrap .i64 (s.From+1)))),(13,(.I s.To)),(11,(.q ids 0 g))] ?_
 refine Ap [0,1] hI J J (D5 s.To (IntKind.wrap .i64 (s.From+1)) 1440 r1.1 r1.2 _ (ix ids 0) (ix ids 1) g v3 g4 vH2 (by exact hI.sub' J J)) J J J J J J (fun v _=>Ao (K:=2) (N:=1) Tryz.func102 hI) ?_
 rintro r2 _ _ _ ⟨v4,g5,vH3,rfl,rfl⟩
 refine A0 [0,1] hI J J J ?_
 refine Ar<|Z<|Aj ?_
 exact Ci (K:=2) (N:=1) (a:=((r1.1||(!((decide (s.To≥(IntKind.wrap .i64 (s.From+1))))&&(decide (s.To≤1440))))),r2)) (vs:=[]) [some (.rows g 2 [[v4,(.bool (r1.1||(!((decide (s.To≥(IntKind.wrap .i64 (s.From+1))))&&(decide (s.To≤1440))))))]]),Ah v4 g5 4 (List.map Ac r2)] Tryz.func102 hI J J J (.keep (.keep (.drop .nil))) (.same _) ⟨v4,g5,vH3,J,J⟩
theorem V8 (l:List Span)(most:Int)(s0_bad:Bool)(l1:List Token)(h0:Ag)(o0:Nat)(o1:Nat)(g:Nat)(v1:AV)(g1:Nat)(vH:Av v1 o1 g1 l1.length)(hI0:Ids h0 [o0,o1] 2):L6 l most s0_bad l1≠.bad→Bq Tryz.prog 101 [(.ptr o0 g 0 0),(.sl 2 (List.map B7 l)),(.int .i64 most),(.func (.func 102) [(.ptr o0 g 0 0)] [])] (hp h0 [o0,o1] [some (.rows g 2 [[v1,(.bool s0_bad)]]),Ah v1 g1 4 (List.map Ac l1)]) (C5 (fun a_ v h' => ∃ (v6:AV),∃ (g7:Nat),Av v6 o1 g7 a_.2.length∧v=(.tup [])∧h'=hp h0 [o0,o1] [some (.rows g 2 [[v6,(.bool a_.1)]]),Ah v6 g7 4 (List.map Ac a_.2)]) h0 (L6 l most s0_bad l1)):=by
 refine Bm (n:=44) 1 Tryz.func101 J (by decide) J J hI0 J fun ids he hI=>?_
 clear hI0
 obtain rfl:ix ids 0=o0:=he 0 rfl
 obtain rfl:ix ids 1=o1:=he 1 rfl
 clear he
 refine Bn (Al (L6.eq_1 _ _ _ _) ?_)
 refine Aj ?_
 refine Y<|O<|Ab 6 [0] [(15,(.bool s0_bad)),(10,(.q ids 0 g))] ?_
 refine B2 4 [(0,(.q ids 0 g)),(1,(.sl 2 (List.map B7 l))),(2,(.I most)),(3,(.func (.func 102) [(.q ids 0 g)] [])),(10,(.q ids 0 g)),(19,(.bool (s0_bad||((l.length:Int)==0))))] ?_ fun hJ=>Bw s0_bad (fun hb1=>?_) (fun hb1=>?_)
 ·refine Aa (.bool (s0_bad||((l.length:Int)==0))) J Ad<|B2 5 [(0,(.q ids 0 g)),(1,(.sl 2 (List.map B7 l))),(3,(.func (.func 102) [(.q ids 0 g)] [])),(10,(.q ids 0 g)),(25,(.bool ((s0_bad||((l.length:Int)==0))||(decide ((l.length:Int) > most)))))] ?_ fun hJ1=>Bw (s0_bad||((l.length:Int)==0)) (fun hb3=>?_) (fun hb3=>?_)
  ·refine Ab 2 [] [(27,(.ptr (ix ids 0) g 0 1))] ?_
   refine An (Aq (v:=(.bool ((s0_bad||((l.length:Int)==0))||(decide ((l.length:Int) > most))))) hI J J J J Q3 J J J J J)<|Z<|Aj ?_
   refine Y<|O<|Aa (.sl 2 (List.map B7 l)) J Ad<|Aa (.I (l.length:Int)) J (A2 (Bk Ki))<|Aa (.I 0) J Ad<|Z<|Ba ?_
   refine D6 [(0,(.q ids 0 g)),(3,(.func (.func 102) [(.q ids 0 g)] [])),(28,(.sl 2 (List.map B7 l))),(29,(.I (l.length:Int))),(30,(.I 0))] (FI J)<|Ko (P:=Tryz.prog) l (fun j a=>C4 fun fBad l2=>Kc j a fBad l2) (((C4 fun fBad l2=>.ok (fBad,l2))):(Bool×(List Token))→R (Bool×(List Token))) (fun j=>C4 fun fBad l2=>fun(fr:Nat→AV) (h:Ag) => ∃ (v2:AV),∃ (g2:Nat),Av v2 (ix ids 1) g2 l2.length∧fr=A5 [(0,(.q ids 0 g)),(3,(.func (.func 102) [(.q ids 0 g)] [])),(28,(.sl 2 (List.map B7 l))),(29,(.I (l.length:Int))),(30,(.I (j:Int)))]∧h=hp h0 ids [(some (.rows g 2 [[v2,(.bool fBad)]])),(Ah v2 g2 4 (List.map Ac l2)),none]) (((s0_bad||((l.length:Int)==0))||(decide ((l.length:Int) > most))),l1) ?_ ?_ ?_
   ·exact⟨v1,g1,vH,J,J⟩
   ·rintro j a ha W hW ⟨fBad,l2⟩ fr h ⟨v2,g2,vH1,rfl,rfl⟩
    refine Al (m':=Kc j a fBad l2) J (Al (Kc.eq_1 _ _ _ _) ?_)
    refine Y<|O<|Aa (.bool (decide ((j:Int)<(l.length:Int)))) J (Bh J J J)<|Z<|Y<|Ev (t:=28) (L:=l) J fun hlim=>Dg J (Int.ofNat_lt.2 (Bg ha)) ?_
    refine Ax<|Y<|Ba<|Y<|O<|Aa (.I (j:Int)) J Ad<|Aa (.cp (B7 a) 0) J (Bz (Ea Ki Hz J ha)) ?_
    refine Aa (.agg (B7 a)) J (Au (C7 Hz J))<|A8 (j:=2) hI J J J J Hz J fun g3=>Aa (.I (j:Int)) J Ai<|An (Aq (v:=(.agg (B7 a))) hI J J J J Hz J J J J J)<|Z<|Aj ?_
    refine Y<|Y<|O<|Ab 2 [] [(36,(.bool (decide ((j:Int) > 0))))] ?_
    refine Z<|Dx (C4 fun fBad1 l3=>J6 a fBad1 l3) (C4 fun fBad1 l3=>fun(fr:Nat→AV) (h:Ag) => ∃ (v4:AV),∃ (g5:Nat),Av v4 (ix ids 1) g5 l3.length∧fr=A5 [(0,(.q ids 0 g)),(3,(.func (.func 102) [(.q ids 0 g)] [])),(9,(.q ids 2 g3)),(28,(.sl 2 (List.map B7 l))),(29,(.I (l.length:Int))),(30,(.I (j:Int)))]∧h=hp h0 ids [(some (.rows g 2 [[v4,(.bool fBad1)]])),(Ah v4 g5 4 (List.map Ac l3)),(some (.rows g3 2 [(B7 a)]))]) ?_ fun hJ2=>?_
    ·rintro⟨fBad1,l3⟩ fr h ⟨v4,g5,vH3,rfl,rfl⟩
     refine Al (J6.eq_1 _ _ _)<|O<|Ab 2 [2] [(41,(.agg (B7 a))),(40,(.func (.func 102) [(.q ids 0 g)] []))] ?_
     refine Ap [0,1] hI J J (Rs a fBad1 l3 _ (ix ids 0) (ix ids 1) g v4 g5 vH3 (by exact hI.sub' J J)) J J J J J J (fun v _=>Ao (K:=2) (N:=1) Tryz.func101 hI) ?_
     rintro r1 _ _ _ ⟨v5,g6,vH4,rfl,rfl⟩
     refine A0 [0,1] hI J J J ?_
     refine Ar<|Z<|Aj ?_
     refine Bi<|O<|Ab 2 [] [(30,(.I (IntKind.wrap .i64 ((j:Int)+1))))] ?_
     refine Z<|Eb [(some (.rows g 2 [[v5,(.bool r1.1)]])),(Ah v5 g6 4 (List.map Ac r1.2)),none] hI J (.keep (.keep (.drop .nil)))<|Bo (Um (hW (r1.1,r1.2) _ _ ⟨v5,g6,vH4,J,J⟩)) (.cons J (.cons J (.cons J (.cons J (.cons (Eg (Bg ha) hlim) .nil)))))
    refine Na J (fun hc=>?_) (fun hc=>?_)
    ·refine O<|Aa (.q ids 0 g) J Ad<|C3 (e:=rS) (L:=[[44]]) (st:=1) (rows:=[[(.str [44])]]) J D0 Cf J J J J J (.cons (RowSim.refl _) .nil) (fun x=>Gp x) J J<|Ap [0,1] hI J J (Dr [[44]] fBad l2 _ (ix ids 0) (ix ids 1) g v2 g2 vH1 (by exact hI.sub' J J)) J J J J J J (fun v _=>Ao (K:=2) (N:=1) Tryz.func101 hI) ?_
     rintro r _ _ _ ⟨v3,g4,vH2,rfl,rfl⟩
     refine A0 [0,1] hI J J J ?_
     refine Ar<|Z<|Aj ?_
     exact Bo (hJ2 (r.1,r.2) _ _ ⟨v3,g4,vH2,J,J⟩)
    refine Ax<|Bo (hJ2 (fBad,l2) _ _ ⟨v2,g2,vH1,J,J⟩)
   rintro⟨fBad,l2⟩ fr h ⟨v2,g2,vH1,rfl,rfl⟩
   refine Al (Py _ _ _)<|Y<|O<|Aa (.bool (decide ((l.length:Int)<(l.length:Int)))) J (Bh J J J)<|Z<|Y<|Df J (Int.lt_irrefl _) ?_
   refine Cy J<|Ci (K:=2) (N:=1) (a:=(fBad,l2)) (vs:=[]) [some (.rows g 2 [[v2,(.bool fBad)]]),Ah v2 g2 4 (List.map Ac l2)] Tryz.func101 hI J J J (.keep (.keep (.keep .nil))) (.same _) ⟨v2,g2,vH1,J,J⟩
  ·refine Az (t:=20) hb3 J<|Ab 5 [] [(25,(.bool true))] ?_
   exact Bf hJ1 (.cons J (.cons J (.cons J (.cons J (.cons (E6 hb3) .nil)))))
  refine Az (t:=20) hb3 J<|By (tj:=20) (.sl 2 (List.map B7 l)) J J J Ad<|By (tj:=20) (.I (l.length:Int)) J J J (A2 (Bk Ki))<|Ab 3 [] [(25,(.bool (decide ((l.length:Int) > most))))] ?_
  exact Bf hJ1 (.cons J (.cons J (.cons J (.cons J (.cons (E5 hb3) .nil)))))
 ·refine Az (t:=15) hb1 J<|Ab 4 [] [(19,(.bool true))] ?_
  exact Bf hJ (.cons J (.cons J (.cons J (.cons J (.cons J (.cons (E6 hb1) .nil))))))
 refine Az (t:=15) hb1 J<|By (tj:=15) (.sl 2 (List.map B7 l)) J J J Ad<|By (tj:=15) (.I (l.length:Int)) J J J (A2 (Bk Ki))<|Ab 2 [] [(19,(.bool ((l.length:Int)==0)))] ?_
 exact Bf hJ (.cons J (.cons J (.cons J (.cons J (.cons J (.cons (E5 hb1) .nil))))))
theorem Rh (text:Ay)(l:List Span)(s0_bad:Bool)(l1:List Token)(h0:Ag)(o0:Nat)(o1:Nat)(g:Nat)(v1:AV)(g1:Nat)(vH:Av v1 o1 g1 l1.length)(hI0:Ids h0 [o0,o1] 2):Kj text l s0_bad l1≠.bad→Bq Tryz.prog 31 [(.ptr o0 g 0 0),(.str text),(.sl 2 (List.map B7 l))] (hp h0 [o0,o1] [some (.rows g 2 [[v1,(.bool s0_bad)]]),Ah v1 g1 4 (List.map Ac l1)]) (C5 (fun a_ v h' => ∃ (v4:AV),∃ (g4:Nat),Av v4 o1 g4 a_.2.length∧v=(.tup [])∧h'=hp h0 [o0,o1] [some (.rows g 2 [[v4,(.bool a_.1)]]),Ah v4 g4 4 (List.map Ac a_.2)]) h0 (Kj text l s0_bad l1)):=by
 refine Bm (n:=18) 0 Tryz.func31 J (by decide) J J hI0 J fun ids he hI=>?_
 clear hI0
 obtain rfl:ix ids 0=o0:=he 0 rfl
 obtain rfl:ix ids 1=o1:=he 1 rfl
 clear he
 refine Bn (Al (Kj.eq_1 _ _ _ _) ?_)
 refine Y<|O<|Aa (.sl 2 (List.map B7 l)) J Ad<|Aa (.I (l.length:Int)) J (A2 (Bk Ki))<|Aa (.bool (decide ((l.length:Int) > 0))) J (Bh J J J)<|Z<|Na J (fun hc=>?_) (fun hc=>?_)
 ·refine Y<|O<|Ab 2 [] [(10,(.str text)),(9,(.q ids 0 g))] ?_
  refine C3 (e:=rS) (L:=[text]) (st:=1) (rows:=[[(.str text)]]) J D0 Cf J J J J J (.cons (RowSim.refl _) .nil) (fun x=>Gp x) J J<|Ap [0,1] hI J J (B6 [text] s0_bad l1 _ (ix ids 0) (ix ids 1) g v1 g1 vH (by exact hI.sub' J J)) J J J J J J (fun v _=>Ao (K:=2) (N:=0) Tryz.func31 hI) ?_
  rintro r _ _ _ ⟨v2,g2,vH1,rfl,rfl⟩
  refine A0 [0,1] hI J J J ?_
  refine Ar<|Z<|Aj ?_
  refine O<|Ab 4 [] [(16,(.func (.func 102) [(.q ids 0 g)] [])),(14,(.sl 2 (List.map B7 l))),(13,(.q ids 0 g))] ?_
  refine Ap [0,1] hI J J (V8 l 16 r.1 r.2 _ (ix ids 0) (ix ids 1) g v2 g2 vH1 (by exact hI.sub' J J)) J J J J J J (fun v _=>Ao (K:=2) (N:=0) Tryz.func31 hI) ?_
  rintro r1 _ _ _ ⟨v3,g3,vH2,rfl,rfl⟩
  refine A0 [0,1] hI J J J ?_
  refine Ar<|Z<|Aj ?_
  exact Ci (K:=2) (N:=0) (a:=(r1.1,r1.2)) (vs:=[]) [some (.rows g 2 [[v3,(.bool r1.1)]]),Ah v3 g3 4 (List.map Ac r1.2)] Tryz.func31 hI J J J (.keep (.keep .nil)) (.same _) ⟨v3,g3,vH2,J,J⟩
 refine Ax<|Ci (K:=2) (N:=0) (a:=(s0_bad,l1)) (vs:=[]) [some (.rows g 2 [[v1,(.bool s0_bad)]]),Ah v1 g1 4 (List.map Ac l1)] Tryz.func31 hI J J J (.keep (.keep .nil)) (.same _) ⟨v1,g1,vH,J,J⟩
theorem Zd (a:Volume)(s1_bad:Bool)(l:List Token)(h0:Ag)(o0:Nat)(o1:Nat)(o2:Nat)(g:Nat)(g1:Nat)(v1:AV)(g2:Nat)(vH:Av v1 o2 g2 l.length)(hI0:Ids h0 [o0,o1,o2] 3):Pt a s1_bad l≠.bad→Bq Tryz.prog 29 [(.agg (Aw a)),(.ptr o0 g 0 0)] (hp h0 [o0,o1,o2] [some (.rows g 1 [[(.ptr o1 g1 0 0)]]),some (.rows g1 2 [[v1,(.bool s1_bad)]]),Ah v1 g2 4 (List.map Ac l)]) (C5 (fun a_ v h' => ∃ (v4:AV),∃ (g6:Nat),Av v4 o2 g6 a_.2.length∧v=(.tup [])∧h'=hp h0 [o0,o1,o2] [some (.rows g 1 [[(.ptr o1 g1 0 0)]]),some (.rows g1 2 [[v4,(.bool a_.1)]]),Ah v4 g6 4 (List.map Ac a_.2)]) h0 (Pt a s1_bad l)):=by
 refine Bm (n:=11) 1 Tryz.func29 J (by decide) J J hI0 J fun ids he hI=>?_
 clear hI0
 obtain rfl:ix ids 0=o0:=he 0 rfl
 obtain rfl:ix ids 1=o1:=he 1 rfl
 obtain rfl:ix ids 2=o2:=he 2 rfl
 clear he
 refine Bn (Al (Pt.eq_1 _ _ _) ?_)
 refine Aj ?_
 refine Y<|O<|Cl (v:=(.agg (Aw a))) (j:=3) hI J J J J J J J fun g3=>Z<|Aj ?_
 refine Y<|O<|Ab 3 [0,3] [(5,(.str a.Name)),(3,(.q ids 1 g1))] ?_
 refine Ap [1,2] hI J J (Dm a.Name s1_bad l _ (ix ids 1) (ix ids 2) g1 v1 g2 vH (by exact hI.sub' J J)) J J J J J J (fun v _=>Ao (K:=3) (N:=1) Tryz.func29 hI) ?_
 rintro r _ _ _ ⟨v2,g4,vH1,rfl,rfl⟩
 refine A0 [1,2] hI J J J ?_
 refine Ar<|Z<|Aj ?_
 refine O<|Ab 3 [0,3] [(9,(.sl 2 (List.map B7 a.Closed))),(7,(.q ids 1 g1))] ?_
 refine Ap [1,2] hI J J (Rh [99,108,111,115,101,100] a.Closed r.1 r.2 _ (ix ids 1) (ix ids 2) g1 v2 g4 vH1 (by exact hI.sub' J J)) J J J J J J (fun v _=>Ao (K:=3) (N:=1) Tryz.func29 hI) ?_
 rintro r1 _ _ _ ⟨v3,g5,vH2,rfl,rfl⟩
 refine A0 [1,2] hI J J J ?_
 refine Ar<|Z<|Aj ?_
 exact Ci (K:=3) (N:=1) (a:=(r1.1,r1.2)) (vs:=[]) [some (.rows g 1 [[(.q ids 1 g1)]]),some (.rows g1 2 [[v3,(.bool r1.1)]]),Ah v3 g5 4 (List.map Ac r1.2)] Tryz.func29 hI J J J (.keep (.keep (.keep (.drop .nil)))) (.same _) ⟨v3,g5,vH2,J,J⟩
theorem Va (text:Ay)(l:List Volume)(most:Int)(s0_bad:Bool)(h0:Ag)(o0:Nat)(o1:Nat)(o2:Nat)(g:Nat)(g1:Nat)(hI0:Ids h0 [o0,o1,o2] 3):Lf text l most s0_bad≠.bad→Bq Tryz.prog 28 [(.ptr o0 g 0 0),(.str text),(.sl 2 (List.map Aw l)),(.int .i64 most),(.func (.func 29) [] [(.ptr o1 g1 0 0)])] (hp h0 [o0,o1,o2] [some (.rows g 2 [[.emp,(.bool s0_bad)]]),some (.rows g1 1 [[(.ptr o0 g 0 0)]]),none]) (C5 (fun a_ v h' => ∃ (v6:AV),∃ (g8:Nat),Av v6 o2 g8 a_.2.length∧v=(.tup [])∧h'=hp h0 [o0,o1,o2] [some (.rows g 2 [[v6,(.bool a_.1)]]),some (.rows g1 1 [[(.ptr o0 g 0 0)]]),Ah v6 g8 4 (List.map Ac a_.2)]) h0 (Lf text l most s0_bad)):=by
 refine Bm (n:=44) 1 Tryz.func28 J (by decide) J J hI0 J fun ids he hI=>?_
 clear hI0
 obtain rfl:ix ids 0=o0:=he 0 rfl
 obtain rfl:ix ids 1=o1:=he 1 rfl
 obtain rfl:ix ids 2=o2:=he 2 rfl
 clear he
 refine Bn (Al (Lf.eq_1 _ _ _ _) ?_)
 refine Aj ?_
 refine Y<|O<|Ab 6 [0] [(17,(.bool s0_bad)),(12,(.q ids 0 g))] ?_
 refine B2 5 [(0,(.q ids 0 g)),(1,(.str text)),(2,(.sl 2 (List.map Aw l))),(4,(.func (.func 29) [] [(.q ids 1 g1)])),(12,(.q ids 0 g)),(22,(.bool (s0_bad||(decide ((l.length:Int) > most)))))] ?_ fun hJ=>Bw s0_bad (fun hb1=>?_) (fun hb1=>?_)
 ·refine Ab 2 [] [(24,(.ptr (ix ids 0) g 0 1))] ?_
  refine An (Aq (v:=(.bool (s0_bad||(decide ((l.length:Int) > most))))) hI J J J J Q3 J J J J J)<|Z<|Aj ?_
  refine Y<|O<|Aa (.sl 2 (List.map Aw l)) J Ad<|Aa (.I (l.length:Int)) J (A2 (Bk Hj))<|Aa (.I 0) J Ad<|Z<|Ba ?_
  refine D6 [(0,(.q ids 0 g)),(1,(.str text)),(4,(.func (.func 29) [] [(.q ids 1 g1)])),(25,(.sl 2 (List.map Aw l))),(26,(.I (l.length:Int))),(27,(.I 0))] (FI J)<|Ko (P:=Tryz.prog) l (fun _ a=>C4 fun fBad l1=>Jn text a fBad l1) (((C4 fun fBad l1=>.ok (fBad,l1))):(Bool×(List Token))→R (Bool×(List Token))) (fun j=>C4 fun fBad l1=>fun(fr:Nat→AV) (h:Ag) => ∃ (v1:AV),∃ (g2:Nat),Av v1 (ix ids 2) g2 l1.length∧fr=A5 [(0,(.q ids 0 g)),(1,(.str text)),(4,(.func (.func 29) [] [(.q ids 1 g1)])),(25,(.sl 2 (List.map Aw l))),(26,(.I (l.length:Int))),(27,(.I (j:Int)))]∧h=hp h0 ids [(some (.rows g 2 [[v1,(.bool fBad)]])),(some (.rows g1 1 [[(.q ids 0 g)]])),(Ah v1 g2 4 (List.map Ac l1)),none]) ((s0_bad||(decide ((l.length:Int) > most))),[]) ?_ ?_ ?_
  ·exact⟨.emp,0,.nil,J,J⟩
  ·rintro j a ha W hW ⟨fBad,l1⟩ fr h ⟨v1,g2,vH,rfl,rfl⟩
   refine Al (m':=Jn text a fBad l1) J (Al (Jn.eq_1 _ _ _ _) ?_)
   refine Y<|O<|Aa (.bool (decide ((j:Int)<(l.length:Int)))) J (Bh J J J)<|Z<|Y<|Ev (t:=25) (L:=l) J fun hlim=>Dg J (Int.ofNat_lt.2 (Bg ha)) ?_
   refine Ax<|Y<|Ba<|Y<|O<|Aa (.cp (Aw a) 0) J (Bz (Ea Hj Ji J ha))<|Aa (.agg (Aw a)) J (Au (C7 Ji J)) ?_
   refine A8 (j:=3) hI J J J J Ji J fun g3=>An (Aq (v:=(.agg (Aw a))) hI J J J J Ji J J J J J)<|Z<|Aj ?_
   refine Y<|Y<|O<|Ab 2 [] [(32,(.bool (!(text==[]))))] ?_
   refine Z<|Dx (C4 fun fBad1 l2=>Jx a fBad1 l2) (C4 fun fBad1 l2=>fun(fr:Nat→AV) (h:Ag) => ∃ (v3:AV),∃ (g5:Nat),Av v3 (ix ids 2) g5 l2.length∧fr=A5 [(0,(.q ids 0 g)),(1,(.str text)),(4,(.func (.func 29) [] [(.q ids 1 g1)])),(11,(.q ids 3 g3)),(25,(.sl 2 (List.map Aw l))),(26,(.I (l.length:Int))),(27,(.I (j:Int)))]∧h=hp h0 ids [(some (.rows g 2 [[v3,(.bool fBad1)]])),(some (.rows g1 1 [[(.q ids 0 g)]])),(Ah v3 g5 4 (List.map Ac l2)),(some (.rows g3 2 [(Aw a)]))]) ?_ fun hJ1=>?_
   ·rintro⟨fBad1,l2⟩ fr h ⟨v3,g5,vH2,rfl,rfl⟩
    refine Al (Jx.eq_1 _ _ _)<|Y<|O<|Ab 2 [3] [(38,(.agg (Aw a))),(37,(.func (.func 29) [] [(.q ids 1 g1)]))] ?_
    refine Ap [1,0,2] hI J J (Zd a fBad1 l2 _ (ix ids 1) (ix ids 0) (ix ids 2) g1 g v3 g5 vH2 (by exact hI.sub' J J)) J J J J J J (fun v _=>Ao (K:=3) (N:=1) Tryz.func28 hI) ?_
    rintro r1 _ _ _ ⟨v4,g6,vH3,rfl,rfl⟩
    refine A0 [1,0,2] hI J J J ?_
    refine Ar<|Z<|Aj ?_
    refine O<|Aa (.q ids 0 g) J Ad<|C3 (e:=rS) (L:=[[59]]) (st:=1) (rows:=[[(.str [59])]]) J D0 Cf J J J J J (.cons (RowSim.refl _) .nil) (fun x=>Gp x) J J<|Ap [0,2] hI J J (Dr [[59]] r1.1 r1.2 _ (ix ids 0) (ix ids 2) g v4 g6 vH3 (by exact hI.sub' J J)) J J J J J J (fun v _=>Ao (K:=3) (N:=1) Tryz.func28 hI) ?_
    rintro r2 _ _ _ ⟨v5,g7,vH4,rfl,rfl⟩
    refine A0 [0,2] hI J J J ?_
    refine Ar<|Z<|Aj ?_
    refine Bi<|O<|Ab 2 [] [(27,(.I (IntKind.wrap .i64 ((j:Int)+1))))] ?_
    refine Z<|Eb [(some (.rows g 2 [[v5,(.bool r2.1)]])),(some (.rows g1 1 [[(.q ids 0 g)]])),(Ah v5 g7 4 (List.map Ac r2.2)),none] hI J (.keep (.keep (.keep (.drop .nil))))<|Bo (Um (hW (r2.1,r2.2) _ _ ⟨v5,g7,vH4,J,J⟩)) (.cons J (.cons J (.cons J (.cons J (.cons J (.cons (Eg (Bg ha) hlim) .nil))))))
   refine D2 J (fun hc=>?_) (fun hc=>?_)
   ·refine Ax<|Bo (hJ1 (fBad,l1) _ _ ⟨v1,g2,vH,J,J⟩)
   refine O<|Ab 2 [] [(34,(.str text)),(33,(.q ids 0 g))] ?_
   refine C3 (e:=rS) (L:=[text]) (st:=1) (rows:=[[(.str text)]]) J D0 Cf J J J J J (.cons (RowSim.refl _) .nil) (fun x=>Gp x) J J<|Ap [0,2] hI J J (B6 [text] fBad l1 _ (ix ids 0) (ix ids 2) g v1 g2 vH (by exact hI.sub' J J)) J J J J J J (fun v _=>Ao (K:=3) (N:=1) Tryz.func28 hI) ?_
   rintro r _ _ _ ⟨v2,g4,vH1,rfl,rfl⟩
   refine A0 [0,2] hI J J J ?_
   refine Ar<|Z<|Aj ?_
   exact Bo (hJ1 (r.1,r.2) _ _ ⟨v2,g4,vH1,J,J⟩)
  rintro⟨fBad,l1⟩ fr h ⟨v1,g2,vH,rfl,rfl⟩
  refine Al (Py _ _ _)<|Y<|O<|Aa (.bool (decide ((l.length:Int)<(l.length:Int)))) J (Bh J J J)<|Z<|Y<|Df J (Int.lt_irrefl _) ?_
  refine Cy J<|Ci (K:=3) (N:=1) (a:=(fBad,l1)) (vs:=[]) [some (.rows g 2 [[v1,(.bool fBad)]]),some (.rows g1 1 [[(.q ids 0 g)]]),Ah v1 g2 4 (List.map Ac l1)] Tryz.func28 hI J J J (.keep (.keep (.keep (.keep .nil)))) (.same _) ⟨v1,g2,vH,J,J⟩
 ·refine Az (t:=17) hb1 J<|Ab 5 [] [(22,(.bool true))] ?_
  exact Bf hJ (.cons J (.cons J (.cons J (.cons J (.cons J (.cons (E6 hb1) .nil))))))
 refine Az (t:=17) hb1 J<|By (tj:=17) (.sl 2 (List.map Aw l)) J J J Ad<|By (tj:=17) (.I (l.length:Int)) J J J (A2 (Bk Hj))<|Ab 3 [] [(22,(.bool (decide ((l.length:Int) > most))))] ?_
 exact Bf hJ (.cons J (.cons J (.cons J (.cons J (.cons J (.cons (E5 hb1) .nil))))))
theorem M5 (l:List Ay)(most:Int)(s0_bad:Bool)(l1:List Token)(h0:Ag)(o0:Nat)(o1:Nat)(g:Nat)(v1:AV)(g1:Nat)(vH:Av v1 o1 g1 l1.length)(hI0:Ids h0 [o0,o1] 2):G4 l most s0_bad l1≠.bad→Bq Tryz.prog 35 [(.ptr o0 g 0 0),(.sl 1 (List.map rS l)),(.int .i64 most),(.func (.func 30) [(.ptr o0 g 0 0)] [])] (hp h0 [o0,o1] [some (.rows g 2 [[v1,(.bool s0_bad)]]),Ah v1 g1 4 (List.map Ac l1)]) (C5 (fun a_ v h' => ∃ (v6:AV),∃ (g6:Nat),Av v6 o1 g6 a_.2.length∧v=(.tup [])∧h'=hp h0 [o0,o1] [some (.rows g 2 [[v6,(.bool a_.1)]]),Ah v6 g6 4 (List.map Ac a_.2)]) h0 (G4 l most s0_bad l1)):=by
 refine Bm (n:=44) 0 Tryz.func35 J (by decide) J J hI0 J fun ids he hI=>?_
 clear hI0
 obtain rfl:ix ids 0=o0:=he 0 rfl
 obtain rfl:ix ids 1=o1:=he 1 rfl
 clear he
 refine Bn (Al (G4.eq_1 _ _ _ _) ?_)
 refine Y<|O<|Ab 6 [0] [(15,(.bool s0_bad)),(10,(.q ids 0 g))] ?_
 refine B2 4 [(0,(.q ids 0 g)),(1,(.sl 1 (List.map rS l))),(2,(.I most)),(3,(.func (.func 30) [(.q ids 0 g)] [])),(10,(.q ids 0 g)),(19,(.bool (s0_bad||((l.length:Int)==0))))] ?_ fun hJ=>Bw s0_bad (fun hb1=>?_) (fun hb1=>?_)
 ·refine Aa (.bool (s0_bad||((l.length:Int)==0))) J Ad<|B2 5 [(0,(.q ids 0 g)),(1,(.sl 1 (List.map rS l))),(3,(.func (.func 30) [(.q ids 0 g)] [])),(10,(.q ids 0 g)),(25,(.bool ((s0_bad||((l.length:Int)==0))||(decide ((l.length:Int) > most)))))] ?_ fun hJ1=>Bw (s0_bad||((l.length:Int)==0)) (fun hb3=>?_) (fun hb3=>?_)
  ·refine Ab 2 [] [(27,(.ptr (ix ids 0) g 0 1))] ?_
   refine An (Aq (v:=(.bool ((s0_bad||((l.length:Int)==0))||(decide ((l.length:Int) > most))))) hI J J J J Q3 J J J J J)<|Z<|Aj ?_
   refine Y<|O<|Aa (.sl 1 (List.map rS l)) J Ad<|Aa (.I (l.length:Int)) J (A2 (Bk D0))<|Aa (.I 0) J Ad<|Z<|Ba ?_
   refine D6 [(0,(.q ids 0 g)),(3,(.func (.func 30) [(.q ids 0 g)] [])),(28,(.sl 1 (List.map rS l))),(29,(.I (l.length:Int))),(30,(.I 0))] (FI J)<|Ko (P:=Tryz.prog) l (fun j a=>C4 fun fBad l2=>Jv j a fBad l2) (((C4 fun fBad l2=>.ok (fBad,l2))):(Bool×(List Token))→R (Bool×(List Token))) (fun j=>C4 fun fBad l2=>fun(fr:Nat→AV) (h:Ag) => ∃ (v2:AV),∃ (g2:Nat),Av v2 (ix ids 1) g2 l2.length∧fr=A5 [(0,(.q ids 0 g)),(3,(.func (.func 30) [(.q ids 0 g)] [])),(28,(.sl 1 (List.map rS l))),(29,(.I (l.length:Int))),(30,(.I (j:Int)))]∧h=hp h0 ids [(some (.rows g 2 [[v2,(.bool fBad)]])),(Ah v2 g2 4 (List.map Ac l2))]) (((s0_bad||((l.length:Int)==0))||(decide ((l.length:Int) > most))),l1) ?_ ?_ ?_
   ·exact⟨v1,g1,vH,J,J⟩
   ·rintro j a ha W hW ⟨fBad,l2⟩ fr h ⟨v2,g2,vH1,rfl,rfl⟩
    refine Al (m':=Jv j a fBad l2) J (Al (Jv.eq_1 _ _ _ _) ?_)
    refine Y<|O<|Aa (.bool (decide ((j:Int)<(l.length:Int)))) J (Bh J J J)<|Z<|Y<|Ev (t:=28) (L:=l) J fun hlim=>Dg J (Int.ofNat_lt.2 (Bg ha)) ?_
    refine Ax<|Y<|Ba<|Y<|O<|Aa (.I (j:Int)) J Ad<|Aa (.cp [(.str a)] 0) J (Bz (Ea D0 Cf J ha)) ?_
    refine Ab 3 [] [(9,(.str a)),(8,(.I (j:Int)))] ?_
    refine Z<|Y<|Y<|O<|Ab 2 [] [(36,(.bool (decide ((j:Int) > 0))))] ?_
    refine Z<|Dx (C4 fun fBad1 l3=>Jq a fBad1 l3) (C4 fun fBad1 l3=>fun(fr:Nat→AV) (h:Ag) => ∃ (v4:AV),∃ (g4:Nat),Av v4 (ix ids 1) g4 l3.length∧fr=A5 [(0,(.q ids 0 g)),(3,(.func (.func 30) [(.q ids 0 g)] [])),(9,(.str a)),(28,(.sl 1 (List.map rS l))),(29,(.I (l.length:Int))),(30,(.I (j:Int)))]∧h=hp h0 ids [(some (.rows g 2 [[v4,(.bool fBad1)]])),(Ah v4 g4 4 (List.map Ac l3))]) ?_ fun hJ2=>?_
    ·rintro⟨fBad1,l3⟩ fr h ⟨v4,g4,vH3,rfl,rfl⟩
     refine Al (Jq.eq_1 _ _ _)<|O<|Ab 2 [] [(41,(.str a)),(40,(.func (.func 30) [(.q ids 0 g)] []))] ?_
     refine Ap [0,1] hI J J (Dm a fBad1 l3 _ (ix ids 0) (ix ids 1) g v4 g4 vH3 (by exact hI.sub' J J)) J J J J J J (fun v _=>Ao (K:=2) (N:=0) Tryz.func35 hI) ?_
     rintro r1 _ _ _ ⟨v5,g5,vH4,rfl,rfl⟩
     refine A0 [0,1] hI J J J ?_
     refine Ar<|Z<|Aj ?_
     refine Bi<|O<|Ab 2 [] [(30,(.I (IntKind.wrap .i64 ((j:Int)+1))))] ?_
     refine Z<|Bo (Um (hW (r1.1,r1.2) _ _ ⟨v5,g5,vH4,J,J⟩)) (.cons J (.cons J (.cons J (.cons J (.cons (Eg (Bg ha) hlim) .nil)))))
    refine Na J (fun hc=>?_) (fun hc=>?_)
    ·refine O<|Aa (.q ids 0 g) J Ad<|C3 (e:=rS) (L:=[[44]]) (st:=1) (rows:=[[(.str [44])]]) J D0 Cf J J J J J (.cons (RowSim.refl _) .nil) (fun x=>Gp x) J J<|Ap [0,1] hI J J (Dr [[44]] fBad l2 _ (ix ids 0) (ix ids 1) g v2 g2 vH1 (by exact hI.sub' J J)) J J J J J J (fun v _=>Ao (K:=2) (N:=0) Tryz.func35 hI) ?_
     rintro r _ _ _ ⟨v3,g3,vH2,rfl,rfl⟩
     refine A0 [0,1] hI J J J ?_
     refine Ar<|Z<|Aj ?_
     exact Bo (hJ2 (r.1,r.2) _ _ ⟨v3,g3,vH2,J,J⟩)
    refine Ax<|Bo (hJ2 (fBad,l2) _ _ ⟨v2,g2,vH1,J,J⟩)
   rintro⟨fBad,l2⟩ fr h ⟨v2,g2,vH1,rfl,rfl⟩
   refine Al (Py _ _ _)<|Y<|O<|Aa (.bool (decide ((l.length:Int)<(l.length:Int)))) J (Bh J J J)<|Z<|Y<|Df J (Int.lt_irrefl _) ?_
   refine Cy J<|Ci (K:=2) (N:=0) (a:=(fBad,l2)) (vs:=[]) [some (.rows g 2 [[v2,(.bool fBad)]]),Ah v2 g2 4 (List.map Ac l2)] Tryz.func35 hI J J J (.keep (.keep .nil)) (.same _) ⟨v2,g2,vH1,J,J⟩
  ·refine Az (t:=20) hb3 J<|Ab 5 [] [(25,(.bool true))] ?_
   exact Bf hJ1 (.cons J (.cons J (.cons J (.cons J (.cons (E6 hb3) .nil)))))
  refine Az (t:=20) hb3 J<|By (tj:=20) (.sl 1 (List.map rS l)) J J J Ad<|By (tj:=20) (.I (l.length:Int)) J J J (A2 (Bk D0))<|Ab 3 [] [(25,(.bool (decide ((l.length:Int) > most))))] ?_
  exact Bf hJ1 (.cons J (.cons J (.cons J (.cons J (.cons (E5 hb3) .nil)))))
 ·refine Az (t:=15) hb1 J<|Ab 4 [] [(19,(.bool true))] ?_
  exact Bf hJ (.cons J (.cons J (.cons J (.cons J (.cons J (.cons (E6 hb1) .nil))))))
 refine Az (t:=15) hb1 J<|By (tj:=15) (.sl 1 (List.map rS l)) J J J Ad<|By (tj:=15) (.I (l.length:Int)) J J J (A2 (Bk D0))<|Ab 2 [] [(19,(.bool ((l.length:Int)==0)))] ?_
 exact Bf hJ (.cons J (.cons J (.cons J (.cons J (.cons J (.cons (E5 hb1) .nil))))))
theorem Zv (a:Sector)(s1_bad:Bool)(l:List Token)(h0:Ag)(o0:Nat)(o1:Nat)(o2:Nat)(g:Nat)(g1:Nat)(v1:AV)(g2:Nat)(vH:Av v1 o2 g2 l.length)(hI0:Ids h0 [o0,o1,o2] 3):Ps a s1_bad l≠.bad→Bq Tryz.prog 33 [(.agg (A9 a)),(.ptr o0 g 0 0)] (hp h0 [o0,o1,o2] [some (.rows g 1 [[(.ptr o1 g1 0 0)]]),some (.rows g1 2 [[v1,(.bool s1_bad)]]),Ah v1 g2 4 (List.map Ac l)]) (C5 (fun a_ v h' => ∃ (v9:AV),∃ (g11:Nat),Av v9 o2 g11 a_.2.length∧v=(.tup [])∧h'=hp h0 [o0,o1,o2] [some (.rows g 1 [[(.ptr o1 g1 0 0)]]),some (.rows g1 2 [[v9,(.bool a_.1)]]),Ah v9 g11 4 (List.map Ac a_.2)]) h0 (Ps a s1_bad l)):=by
 refine Bm (n:=32) 1 Tryz.func33 J (by decide) J J hI0 J fun ids he hI=>?_
 clear hI0
 obtain rfl:ix ids 0=o0:=he 0 rfl
 obtain rfl:ix ids 1=o1:=he 1 rfl
 obtain rfl:ix ids 2=o2:=he 2 rfl
 clear he
 refine Bn (Al (Ps.eq_1 _ _ _) ?_)
 refine Aj ?_
 refine Y<|O<|Cl (v:=(.agg (A9 a))) (j:=3) hI J J J J J J J fun g3=>Z<|Aj ?_
 refine Y<|O<|Ab 3 [0,3] [(5,(.str a.Name)),(3,(.q ids 1 g1))] ?_
 refine Ap [1,2] hI J J (Dm a.Name s1_bad l _ (ix ids 1) (ix ids 2) g1 v1 g2 vH (by exact hI.sub' J J)) J J J J J J (fun v _=>Ao (K:=3) (N:=1) Tryz.func33 hI) ?_
 rintro r _ _ _ ⟨v2,g4,vH1,rfl,rfl⟩
 refine A0 [1,2] hI J J J ?_
 refine Ar<|Z<|Aj ?_
 refine Y<|O<|Ab 1 [0] [(7,(.q ids 1 g1))] ?_
 refine C3 (e:=rS) (L:=[[61]]) (st:=1) (rows:=[[(.str [61])]]) J D0 Cf J J J J J (.cons (RowSim.refl _) .nil) (fun x=>Gp x) J J<|Ap [1,2] hI J J (Dr [[61]] r.1 r.2 _ (ix ids 1) (ix ids 2) g1 v2 g4 vH1 (by exact hI.sub' J J)) J J J J J J (fun v _=>Ao (K:=3) (N:=1) Tryz.func33 hI) ?_
 rintro r1 _ _ _ ⟨v3,g5,vH2,rfl,rfl⟩
 refine A0 [1,2] hI J J J ?_
 refine Ar<|Z<|Aj ?_
 refine Y<|O<|Ab 5 [0,3,0] [(14,(.func (.func 30) [(.q ids 1 g1)] [])),(12,(.sl 1 (List.map rS a.Names))),(10,(.q ids 1 g1))] ?_
 refine Ap [1,2] hI J J (M5 a.Names 64 r1.1 r1.2 _ (ix ids 1) (ix ids 2) g1 v3 g5 vH2 (by exact hI.sub' J J)) J J J J J J (fun v _=>Ao (K:=3) (N:=1) Tryz.func33 hI) ?_
 rintro r2 _ _ _ ⟨v4,g6,vH3,rfl,rfl⟩
 refine A0 [1,2] hI J J J ?_
 refine Ar<|Z<|Aj ?_
 refine Y<|O<|Ab 1 [0] [(16,(.q ids 1 g1))] ?_
 refine C3 (e:=rS) (L:=[[114,97,100,97,114]]) (st:=1) (rows:=[[(.str [114,97,100,97,114])]]) J D0 Cf J J J J J (.cons (RowSim.refl _) .nil) (fun x=>Gp x) J J<|Ap [1,2] hI J J (B6 [[114,97,100,97,114]] r2.1 r2.2 _ (ix ids 1) (ix ids 2) g1 v4 g6 vH3 (by exact hI.sub' J J)) J J J J J J (fun v _=>Ao (K:=3) (N:=1) Tryz.func33 hI) ?_
 rintro r3 _ _ _ ⟨v5,g7,vH4,rfl,rfl⟩
 refine A0 [1,2] hI J J J ?_
 refine Ar<|Z<|Aj ?_
 refine Y<|O<|Ab 3 [0,3] [(21,(.I a.Radar)),(19,(.q ids 1 g1))] ?_
 refine Ap [1,2] hI J J (D5 a.Radar 0 64 r3.1 r3.2 _ (ix ids 1) (ix ids 2) g1 v5 g7 vH4 (by exact hI.sub' J J)) J J J J J J (fun v _=>Ao (K:=3) (N:=1) Tryz.func33 hI) ?_
 rintro r4 _ _ _ ⟨v6,g8,vH5,rfl,rfl⟩
 refine A0 [1,2] hI J J J ?_
 refine Ar<|Z<|Aj ?_
 refine Y<|O<|Ab 1 [0] [(23,(.q ids 1 g1))] ?_
 refine C3 (e:=rS) (L:=[[112,114,111,99,101,100,117,114,97,108]]) (st:=1) (rows:=[[(.str [112,114,111,99,101,100,117,114,97,108])]]) J D0 Cf J J J J J (.cons (RowSim.refl _) .nil) (fun x=>Gp x) J J<|Ap [1,2] hI J J (B6 [[112,114,111,99,101,100,117,114,97,108]] (r3.1||(!((decide (a.Radar≥0))&&(decide (a.Radar≤64))))) r4 _ (ix ids 1) (ix ids 2) g1 v6 g8 vH5 (by exact hI.sub' J J)) J J J J J J (fun v _=>Ao (K:=3) (N:=1) Tryz.func33 hI) ?_
 rintro r5 _ _ _ ⟨v7,g9,vH6,rfl,rfl⟩
 refine A0 [1,2] hI J J J ?_
 refine Ar<|Z<|Aj ?_
 refine O<|Ab 5 [0,3,3] [(30,(.I a.Radar)),(28,(.I a.Procedural)),(26,(.q ids 1 g1))] ?_
 refine Ap [1,2] hI J J (D5 a.Procedural 0 a.Radar r5.1 r5.2 _ (ix ids 1) (ix ids 2) g1 v7 g9 vH6 (by exact hI.sub' J J)) J J J J J J (fun v _=>Ao (K:=3) (N:=1) Tryz.func33 hI) ?_
 rintro r6 _ _ _ ⟨v8,g10,vH7,rfl,rfl⟩
 refine A0 [1,2] hI J J J ?_
 refine Ar<|Z<|Aj ?_
 exact Ci (K:=3) (N:=1) (a:=((r5.1||(!((decide (a.Procedural≥0))&&(decide (a.Procedural≤a.Radar))))),r6)) (vs:=[]) [some (.rows g 1 [[(.q ids 1 g1)]]),some (.rows g1 2 [[v8,(.bool (r5.1||(!((decide (a.Procedural≥0))&&(decide (a.Procedural≤a.Radar))))))]]),Ah v8 g10 4 (List.map Ac r6)] Tryz.func33 hI J J J (.keep (.keep (.keep (.drop .nil)))) (.same _) ⟨v8,g10,vH7,J,J⟩
theorem Ux (text:Ay)(l:List Sector)(most:Int)(s0_bad:Bool)(l1:List Token)(h0:Ag)(o0:Nat)(o1:Nat)(o2:Nat)(g:Nat)(v1:AV)(g1:Nat)(g2:Nat)(vH:Av v1 o1 g1 l1.length)(hI0:Ids h0 [o0,o1,o2] 3):Le text l most s0_bad l1≠.bad→Bq Tryz.prog 32 [(.ptr o0 g 0 0),(.str text),(.sl 5 (List.map A9 l)),(.int .i64 most),(.func (.func 33) [] [(.ptr o2 g2 0 0)])] (hp h0 [o0,o1,o2] [some (.rows g 2 [[v1,(.bool s0_bad)]]),Ah v1 g1 4 (List.map Ac l1),some (.rows g2 1 [[(.ptr o0 g 0 0)]])]) (C5 (fun a_ v h' => ∃ (v7:AV),∃ (g9:Nat),Av v7 o1 g9 a_.2.length∧v=(.tup [])∧h'=hp h0 [o0,o1,o2] [some (.rows g 2 [[v7,(.bool a_.1)]]),Ah v7 g9 4 (List.map Ac a_.2),some (.rows g2 1 [[(.ptr o0 g 0 0)]])]) h0 (Le text l most s0_bad l1)):=by
 refine Bm (n:=44) 1 Tryz.func32 J (by decide) J J hI0 J fun ids he hI=>?_
 clear hI0
 obtain rfl:ix ids 0=o0:=he 0 rfl
 obtain rfl:ix ids 1=o1:=he 1 rfl
 obtain rfl:ix ids 2=o2:=he 2 rfl
 clear he
 refine Bn (Al (Le.eq_1 _ _ _ _ _) ?_)
 refine Aj ?_
 refine Y<|O<|Ab 6 [0] [(17,(.bool s0_bad)),(12,(.q ids 0 g))] ?_
 refine B2 5 [(0,(.q ids 0 g)),(1,(.str text)),(2,(.sl 5 (List.map A9 l))),(4,(.func (.func 33) [] [(.q ids 2 g2)])),(12,(.q ids 0 g)),(22,(.bool (s0_bad||(decide ((l.length:Int) > most)))))] ?_ fun hJ=>Bw s0_bad (fun hb1=>?_) (fun hb1=>?_)
 ·refine Ab 2 [] [(24,(.ptr (ix ids 0) g 0 1))] ?_
  refine An (Aq (v:=(.bool (s0_bad||(decide ((l.length:Int) > most))))) hI J J J J Q3 J J J J J)<|Z<|Aj ?_
  refine Y<|O<|Aa (.sl 5 (List.map A9 l)) J Ad<|Aa (.I (l.length:Int)) J (A2 (Bk J1))<|Aa (.I 0) J Ad<|Z<|Ba ?_
  refine D6 [(0,(.q ids 0 g)),(1,(.str text)),(4,(.func (.func 33) [] [(.q ids 2 g2)])),(25,(.sl 5 (List.map A9 l))),(26,(.I (l.length:Int))),(27,(.I 0))] (FI J)<|Ko (P:=Tryz.prog) l (fun _ a=>C4 fun fBad l2=>Jy text a fBad l2) (((C4 fun fBad l2=>.ok (fBad,l2))):(Bool×(List Token))→R (Bool×(List Token))) (fun j=>C4 fun fBad l2=>fun(fr:Nat→AV) (h:Ag) => ∃ (v2:AV),∃ (g3:Nat),Av v2 (ix ids 1) g3 l2.length∧fr=A5 [(0,(.q ids 0 g)),(1,(.str text)),(4,(.func (.func 33) [] [(.q ids 2 g2)])),(25,(.sl 5 (List.map A9 l))),(26,(.I (l.length:Int))),(27,(.I (j:Int)))]∧h=hp h0 ids [(some (.rows g 2 [[v2,(.bool fBad)]])),(Ah v2 g3 4 (List.map Ac l2)),(some (.rows g2 1 [[(.q ids 0 g)]])),none]) ((s0_bad||(decide ((l.length:Int) > most))),l1) ?_ ?_ ?_
  ·exact⟨v1,g1,vH,J,J⟩
  ·rintro j a ha W hW ⟨fBad,l2⟩ fr h ⟨v2,g3,vH1,rfl,rfl⟩
   refine Al (m':=Jy text a fBad l2) J (Al (Jy.eq_1 _ _ _ _) ?_)
   refine Y<|O<|Aa (.bool (decide ((j:Int)<(l.length:Int)))) J (Bh J J J)<|Z<|Y<|Ev (t:=25) (L:=l) J fun hlim=>Dg J (Int.ofNat_lt.2 (Bg ha)) ?_
   refine Ax<|Y<|Ba<|Y<|O<|Aa (.cp (A9 a) 0) J (Bz (Ea J1 Gn J ha))<|Aa (.agg (A9 a)) J (Au (C7 Gn J)) ?_
   refine A8 (j:=3) hI J J J J Gn J fun g4=>An (Aq (v:=(.agg (A9 a))) hI J J J J Gn J J J J J)<|Z<|Aj ?_
   refine Y<|Y<|O<|Ab 2 [] [(32,(.bool (!(text==[]))))] ?_
   refine Z<|Dx (C4 fun fBad1 l3=>Jp a fBad1 l3) (C4 fun fBad1 l3=>fun(fr:Nat→AV) (h:Ag) => ∃ (v4:AV),∃ (g6:Nat),Av v4 (ix ids 1) g6 l3.length∧fr=A5 [(0,(.q ids 0 g)),(1,(.str text)),(4,(.func (.func 33) [] [(.q ids 2 g2)])),(11,(.q ids 3 g4)),(25,(.sl 5 (List.map A9 l))),(26,(.I (l.length:Int))),(27,(.I (j:Int)))]∧h=hp h0 ids [(some (.rows g 2 [[v4,(.bool fBad1)]])),(Ah v4 g6 4 (List.map Ac l3)),(some (.rows g2 1 [[(.q ids 0 g)]])),(some (.rows g4 5 [(A9 a)]))]) ?_ fun hJ1=>?_
   ·rintro⟨fBad1,l3⟩ fr h ⟨v4,g6,vH3,rfl,rfl⟩
    refine Al (Jp.eq_1 _ _ _)<|Y<|O<|Ab 2 [3] [(38,(.agg (A9 a))),(37,(.func (.func 33) [] [(.q ids 2 g2)]))] ?_
    refine Ap [2,0,1] hI J J (Zv a fBad1 l3 _ (ix ids 2) (ix ids 0) (ix ids 1) g2 g v4 g6 vH3 (by exact hI.sub' J J)) J J J J J J (fun v _=>Ao (K:=3) (N:=1) Tryz.func32 hI) ?_
    rintro r1 _ _ _ ⟨v5,g7,vH4,rfl,rfl⟩
    refine A0 [2,0,1] hI J J J ?_
    refine Ar<|Z<|Aj ?_
    refine O<|Aa (.q ids 0 g) J Ad<|C3 (e:=rS) (L:=[[59]]) (st:=1) (rows:=[[(.str [59])]]) J D0 Cf J J J J J (.cons (RowSim.refl _) .nil) (fun x=>Gp x) J J<|Ap [0,1] hI J J (Dr [[59]] r1.1 r1.2 _ (ix ids 0) (ix ids 1) g v5 g7 vH4 (by exact hI.sub' J J)) J J J J J J (fun v _=>Ao (K:=3) (N:=1) Tryz.func32 hI) ?_
    rintro r2 _ _ _ ⟨v6,g8,vH5,rfl,rfl⟩
    refine A0 [0,1] hI J J J ?_
    refine Ar<|Z<|Aj ?_
    refine Bi<|O<|Ab 2 [] [(27,(.I (IntKind.wrap .i64 ((j:Int)+1))))] ?_
    refine Z<|Eb [(some (.rows g 2 [[v6,(.bool r2.1)]])),(Ah v6 g8 4 (List.map Ac r2.2)),(some (.rows g2 1 [[(.q ids 0 g)]])),none] hI J (.keep (.keep (.keep (.drop .nil))))<|Bo (Um (hW (r2.1,r2.2) _ _ ⟨v6,g8,vH5,J,J⟩)) (.cons J (.cons J (.cons J (.cons J (.cons J (.cons (Eg (Bg ha) hlim) .nil))))))
   refine D2 J (fun hc=>?_) (fun hc=>?_)
   ·refine Ax<|Bo (hJ1 (fBad,l2) _ _ ⟨v2,g3,vH1,J,J⟩)
   refine O<|Ab 2 [] [(34,(.str text)),(33,(.q ids 0 g))] ?_
   refine C3 (e:=rS) (L:=[text]) (st:=1) (rows:=[[(.str text)]]) J D0 Cf J J J J J (.cons (RowSim.refl _) .nil) (fun x=>Gp x) J J<|Ap [0,1] hI J J (B6 [text] fBad l2 _ (ix ids 0) (ix ids 1) g v2 g3 vH1 (by exact hI.sub' J J)) J J J J J J (fun v _=>Ao (K:=3) (N:=1) Tryz.func32 hI) ?_
   rintro r _ _ _ ⟨v3,g5,vH2,rfl,rfl⟩
   refine A0 [0,1] hI J J J ?_
   refine Ar<|Z<|Aj ?_
   exact Bo (hJ1 (r.1,r.2) _ _ ⟨v3,g5,vH2,J,J⟩)
  rintro⟨fBad,l2⟩ fr h ⟨v2,g3,vH1,rfl,rfl⟩
  refine Al (Py _ _ _)<|Y<|O<|Aa (.bool (decide ((l.length:Int)<(l.length:Int)))) J (Bh J J J)<|Z<|Y<|Df J (Int.lt_irrefl _) ?_
  refine Cy J<|Ci (K:=3) (N:=1) (a:=(fBad,l2)) (vs:=[]) [some (.rows g 2 [[v2,(.bool fBad)]]),Ah v2 g3 4 (List.map Ac l2),some (.rows g2 1 [[(.q ids 0 g)]])] Tryz.func32 hI J J J (.keep (.keep (.keep (.keep .nil)))) (.same _) ⟨v2,g3,vH1,J,J⟩
 ·refine Az (t:=17) hb1 J<|Ab 5 [] [(22,(.bool true))] ?_
  exact Bf hJ (.cons J (.cons J (.cons J (.cons J (.cons J (.cons (E6 hb1) .nil))))))
 refine Az (t:=17) hb1 J<|By (tj:=17) (.sl 5 (List.map A9 l)) J J J Ad<|By (tj:=17) (.I (l.length:Int)) J J J (A2 (Bk J1))<|Ab 3 [] [(22,(.bool (decide ((l.length:Int) > most))))] ?_
 exact Bf hJ (.cons J (.cons J (.cons J (.cons J (.cons J (.cons (E5 hb1) .nil))))))
theorem Zm (a:Config)(s1_bad:Bool)(l:List Token)(h0:Ag)(o0:Nat)(o1:Nat)(o2:Nat)(g:Nat)(g1:Nat)(v1:AV)(g2:Nat)(vH:Av v1 o2 g2 l.length)(hI0:Ids h0 [o0,o1,o2] 3):Pq a s1_bad l≠.bad→Bq Tryz.prog 39 [(.agg (Bj a)),(.ptr o0 g 0 0)] (hp h0 [o0,o1,o2] [some (.rows g 1 [[(.ptr o1 g1 0 0)]]),some (.rows g1 2 [[v1,(.bool s1_bad)]]),Ah v1 g2 4 (List.map Ac l)]) (C5 (fun a_ v h' => ∃ (v5:AV),∃ (g7:Nat),Av v5 o2 g7 a_.2.length∧v=(.tup [])∧h'=hp h0 [o0,o1,o2] [some (.rows g 1 [[(.ptr o1 g1 0 0)]]),some (.rows g1 2 [[v5,(.bool a_.1)]]),Ah v5 g7 4 (List.map Ac a_.2)]) h0 (Pq a s1_bad l)):=by
 refine Bm (n:=16) 1 Tryz.func39 J (by decide) J J hI0 J fun ids he hI=>?_
 clear hI0
 obtain rfl:ix ids 0=o0:=he 0 rfl
 obtain rfl:ix ids 1=o1:=he 1 rfl
 obtain rfl:ix ids 2=o2:=he 2 rfl
 clear he
 refine Bn (Al (Pq.eq_1 _ _ _) ?_)
 refine Aj ?_
 refine Y<|O<|Cl (v:=(.agg (Bj a))) (j:=3) hI J J J J J J J fun g3=>Z<|Aj ?_
 refine Y<|O<|Ab 3 [0,3] [(5,(.str a.Name)),(3,(.q ids 1 g1))] ?_
 refine Ap [1,2] hI J J (Dm a.Name s1_bad l _ (ix ids 1) (ix ids 2) g1 v1 g2 vH (by exact hI.sub' J J)) J J J J J J (fun v _=>Ao (K:=3) (N:=1) Tryz.func39 hI) ?_
 rintro r _ _ _ ⟨v2,g4,vH1,rfl,rfl⟩
 refine A0 [1,2] hI J J J ?_
 refine Ar<|Z<|Aj ?_
 refine Y<|O<|Ab 1 [0] [(7,(.q ids 1 g1))] ?_
 refine C3 (e:=rS) (L:=[[61]]) (st:=1) (rows:=[[(.str [61])]]) J D0 Cf J J J J J (.cons (RowSim.refl _) .nil) (fun x=>Gp x) J J<|Ap [1,2] hI J J (Dr [[61]] r.1 r.2 _ (ix ids 1) (ix ids 2) g1 v2 g4 vH1 (by exact hI.sub' J J)) J J J J J J (fun v _=>Ao (K:=3) (N:=1) Tryz.func39 hI) ?_
 rintro r1 _ _ _ ⟨v3,g5,vH2,rfl,rfl⟩
 refine A0 [1,2] hI J J J ?_
 refine Ar<|Z<|Aj ?_
 refine O<|Ab 5 [0,3,0] [(14,(.func (.func 30) [(.q ids 1 g1)] [])),(12,(.sl 1 (List.map rS a.Names))),(10,(.q ids 1 g1))] ?_
 refine Ap [1,2] hI J J (M5 a.Names 64 r1.1 r1.2 _ (ix ids 1) (ix ids 2) g1 v3 g5 vH2 (by exact hI.sub' J J)) J J J J J J (fun v _=>Ao (K:=3) (N:=1) Tryz.func39 hI) ?_
 rintro r2 _ _ _ ⟨v4,g6,vH3,rfl,rfl⟩
 refine A0 [1,2] hI J J J ?_
 refine Ar<|Z<|Aj ?_
 exact Ci (K:=3) (N:=1) (a:=(r2.1,r2.2)) (vs:=[]) [some (.rows g 1 [[(.q ids 1 g1)]]),some (.rows g1 2 [[v4,(.bool r2.1)]]),Ah v4 g6 4 (List.map Ac r2.2)] Tryz.func39 hI J J J (.keep (.keep (.keep (.drop .nil)))) (.same _) ⟨v4,g6,vH3,J,J⟩
end Go.Am
