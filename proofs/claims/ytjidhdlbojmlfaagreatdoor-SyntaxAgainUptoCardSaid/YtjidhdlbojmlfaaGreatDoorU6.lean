/- Written by shrink.py from texts of ours: comments struck, what is not reached left out, names short. -/
import Derived.Test.YtjidhdlbojmlfaaGreatDoorU5
namespace Go.Am
open Go Go.Proofs
set_option maxRecDepth 100000
set_option maxHeartbeats 4000000
set_option linter.unusedSimpArgs false
set_option linter.unusedVariables false
theorem W2 (most:Int)(s0_l:List Token)(s0_end:Int)(l:List Volume)(l1:List Sector)(h0:Ae)(o0:Nat)(o1:Nat)(o2:Nat)(o3:Nat)(w:AV)(w1:AV)(w2:AV)(w3:AV)(w4:AV)(w5:AV)(g:Nat)(v1:AV)(g1:Nat)(v2:AV)(g2:Nat)(g3:Nat)(vH:Ay v1 o1 g1 l.length)(vH1:Ay v2 o2 g2 l1.length)(hI0:Ids h0 [o0,o1,o2,o3] 4):Ic most s0_l s0_end l l1≠.bad→Bh Tryz.prog 173 [(.ptr o0 g 0 0),(.ptr o0 g 0 3),(.int .i64 most),(.func (.func 174) [] [(.ptr o3 g3 0 0)])] (hp h0 [o0,o1,o2,o3] [some (.rows g 10 [[(.sl 4 (List.map Ac s0_l)),(.int .i64 s0_end),v1,v2,w,w1,w2,w3,w4,w5]]),Ah v1 g1 2 (List.map As l),Ah v2 g2 5 (List.map A3 l1),some (.rows g3 1 [[(.ptr o0 g 0 0)]])]) (Cs (fun a_ v h' => ∃ (v4:AV),∃ (g6:Nat),Ay v4 o2 g6 a_.2.length∧v=(.tup [])∧h'=hp h0 [o0,o1,o2,o3] [some (.rows g 10 [[(.sl 4 (List.map Ac a_.1)),(.int .i64 s0_end),v1,v4,w,w1,w2,w3,w4,w5]]),Ah v1 g1 2 (List.map As l),Ah v4 g6 5 (List.map A3 a_.2),some (.rows g3 1 [[(.ptr o0 g 0 0)]])]) h0 (Ic most s0_l s0_end l l1)):=by
 refine Bb (n:=39) 1 Tryz.func173 J (by decide) J J hI0 J fun ids he hI=>?_
 clear hI0
 obtain rfl:ix ids 0=o0:=he 0 rfl
 obtain rfl:ix ids 1=o1:=he 1 rfl
 obtain rfl:ix ids 2=o2:=he 2 rfl
 obtain rfl:ix ids 3=o3:=he 3 rfl
 clear he
 refine Bm (Ak (Ic.eq_1 _ _ _ _ _) ?_)
 refine Aj ?_
 refine Y<|Y<|O<|Ab 3 [0] [(11,v2)] ?_
 refine Z (.I (l1.length:Int)) J (A0 (Ay.len vH1 Ji))<|Ab 2 [] [(14,(.bool ((l1.length:Int)==most)))] ?_
 refine Aa<|Ed (π:=Unit) (fun _=>Ik s0_l s0_end l l1) (fun _=>fun(fr:Nat→AV) (h:Ae)=>fr=A2 [(0,(.q ids 0 g)),(1,(.ptr (ix ids 0) g 0 3)),(3,(.func (.func 174) [] [(.q ids 3 g3)]))]∧h=hp h0 ids [(some (.rows g 10 [[(.sl 4 (List.map Ac s0_l)),(.I s0_end),v1,v2,w,w1,w2,w3,w4,w5]])),(Ah v1 g1 2 (List.map As l)),(Ah v2 g2 5 (List.map A3 l1)),(some (.rows g3 1 [[(.q ids 0 g)]])),none]) ?_ fun hJ=>?_
 ·rintro _ fr h ⟨rfl,rfl⟩
  refine Ak (Ik.eq_1 _ _ _ _)<|Y<|O<|Ab 5 [0] [(21,(.sl 4 (List.map Ac s0_l))),(17,(.q ids 0 g))] ?_
  refine Gb fun hs=>Z (.sl 4 (List.map Ac (s0_l.drop 1))) J (Gu (Ny Cx Dc J hs))<|Ab 2 [] [(24,(.q ids 0 g))] ?_
  refine Aq (Ax (v:=(.sl 4 (List.map Ac (s0_l.drop 1)))) hI J J J J Cx J J J J J)<|Aa<|Aj ?_
  refine Y<|O<|Ab 2 [] [(26,(.q ids 0 g)),(25,(.func (.func 174) [] [(.q ids 3 g3)]))] ?_
  refine An [0] hI J J (Cu (s0_l.drop 1) s0_end _ (ix ids 0) v1 v2 w w1 w2 w3 w4 w5 g (by exact hI.sub' J J)) J J J J J J (fun v _=>Ao (K:=4) (N:=1) Tryz.func173 hI) ?_
  rintro r1 _ _ _ ⟨rfl,rfl⟩
  refine Aw [0] hI J J J ?_
  refine Ap<|An [3,0,1] hI J J (Uc r1 ((s0_l.drop 1).drop 1) s0_end l _ (ix ids 3) (ix ids 0) (ix ids 1) g3 v2 w w1 w2 w3 w4 w5 g v1 g1 vH (by exact hI.sub' J J)) J J J J J J (fun v _=>Ao (K:=4) (N:=1) Tryz.func173 hI) ?_
  rintro r2 _ _ _ ⟨rfl,rfl⟩
  refine Aw [3,0,1] hI J J J ?_
  refine Ap<|Bc (j:=4) hI J J J J Gp J fun g4=>Aq (Ax (v:=(.agg (A3 r2.1))) hI J J J J Gp J J J J J)<|Aa<|Aj ?_
  refine Y<|O<|Z (.q ids 0 g) J Ad<|An [0] hI J J (C5 [59] r2.2 s0_end _ (ix ids 0) v1 v2 w w1 w2 w3 w4 w5 g (by exact hI.sub' J J)) J J J J J J (fun v _=>Ao (K:=4) (N:=1) Tryz.func173 hI) ?_
  rintro _ _ _ _ ⟨rfl,rfl⟩
  refine Aw [0] hI J J J ?_
  refine Ap<|Aa<|Aj ?_
  refine Di Gg [[],[],[1],[1,2],[],[4],[1,2,3,4,5],[0,0,1,2,3,4,5,6],[0,1,2,3,4,5,6,6,6,7]] [(false,0),(false,1),(false,2),(false,3),(false,4),(true,5),(true,6),(false,7),(true,8)] (by kernel_rfl)<|Ag (.ptr (ix ids 0) g 0 3) J J Ad<|Ag (.ptr (ix ids 0) g 0 3) J J Ad<|Ag (.ptr (ix ids 0) g 0 3) J J (Bg J)<|Ag v2 J J (Au (Be hI J J J Ji J))<|Ag (.agg (A3 r2.1)) J J (Au (Be hI J J J Gp J))<|Jh J J (fun _ _=>J) (fun K hK=>Mc (e:=A3) (L:=[r2.1]) (st:=5) (rows:=[[(.str r2.1.Name),(.sl 1 (List.map rS r2.1.Names)),(.sl 1 (List.map (rI .i64) r2.1.Volumes)),(.I r2.1.Radar),(.I r2.1.Procedural)]]) Ji Gp J J J J J (.cons (RowSim.refl _) .nil) (fun x=>Rn x) J J (hK _ _ (Af J (Br J (Au (Be hI J J J Ji J)) (Br J (Bg J) (Br J Ad (Br J Ad Bw))))) ?_))
  clear hK K
  refine Kt fun hl=>Jh J J (fun _ _=>J) (fun K hK=>Iq (e:=A3) (L:=l1) (L2:=[r2.1]) (v:=v2) (g:=g2) (st:=5) (j:=2) hI J J J vH1 J (Ke J) Ji Ji J Gp J J J hl fun v3 g5 vH2=>hK _ _ (Af J (Af J (Af J (Af J (Br J Ad Bw))))) ?_)
  clear hK K
  refine Ag (.ptr (ix ids 0) g 0 3) J J (Bg J)<|Gr J (fun _ _=>J) (fun K hK=>D4 (Jj vH2 hI J J J J Ji J J J) (hK _ _ (Af J (Af J (Af J (Af J (Af J (Af J Bw)))))) ?_))
  clear hK K
  refine Ct<|Aj ?_
  exact Ce (K:=4) (N:=1) (a:=((r2.2.drop 1),(l1++[r2.1]))) (vs:=[]) [some (.rows g 10 [[(.sl 4 (List.map Ac (r2.2.drop 1))),(.I s0_end),v1,v3,w,w1,w2,w3,w4,w5]]),Ah v1 g1 2 (List.map As l),Ah v3 g5 5 (List.map A3 (l1++[r2.1])),some (.rows g3 1 [[(.q ids 0 g)]])] Tryz.func173 hI J J J (.keep (.keep (.keep (.keep (.drop .nil))))) (.same _) ⟨v3,g5,vH2,J,J⟩
 refine Cd J (fun hc=>?_) (fun hc=>?_)
 ·refine O<|Z (.q ids 0 g) J Ad<|An [0] hI J J (Ci 2 s0_l s0_end _ (ix ids 0) v1 v2 w w1 w2 w3 w4 w5 g (by exact hI.sub' J J)) J J J J J J (fun v _=>Ao (K:=4) (N:=1) Tryz.func173 hI) ?_
  rintro _ _ _ _ ⟨rfl,rfl⟩
  refine Aw [0] hI J J J ?_
  refine Ap<|Aa<|Bo (hJ () _ _ ⟨J,J⟩)
 refine Az<|Bo (hJ () _ _ ⟨J,J⟩)
theorem V6 (s0_l:List Token)(s0_end:Int)(l:List Volume)(l1:List Sector)(h0:Ae)(o0:Nat)(o1:Nat)(o2:Nat)(w:AV)(w1:AV)(w2:AV)(w3:AV)(w4:AV)(w5:AV)(g:Nat)(v1:AV)(g1:Nat)(v2:AV)(g2:Nat)(vH:Ay v1 o1 g1 l.length)(vH1:Ay v2 o2 g2 l1.length)(hI0:Ids h0 [o0,o1,o2] 3):Jz s0_l s0_end l l1≠.bad→Bh Tryz.prog 172 [(.ptr o0 g 0 0)] (hp h0 [o0,o1,o2] [some (.rows g 10 [[(.sl 4 (List.map Ac s0_l)),(.int .i64 s0_end),v1,v2,w,w1,w2,w3,w4,w5]]),Ah v1 g1 2 (List.map As l),Ah v2 g2 5 (List.map A3 l1)]) (Cs (fun a_ v h' => ∃ (v4:AV),∃ (g5:Nat),Ay v4 o2 g5 a_.2.length∧v=(.tup [])∧h'=hp h0 [o0,o1,o2] [some (.rows g 10 [[(.sl 4 (List.map Ac a_.1)),(.int .i64 s0_end),v1,v4,w,w1,w2,w3,w4,w5]]),Ah v1 g1 2 (List.map As l),Ah v4 g5 5 (List.map A3 a_.2)]) h0 (Jz s0_l s0_end l l1)):=by
 refine Bb (n:=9) 1 Tryz.func172 J (by decide) J J hI0 J fun ids he hI=>?_
 clear hI0
 obtain rfl:ix ids 0=o0:=he 0 rfl
 obtain rfl:ix ids 1=o1:=he 1 rfl
 obtain rfl:ix ids 2=o2:=he 2 rfl
 clear he
 refine Bm (Ak (Jz.eq_1 _ _ _ _) ?_)
 refine Aj ?_
 refine Y<|O<|Cv (v:=(.q ids 0 g)) (j:=3) hI J J J J J J J fun g3=>Aa<|Aj ?_
 refine Di Gg [[],[],[1],[1,2],[1,2,3],[],[0,1,2,3,4,5]] [(false,0),(false,1),(false,2),(false,3),(false,4),(false,5),(true,6)] (by kernel_rfl)<|Ag (.q ids 0 g) J J (Au (Be hI J J J Ua J))<|Ag (.q ids 0 g) J J (Au (Be hI J J J Ua J))<|Ag (.q ids 0 g) J J (Bg J)<|Ag (.ptr (ix ids 0) g 0 2) J J (B9 (By (c:=0) (off:=2) (i:=2) Z8 J Ec J))<|Ag (.ptr (ix ids 0) g 0 3) J J (B9 (By (c:=2) (off:=1) (i:=1) Ec J Ji J))<|Ag (.func (.func 174) [] [(.q ids 3 g3)]) J J R0 ?_
 refine Sz [0,1,2,3] hI J J (W2 64 s0_l s0_end l l1 _ (ix ids 0) (ix ids 1) (ix ids 2) (ix ids 3) w w1 w2 w3 w4 w5 g v1 g1 v2 g2 g3 vH vH1 (by exact hI.sub' J J)) J J J J J J J (fun v _ _ _=>Ao (K:=3) (N:=1) Tryz.func172 hI) ?_
 rintro r _ _ _ ⟨v3,g4,vH2,rfl,rfl⟩
 refine U6 [0,1,2,3] [some (.rows g 10 [[(.sl 4 (List.map Ac r.1)),(.I s0_end),v1,v3,w,w1,w2,w3,w4,w5]]),Ah v1 g1 2 (List.map As l),Ah v3 g4 5 (List.map A3 r.2),some (.rows g3 1 [[(.q ids 0 g)]])] hI J J J J ⟨(Af J (Af J (Af J (Af J (Af J (Af J Bw)))))),?_⟩
 refine Ur<|Ct<|Aj ?_
 exact Ce (K:=3) (N:=1) (a:=(r.1,r.2)) (vs:=[]) [some (.rows g 10 [[(.sl 4 (List.map Ac r.1)),(.I s0_end),v1,v3,w,w1,w2,w3,w4,w5]]),Ah v1 g1 2 (List.map As l),Ah v3 g4 5 (List.map A3 r.2)] Tryz.func172 hI J J J (.keep (.keep (.keep (.drop .nil)))) (.same _) ⟨v3,g4,vH2,J,J⟩
theorem Wz (most:Int)(s0_l:List Token)(s0_end:Int)(l:List Volume)(l1:List Config)(h0:Ae)(o0:Nat)(o1:Nat)(o2:Nat)(o3:Nat)(w:AV)(w1:AV)(w2:AV)(w3:AV)(w4:AV)(w5:AV)(g:Nat)(v1:AV)(g1:Nat)(v2:AV)(g2:Nat)(g3:Nat)(vH:Ay v1 o1 g1 l.length)(vH1:Ay v2 o2 g2 l1.length)(hI0:Ids h0 [o0,o1,o2,o3] 4):Ie most s0_l s0_end l l1≠.bad→Bh Tryz.prog 181 [(.ptr o0 g 0 0),(.ptr o0 g 0 4),(.int .i64 most),(.func (.func 182) [] [(.ptr o3 g3 0 0)])] (hp h0 [o0,o1,o2,o3] [some (.rows g 10 [[(.sl 4 (List.map Ac s0_l)),(.int .i64 s0_end),v1,w,v2,w1,w2,w3,w4,w5]]),Ah v1 g1 2 (List.map As l),Ah v2 g2 3 (List.map Bf l1),some (.rows g3 1 [[(.ptr o0 g 0 0)]])]) (Cs (fun a_ v h' => ∃ (v4:AV),∃ (g6:Nat),Ay v4 o2 g6 a_.2.length∧v=(.tup [])∧h'=hp h0 [o0,o1,o2,o3] [some (.rows g 10 [[(.sl 4 (List.map Ac a_.1)),(.int .i64 s0_end),v1,w,v4,w1,w2,w3,w4,w5]]),Ah v1 g1 2 (List.map As l),Ah v4 g6 3 (List.map Bf a_.2),some (.rows g3 1 [[(.ptr o0 g 0 0)]])]) h0 (Ie most s0_l s0_end l l1)):=by
 refine Bb (n:=39) 1 Tryz.func181 J (by decide) J J hI0 J fun ids he hI=>?_
 clear hI0
 obtain rfl:ix ids 0=o0:=he 0 rfl
 obtain rfl:ix ids 1=o1:=he 1 rfl
 obtain rfl:ix ids 2=o2:=he 2 rfl
 obtain rfl:ix ids 3=o3:=he 3 rfl
 clear he
 refine Bm (Ak (Ie.eq_1 _ _ _ _ _) ?_)
 refine Aj ?_
 refine Y<|Y<|O<|Ab 3 [0] [(11,v2)] ?_
 refine Z (.I (l1.length:Int)) J (A0 (Ay.len vH1 K1))<|Ab 2 [] [(14,(.bool ((l1.length:Int)==most)))] ?_
 refine Aa<|Ed (π:=Unit) (fun _=>Im s0_l s0_end l l1) (fun _=>fun(fr:Nat→AV) (h:Ae)=>fr=A2 [(0,(.q ids 0 g)),(1,(.ptr (ix ids 0) g 0 4)),(3,(.func (.func 182) [] [(.q ids 3 g3)]))]∧h=hp h0 ids [(some (.rows g 10 [[(.sl 4 (List.map Ac s0_l)),(.I s0_end),v1,w,v2,w1,w2,w3,w4,w5]])),(Ah v1 g1 2 (List.map As l)),(Ah v2 g2 3 (List.map Bf l1)),(some (.rows g3 1 [[(.q ids 0 g)]])),none]) ?_ fun hJ=>?_
 ·rintro _ fr h ⟨rfl,rfl⟩
  refine Ak (Im.eq_1 _ _ _ _)<|Y<|O<|Ab 5 [0] [(21,(.sl 4 (List.map Ac s0_l))),(17,(.q ids 0 g))] ?_
  refine Gb fun hs=>Z (.sl 4 (List.map Ac (s0_l.drop 1))) J (Gu (Ny Cx Dc J hs))<|Ab 2 [] [(24,(.q ids 0 g))] ?_
  refine Aq (Ax (v:=(.sl 4 (List.map Ac (s0_l.drop 1)))) hI J J J J Cx J J J J J)<|Aa<|Aj ?_
  refine Y<|O<|Ab 2 [] [(26,(.q ids 0 g)),(25,(.func (.func 182) [] [(.q ids 3 g3)]))] ?_
  refine An [0] hI J J (Cu (s0_l.drop 1) s0_end _ (ix ids 0) v1 w v2 w1 w2 w3 w4 w5 g (by exact hI.sub' J J)) J J J J J J (fun v _=>Ao (K:=4) (N:=1) Tryz.func181 hI) ?_
  rintro r1 _ _ _ ⟨rfl,rfl⟩
  refine Aw [0] hI J J J ?_
  refine Ap<|An [3,0,1] hI J J (Ug r1 ((s0_l.drop 1).drop 1) s0_end l _ (ix ids 3) (ix ids 0) (ix ids 1) g3 w v2 w1 w2 w3 w4 w5 g v1 g1 vH (by exact hI.sub' J J)) J J J J J J (fun v _=>Ao (K:=4) (N:=1) Tryz.func181 hI) ?_
  rintro r2 _ _ _ ⟨rfl,rfl⟩
  refine Aw [3,0,1] hI J J J ?_
  refine Ap<|Bc (j:=4) hI J J J J Iu J fun g4=>Aq (Ax (v:=(.agg (Bf r2.1))) hI J J J J Iu J J J J J)<|Aa<|Aj ?_
  refine Y<|O<|Z (.q ids 0 g) J Ad<|An [0] hI J J (C5 [59] r2.2 s0_end _ (ix ids 0) v1 w v2 w1 w2 w3 w4 w5 g (by exact hI.sub' J J)) J J J J J J (fun v _=>Ao (K:=4) (N:=1) Tryz.func181 hI) ?_
  rintro _ _ _ _ ⟨rfl,rfl⟩
  refine Aw [0] hI J J J ?_
  refine Ap<|Aa<|Aj ?_
  refine Di Gg [[],[],[1],[1,2],[],[4],[1,2,3,4,5],[0,0,1,2,3,4,5,6],[0,1,2,3,4,5,6,6,6,7]] [(false,0),(false,1),(false,2),(false,3),(false,4),(true,5),(true,6),(false,7),(true,8)] (by kernel_rfl)<|Ag (.ptr (ix ids 0) g 0 4) J J Ad<|Ag (.ptr (ix ids 0) g 0 4) J J Ad<|Ag (.ptr (ix ids 0) g 0 4) J J (Bg J)<|Ag v2 J J (Au (Be hI J J J K1 J))<|Ag (.agg (Bf r2.1)) J J (Au (Be hI J J J Iu J))<|Jh J J (fun _ _=>J) (fun K hK=>Mc (e:=Bf) (L:=[r2.1]) (st:=3) (rows:=[[(.str r2.1.Name),(.sl 1 (List.map rS r2.1.Names)),(.sl 1 (List.map (rI .i64) r2.1.Sectors))]]) K1 Iu J J J J J (.cons (RowSim.refl _) .nil) (fun x=>Vg x) J J (hK _ _ (Af J (Br J (Au (Be hI J J J K1 J)) (Br J (Bg J) (Br J Ad (Br J Ad Bw))))) ?_))
  clear hK K
  refine Kt fun hl=>Jh J J (fun _ _=>J) (fun K hK=>Iq (e:=Bf) (L:=l1) (L2:=[r2.1]) (v:=v2) (g:=g2) (st:=3) (j:=2) hI J J J vH1 J (Ke J) K1 K1 J Iu J J J hl fun v3 g5 vH2=>hK _ _ (Af J (Af J (Af J (Af J (Br J Ad Bw))))) ?_)
  clear hK K
  refine Ag (.ptr (ix ids 0) g 0 4) J J (Bg J)<|Gr J (fun _ _=>J) (fun K hK=>D4 (Jj vH2 hI J J J J K1 J J J) (hK _ _ (Af J (Af J (Af J (Af J (Af J (Af J Bw)))))) ?_))
  clear hK K
  refine Ct<|Aj ?_
  exact Ce (K:=4) (N:=1) (a:=((r2.2.drop 1),(l1++[r2.1]))) (vs:=[]) [some (.rows g 10 [[(.sl 4 (List.map Ac (r2.2.drop 1))),(.I s0_end),v1,w,v3,w1,w2,w3,w4,w5]]),Ah v1 g1 2 (List.map As l),Ah v3 g5 3 (List.map Bf (l1++[r2.1])),some (.rows g3 1 [[(.q ids 0 g)]])] Tryz.func181 hI J J J (.keep (.keep (.keep (.keep (.drop .nil))))) (.same _) ⟨v3,g5,vH2,J,J⟩
 refine Cd J (fun hc=>?_) (fun hc=>?_)
 ·refine O<|Z (.q ids 0 g) J Ad<|An [0] hI J J (Ci 2 s0_l s0_end _ (ix ids 0) v1 w v2 w1 w2 w3 w4 w5 g (by exact hI.sub' J J)) J J J J J J (fun v _=>Ao (K:=4) (N:=1) Tryz.func181 hI) ?_
  rintro _ _ _ _ ⟨rfl,rfl⟩
  refine Aw [0] hI J J J ?_
  refine Ap<|Aa<|Bo (hJ () _ _ ⟨J,J⟩)
 refine Az<|Bo (hJ () _ _ ⟨J,J⟩)
theorem Wh (s0_l:List Token)(s0_end:Int)(l:List Volume)(l1:List Config)(h0:Ae)(o0:Nat)(o1:Nat)(o2:Nat)(w:AV)(w1:AV)(w2:AV)(w3:AV)(w4:AV)(w5:AV)(g:Nat)(v1:AV)(g1:Nat)(v2:AV)(g2:Nat)(vH:Ay v1 o1 g1 l.length)(vH1:Ay v2 o2 g2 l1.length)(hI0:Ids h0 [o0,o1,o2] 3):J0 s0_l s0_end l l1≠.bad→Bh Tryz.prog 180 [(.ptr o0 g 0 0)] (hp h0 [o0,o1,o2] [some (.rows g 10 [[(.sl 4 (List.map Ac s0_l)),(.int .i64 s0_end),v1,w,v2,w1,w2,w3,w4,w5]]),Ah v1 g1 2 (List.map As l),Ah v2 g2 3 (List.map Bf l1)]) (Cs (fun a_ v h' => ∃ (v4:AV),∃ (g5:Nat),Ay v4 o2 g5 a_.2.length∧v=(.tup [])∧h'=hp h0 [o0,o1,o2] [some (.rows g 10 [[(.sl 4 (List.map Ac a_.1)),(.int .i64 s0_end),v1,w,v4,w1,w2,w3,w4,w5]]),Ah v1 g1 2 (List.map As l),Ah v4 g5 3 (List.map Bf a_.2)]) h0 (J0 s0_l s0_end l l1)):=by
 refine Bb (n:=9) 1 Tryz.func180 J (by decide) J J hI0 J fun ids he hI=>?_
 clear hI0
 obtain rfl:ix ids 0=o0:=he 0 rfl
 obtain rfl:ix ids 1=o1:=he 1 rfl
 obtain rfl:ix ids 2=o2:=he 2 rfl
 clear he
 refine Bm (Ak (J0.eq_1 _ _ _ _) ?_)
 refine Aj ?_
 refine Y<|O<|Cv (v:=(.q ids 0 g)) (j:=3) hI J J J J J J J fun g3=>Aa<|Aj ?_
 refine Di Gg [[],[],[1],[1,2],[1,2,3],[],[0,1,2,3,4,5]] [(false,0),(false,1),(false,2),(false,3),(false,4),(false,5),(true,6)] (by kernel_rfl)<|Ag (.q ids 0 g) J J (Au (Be hI J J J Ua J))<|Ag (.q ids 0 g) J J (Au (Be hI J J J Ua J))<|Ag (.q ids 0 g) J J (Bg J)<|Ag (.ptr (ix ids 0) g 0 2) J J (B9 (By (c:=0) (off:=2) (i:=2) Z8 J Ec J))<|Ag (.ptr (ix ids 0) g 0 4) J J (B9 (By (c:=2) (off:=2) (i:=2) Ec J K1 J))<|Ag (.func (.func 182) [] [(.q ids 3 g3)]) J J R0 ?_
 refine Sz [0,1,2,3] hI J J (Wz 32 s0_l s0_end l l1 _ (ix ids 0) (ix ids 1) (ix ids 2) (ix ids 3) w w1 w2 w3 w4 w5 g v1 g1 v2 g2 g3 vH vH1 (by exact hI.sub' J J)) J J J J J J J (fun v _ _ _=>Ao (K:=3) (N:=1) Tryz.func180 hI) ?_
 rintro r _ _ _ ⟨v3,g4,vH2,rfl,rfl⟩
 refine U6 [0,1,2,3] [some (.rows g 10 [[(.sl 4 (List.map Ac r.1)),(.I s0_end),v1,w,v3,w1,w2,w3,w4,w5]]),Ah v1 g1 2 (List.map As l),Ah v3 g4 3 (List.map Bf r.2),some (.rows g3 1 [[(.q ids 0 g)]])] hI J J J J ⟨(Af J (Af J (Af J (Af J (Af J (Af J Bw)))))),?_⟩
 refine Ur<|Ct<|Aj ?_
 exact Ce (K:=3) (N:=1) (a:=(r.1,r.2)) (vs:=[]) [some (.rows g 10 [[(.sl 4 (List.map Ac r.1)),(.I s0_end),v1,w,v3,w1,w2,w3,w4,w5]]),Ah v1 g1 2 (List.map As l),Ah v3 g4 3 (List.map Bf r.2)] Tryz.func180 hI J J J (.keep (.keep (.keep (.drop .nil)))) (.same _) ⟨v3,g4,vH2,J,J⟩
theorem V1 (most:Int)(s0_l:List Token)(s0_end:Int)(l:List Volume)(l1:List Segment)(h0:Ae)(o0:Nat)(o1:Nat)(o2:Nat)(o3:Nat)(w:AV)(w1:AV)(w2:AV)(w3:AV)(w4:AV)(w5:AV)(g:Nat)(v1:AV)(g1:Nat)(v2:AV)(g2:Nat)(g3:Nat)(vH:Ay v1 o1 g1 l.length)(vH1:Ay v2 o2 g2 l1.length)(hI0:Ids h0 [o0,o1,o2,o3] 4):Hx most s0_l s0_end l l1≠.bad→Bh Tryz.prog 184 [(.ptr o0 g 0 0),(.ptr o0 g 0 5),(.int .i64 most),(.func (.func 185) [] [(.ptr o3 g3 0 0)])] (hp h0 [o0,o1,o2,o3] [some (.rows g 10 [[(.sl 4 (List.map Ac s0_l)),(.int .i64 s0_end),v1,w,w1,v2,w2,w3,w4,w5]]),Ah v1 g1 2 (List.map As l),Ah v2 g2 5 (List.map A9 l1),some (.rows g3 1 [[(.ptr o0 g 0 0)]])]) (Cs (fun a_ v h' => ∃ (v4:AV),∃ (g6:Nat),Ay v4 o2 g6 a_.2.length∧v=(.tup [])∧h'=hp h0 [o0,o1,o2,o3] [some (.rows g 10 [[(.sl 4 (List.map Ac a_.1)),(.int .i64 s0_end),v1,w,w1,v4,w2,w3,w4,w5]]),Ah v1 g1 2 (List.map As l),Ah v4 g6 5 (List.map A9 a_.2),some (.rows g3 1 [[(.ptr o0 g 0 0)]])]) h0 (Hx most s0_l s0_end l l1)):=by
 refine Bb (n:=39) 1 Tryz.func184 J (by decide) J J hI0 J fun ids he hI=>?_
 clear hI0
 obtain rfl:ix ids 0=o0:=he 0 rfl
 obtain rfl:ix ids 1=o1:=he 1 rfl
 obtain rfl:ix ids 2=o2:=he 2 rfl
 obtain rfl:ix ids 3=o3:=he 3 rfl
 clear he
 refine Bm (Ak (Hx.eq_1 _ _ _ _ _) ?_)
 refine Aj ?_
 refine Y<|Y<|O<|Ab 3 [0] [(11,v2)] ?_
 refine Z (.I (l1.length:Int)) J (A0 (Ay.len vH1 K3))<|Ab 2 [] [(14,(.bool ((l1.length:Int)==most)))] ?_
 refine Aa<|Ed (π:=Unit) (fun _=>H4 s0_l s0_end l l1) (fun _=>fun(fr:Nat→AV) (h:Ae)=>fr=A2 [(0,(.q ids 0 g)),(1,(.ptr (ix ids 0) g 0 5)),(3,(.func (.func 185) [] [(.q ids 3 g3)]))]∧h=hp h0 ids [(some (.rows g 10 [[(.sl 4 (List.map Ac s0_l)),(.I s0_end),v1,w,w1,v2,w2,w3,w4,w5]])),(Ah v1 g1 2 (List.map As l)),(Ah v2 g2 5 (List.map A9 l1)),(some (.rows g3 1 [[(.q ids 0 g)]])),none]) ?_ fun hJ=>?_
 ·rintro _ fr h ⟨rfl,rfl⟩
  refine Ak (H4.eq_1 _ _ _ _)<|Y<|O<|Ab 5 [0] [(21,(.sl 4 (List.map Ac s0_l))),(17,(.q ids 0 g))] ?_
  refine Gb fun hs=>Z (.sl 4 (List.map Ac (s0_l.drop 1))) J (Gu (Ny Cx Dc J hs))<|Ab 2 [] [(24,(.q ids 0 g))] ?_
  refine Aq (Ax (v:=(.sl 4 (List.map Ac (s0_l.drop 1)))) hI J J J J Cx J J J J J)<|Aa<|Aj ?_
  refine Y<|O<|Ab 2 [] [(26,(.q ids 0 g)),(25,(.func (.func 185) [] [(.q ids 3 g3)]))] ?_
  refine An [0] hI J J (Cu (s0_l.drop 1) s0_end _ (ix ids 0) v1 w w1 v2 w2 w3 w4 w5 g (by exact hI.sub' J J)) J J J J J J (fun v _=>Ao (K:=4) (N:=1) Tryz.func184 hI) ?_
  rintro r1 _ _ _ ⟨rfl,rfl⟩
  refine Aw [0] hI J J J ?_
  refine Ap<|An [3,0,1] hI J J (Uh r1 ((s0_l.drop 1).drop 1) s0_end l _ (ix ids 3) (ix ids 0) (ix ids 1) g3 w w1 v2 w2 w3 w4 w5 g v1 g1 vH (by exact hI.sub' J J)) J J J J J J (fun v _=>Ao (K:=4) (N:=1) Tryz.func184 hI) ?_
  rintro r2 _ _ _ ⟨rfl,rfl⟩
  refine Aw [3,0,1] hI J J J ?_
  refine Ap<|Bc (j:=4) hI J J J J Hn J fun g4=>Aq (Ax (v:=(.agg (A9 r2.1))) hI J J J J Hn J J J J J)<|Aa<|Aj ?_
  refine Y<|O<|Z (.q ids 0 g) J Ad<|An [0] hI J J (C5 [59] r2.2 s0_end _ (ix ids 0) v1 w w1 v2 w2 w3 w4 w5 g (by exact hI.sub' J J)) J J J J J J (fun v _=>Ao (K:=4) (N:=1) Tryz.func184 hI) ?_
  rintro _ _ _ _ ⟨rfl,rfl⟩
  refine Aw [0] hI J J J ?_
  refine Ap<|Aa<|Aj ?_
  refine Di Gg [[],[],[1],[1,2],[],[4],[1,2,3,4,5],[0,0,1,2,3,4,5,6],[0,1,2,3,4,5,6,6,6,7]] [(false,0),(false,1),(false,2),(false,3),(false,4),(true,5),(true,6),(false,7),(true,8)] (by kernel_rfl)<|Ag (.ptr (ix ids 0) g 0 5) J J Ad<|Ag (.ptr (ix ids 0) g 0 5) J J Ad<|Ag (.ptr (ix ids 0) g 0 5) J J (Bg J)<|Ag v2 J J (Au (Be hI J J J K3 J))<|Ag (.agg (A9 r2.1)) J J (Au (Be hI J J J Hn J))<|Jh J J (fun _ _=>J) (fun K hK=>Mc (e:=A9) (L:=[r2.1]) (st:=5) (rows:=[[(.str r2.1.Name),(.str r2.1.In),(.I r2.1.Volume),(.I r2.1.Length),(.sl 2 (List.map Cc r2.1.Open))]]) K3 Hn J J J J J (.cons (RowSim.refl _) .nil) (fun x=>Tz x) J J (hK _ _ (Af J (Br J (Au (Be hI J J J K3 J)) (Br J (Bg J) (Br J Ad (Br J Ad Bw))))) ?_))
  clear hK K
  refine Kt fun hl=>Jh J J (fun _ _=>J) (fun K hK=>Iq (e:=A9) (L:=l1) (L2:=[r2.1]) (v:=v2) (g:=g2) (st:=5) (j:=2) hI J J J vH1 J (Ke J) K3 K3 J Hn J J J hl fun v3 g5 vH2=>hK _ _ (Af J (Af J (Af J (Af J (Br J Ad Bw))))) ?_)
  clear hK K
  refine Ag (.ptr (ix ids 0) g 0 5) J J (Bg J)<|Gr J (fun _ _=>J) (fun K hK=>D4 (Jj vH2 hI J J J J K3 J J J) (hK _ _ (Af J (Af J (Af J (Af J (Af J (Af J Bw)))))) ?_))
  clear hK K
  refine Ct<|Aj ?_
  exact Ce (K:=4) (N:=1) (a:=((r2.2.drop 1),(l1++[r2.1]))) (vs:=[]) [some (.rows g 10 [[(.sl 4 (List.map Ac (r2.2.drop 1))),(.I s0_end),v1,w,w1,v3,w2,w3,w4,w5]]),Ah v1 g1 2 (List.map As l),Ah v3 g5 5 (List.map A9 (l1++[r2.1])),some (.rows g3 1 [[(.q ids 0 g)]])] Tryz.func184 hI J J J (.keep (.keep (.keep (.keep (.drop .nil))))) (.same _) ⟨v3,g5,vH2,J,J⟩
 refine Cd J (fun hc=>?_) (fun hc=>?_)
 ·refine O<|Z (.q ids 0 g) J Ad<|An [0] hI J J (Ci 2 s0_l s0_end _ (ix ids 0) v1 w w1 v2 w2 w3 w4 w5 g (by exact hI.sub' J J)) J J J J J J (fun v _=>Ao (K:=4) (N:=1) Tryz.func184 hI) ?_
  rintro _ _ _ _ ⟨rfl,rfl⟩
  refine Aw [0] hI J J J ?_
  refine Ap<|Aa<|Bo (hJ () _ _ ⟨J,J⟩)
 refine Az<|Bo (hJ () _ _ ⟨J,J⟩)
theorem V0 (s0_l:List Token)(s0_end:Int)(l:List Volume)(l1:List Segment)(h0:Ae)(o0:Nat)(o1:Nat)(o2:Nat)(w:AV)(w1:AV)(w2:AV)(w3:AV)(w4:AV)(w5:AV)(g:Nat)(v1:AV)(g1:Nat)(v2:AV)(g2:Nat)(vH:Ay v1 o1 g1 l.length)(vH1:Ay v2 o2 g2 l1.length)(hI0:Ids h0 [o0,o1,o2] 3):Jy s0_l s0_end l l1≠.bad→Bh Tryz.prog 183 [(.ptr o0 g 0 0)] (hp h0 [o0,o1,o2] [some (.rows g 10 [[(.sl 4 (List.map Ac s0_l)),(.int .i64 s0_end),v1,w,w1,v2,w2,w3,w4,w5]]),Ah v1 g1 2 (List.map As l),Ah v2 g2 5 (List.map A9 l1)]) (Cs (fun a_ v h' => ∃ (v4:AV),∃ (g5:Nat),Ay v4 o2 g5 a_.2.length∧v=(.tup [])∧h'=hp h0 [o0,o1,o2] [some (.rows g 10 [[(.sl 4 (List.map Ac a_.1)),(.int .i64 s0_end),v1,w,w1,v4,w2,w3,w4,w5]]),Ah v1 g1 2 (List.map As l),Ah v4 g5 5 (List.map A9 a_.2)]) h0 (Jy s0_l s0_end l l1)):=by
 refine Bb (n:=9) 1 Tryz.func183 J (by decide) J J hI0 J fun ids he hI=>?_
 clear hI0
 obtain rfl:ix ids 0=o0:=he 0 rfl
 obtain rfl:ix ids 1=o1:=he 1 rfl
 obtain rfl:ix ids 2=o2:=he 2 rfl
 clear he
 refine Bm (Ak (Jy.eq_1 _ _ _ _) ?_)
 refine Aj ?_
 refine Y<|O<|Cv (v:=(.q ids 0 g)) (j:=3) hI J J J J J J J fun g3=>Aa<|Aj ?_
 refine Di Gg [[],[],[1],[1,2],[1,2,3],[],[0,1,2,3,4,5]] [(false,0),(false,1),(false,2),(false,3),(false,4),(false,5),(true,6)] (by kernel_rfl)<|Ag (.q ids 0 g) J J (Au (Be hI J J J Ua J))<|Ag (.q ids 0 g) J J (Au (Be hI J J J Ua J))<|Ag (.q ids 0 g) J J (Bg J)<|Ag (.ptr (ix ids 0) g 0 2) J J (B9 (By (c:=0) (off:=2) (i:=2) Z8 J Ec J))<|Ag (.ptr (ix ids 0) g 0 5) J J (B9 (By (c:=2) (off:=3) (i:=3) Ec J K3 J))<|Ag (.func (.func 185) [] [(.q ids 3 g3)]) J J R0 ?_
 refine Sz [0,1,2,3] hI J J (V1 128 s0_l s0_end l l1 _ (ix ids 0) (ix ids 1) (ix ids 2) (ix ids 3) w w1 w2 w3 w4 w5 g v1 g1 v2 g2 g3 vH vH1 (by exact hI.sub' J J)) J J J J J J J (fun v _ _ _=>Ao (K:=3) (N:=1) Tryz.func183 hI) ?_
 rintro r _ _ _ ⟨v3,g4,vH2,rfl,rfl⟩
 refine U6 [0,1,2,3] [some (.rows g 10 [[(.sl 4 (List.map Ac r.1)),(.I s0_end),v1,w,w1,v3,w2,w3,w4,w5]]),Ah v1 g1 2 (List.map As l),Ah v3 g4 5 (List.map A9 r.2),some (.rows g3 1 [[(.q ids 0 g)]])] hI J J J J ⟨(Af J (Af J (Af J (Af J (Af J (Af J Bw)))))),?_⟩
 refine Ur<|Ct<|Aj ?_
 exact Ce (K:=3) (N:=1) (a:=(r.1,r.2)) (vs:=[]) [some (.rows g 10 [[(.sl 4 (List.map Ac r.1)),(.I s0_end),v1,w,w1,v3,w2,w3,w4,w5]]),Ah v1 g1 2 (List.map As l),Ah v3 g4 5 (List.map A9 r.2)] Tryz.func183 hI J J J (.keep (.keep (.keep (.drop .nil)))) (.same _) ⟨v3,g4,vH2,J,J⟩
theorem Xy (most:Int)(s0_l:List Token)(s0_end:Int)(l:List Volume)(l1:List Route)(h0:Ae)(o0:Nat)(o1:Nat)(o2:Nat)(o3:Nat)(w:AV)(w1:AV)(w2:AV)(w3:AV)(w4:AV)(w5:AV)(g:Nat)(v1:AV)(g1:Nat)(v2:AV)(g2:Nat)(g3:Nat)(vH:Ay v1 o1 g1 l.length)(vH1:Ay v2 o2 g2 l1.length)(hI0:Ids h0 [o0,o1,o2,o3] 4):Iy most s0_l s0_end l l1≠.bad→Bh Tryz.prog 187 [(.ptr o0 g 0 0),(.ptr o0 g 0 6),(.int .i64 most),(.func (.func 188) [] [(.ptr o3 g3 0 0)])] (hp h0 [o0,o1,o2,o3] [some (.rows g 10 [[(.sl 4 (List.map Ac s0_l)),(.int .i64 s0_end),v1,w,w1,w2,v2,w3,w4,w5]]),Ah v1 g1 2 (List.map As l),Ah v2 g2 7 (List.map Bp l1),some (.rows g3 1 [[(.ptr o0 g 0 0)]])]) (Cs (fun a_ v h' => ∃ (v4:AV),∃ (g6:Nat),Ay v4 o2 g6 a_.2.length∧v=(.tup [])∧h'=hp h0 [o0,o1,o2,o3] [some (.rows g 10 [[(.sl 4 (List.map Ac a_.1)),(.int .i64 s0_end),v1,w,w1,w2,v4,w3,w4,w5]]),Ah v1 g1 2 (List.map As l),Ah v4 g6 7 (List.map Bp a_.2),some (.rows g3 1 [[(.ptr o0 g 0 0)]])]) h0 (Iy most s0_l s0_end l l1)):=by
 refine Bb (n:=39) 1 Tryz.func187 J (by decide) J J hI0 J fun ids he hI=>?_
 clear hI0
 obtain rfl:ix ids 0=o0:=he 0 rfl
 obtain rfl:ix ids 1=o1:=he 1 rfl
 obtain rfl:ix ids 2=o2:=he 2 rfl
 obtain rfl:ix ids 3=o3:=he 3 rfl
 clear he
 refine Bm (Ak (Iy.eq_1 _ _ _ _ _) ?_)
 refine Aj ?_
 refine Y<|Y<|O<|Ab 3 [0] [(11,v2)] ?_
 refine Z (.I (l1.length:Int)) J (A0 (Ay.len vH1 K4))<|Ab 2 [] [(14,(.bool ((l1.length:Int)==most)))] ?_
 refine Aa<|Ed (π:=Unit) (fun _=>I6 s0_l s0_end l l1) (fun _=>fun(fr:Nat→AV) (h:Ae)=>fr=A2 [(0,(.q ids 0 g)),(1,(.ptr (ix ids 0) g 0 6)),(3,(.func (.func 188) [] [(.q ids 3 g3)]))]∧h=hp h0 ids [(some (.rows g 10 [[(.sl 4 (List.map Ac s0_l)),(.I s0_end),v1,w,w1,w2,v2,w3,w4,w5]])),(Ah v1 g1 2 (List.map As l)),(Ah v2 g2 7 (List.map Bp l1)),(some (.rows g3 1 [[(.q ids 0 g)]])),none]) ?_ fun hJ=>?_
 ·rintro _ fr h ⟨rfl,rfl⟩
  refine Ak (I6.eq_1 _ _ _ _)<|Y<|O<|Ab 5 [0] [(21,(.sl 4 (List.map Ac s0_l))),(17,(.q ids 0 g))] ?_
  refine Gb fun hs=>Z (.sl 4 (List.map Ac (s0_l.drop 1))) J (Gu (Ny Cx Dc J hs))<|Ab 2 [] [(24,(.q ids 0 g))] ?_
  refine Aq (Ax (v:=(.sl 4 (List.map Ac (s0_l.drop 1)))) hI J J J J Cx J J J J J)<|Aa<|Aj ?_
  refine Y<|O<|Ab 2 [] [(26,(.q ids 0 g)),(25,(.func (.func 188) [] [(.q ids 3 g3)]))] ?_
  refine An [0] hI J J (Cu (s0_l.drop 1) s0_end _ (ix ids 0) v1 w w1 w2 v2 w3 w4 w5 g (by exact hI.sub' J J)) J J J J J J (fun v _=>Ao (K:=4) (N:=1) Tryz.func187 hI) ?_
  rintro r1 _ _ _ ⟨rfl,rfl⟩
  refine Aw [0] hI J J J ?_
  refine Ap<|An [3,0,1] hI J J (Ue r1 ((s0_l.drop 1).drop 1) s0_end l _ (ix ids 3) (ix ids 0) (ix ids 1) g3 w w1 w2 v2 w3 w4 w5 g v1 g1 vH (by exact hI.sub' J J)) J J J J J J (fun v _=>Ao (K:=4) (N:=1) Tryz.func187 hI) ?_
  rintro r2 _ _ _ ⟨rfl,rfl⟩
  refine Aw [3,0,1] hI J J J ?_
  refine Ap<|Bc (j:=4) hI J J J J Gz J fun g4=>Aq (Ax (v:=(.agg (Bp r2.1))) hI J J J J Gz J J J J J)<|Aa<|Aj ?_
  refine Y<|O<|Z (.q ids 0 g) J Ad<|An [0] hI J J (C5 [59] r2.2 s0_end _ (ix ids 0) v1 w w1 w2 v2 w3 w4 w5 g (by exact hI.sub' J J)) J J J J J J (fun v _=>Ao (K:=4) (N:=1) Tryz.func187 hI) ?_
  rintro _ _ _ _ ⟨rfl,rfl⟩
  refine Aw [0] hI J J J ?_
  refine Ap<|Aa<|Aj ?_
  refine Di Gg [[],[],[1],[1,2],[],[4],[1,2,3,4,5],[0,0,1,2,3,4,5,6],[0,1,2,3,4,5,6,6,6,7]] [(false,0),(false,1),(false,2),(false,3),(false,4),(true,5),(true,6),(false,7),(true,8)] (by kernel_rfl)<|Ag (.ptr (ix ids 0) g 0 6) J J Ad<|Ag (.ptr (ix ids 0) g 0 6) J J Ad<|Ag (.ptr (ix ids 0) g 0 6) J J (Bg J)<|Ag v2 J J (Au (Be hI J J J K4 J))<|Ag (.agg (Bp r2.1)) J J (Au (Be hI J J J Gz J))<|Jh J J (fun _ _=>J) (fun K hK=>Mc (e:=Bp) (L:=[r2.1]) (st:=7) (rows:=[[(.str r2.1.Name),(.str r2.1.A),(.str r2.1.B),(.I r2.1.From),(.I r2.1.To),(.sl 1 (List.map rS r2.1.Names)),(.sl 1 (List.map (rI .i64) r2.1.Segments))]]) K4 Gz J J J J J (.cons (RowSim.refl _) .nil) (fun x=>Xm x) J J (hK _ _ (Af J (Br J (Au (Be hI J J J K4 J)) (Br J (Bg J) (Br J Ad (Br J Ad Bw))))) ?_))
  clear hK K
  refine Kt fun hl=>Jh J J (fun _ _=>J) (fun K hK=>Iq (e:=Bp) (L:=l1) (L2:=[r2.1]) (v:=v2) (g:=g2) (st:=7) (j:=2) hI J J J vH1 J (Ke J) K4 K4 J Gz J J J hl fun v3 g5 vH2=>hK _ _ (Af J (Af J (Af J (Af J (Br J Ad Bw))))) ?_)
  clear hK K
  refine Ag (.ptr (ix ids 0) g 0 6) J J (Bg J)<|Gr J (fun _ _=>J) (fun K hK=>D4 (Jj vH2 hI J J J J K4 J J J) (hK _ _ (Af J (Af J (Af J (Af J (Af J (Af J Bw)))))) ?_))
  clear hK K
  refine Ct<|Aj ?_
  exact Ce (K:=4) (N:=1) (a:=((r2.2.drop 1),(l1++[r2.1]))) (vs:=[]) [some (.rows g 10 [[(.sl 4 (List.map Ac (r2.2.drop 1))),(.I s0_end),v1,w,w1,w2,v3,w3,w4,w5]]),Ah v1 g1 2 (List.map As l),Ah v3 g5 7 (List.map Bp (l1++[r2.1])),some (.rows g3 1 [[(.q ids 0 g)]])] Tryz.func187 hI J J J (.keep (.keep (.keep (.keep (.drop .nil))))) (.same _) ⟨v3,g5,vH2,J,J⟩
 refine Cd J (fun hc=>?_) (fun hc=>?_)
 ·refine O<|Z (.q ids 0 g) J Ad<|An [0] hI J J (Ci 2 s0_l s0_end _ (ix ids 0) v1 w w1 w2 v2 w3 w4 w5 g (by exact hI.sub' J J)) J J J J J J (fun v _=>Ao (K:=4) (N:=1) Tryz.func187 hI) ?_
  rintro _ _ _ _ ⟨rfl,rfl⟩
  refine Aw [0] hI J J J ?_
  refine Ap<|Aa<|Bo (hJ () _ _ ⟨J,J⟩)
 refine Az<|Bo (hJ () _ _ ⟨J,J⟩)
theorem Wl (s0_l:List Token)(s0_end:Int)(l:List Volume)(l1:List Route)(h0:Ae)(o0:Nat)(o1:Nat)(o2:Nat)(w:AV)(w1:AV)(w2:AV)(w3:AV)(w4:AV)(w5:AV)(g:Nat)(v1:AV)(g1:Nat)(v2:AV)(g2:Nat)(vH:Ay v1 o1 g1 l.length)(vH1:Ay v2 o2 g2 l1.length)(hI0:Ids h0 [o0,o1,o2] 3):Jv s0_l s0_end l l1≠.bad→Bh Tryz.prog 186 [(.ptr o0 g 0 0)] (hp h0 [o0,o1,o2] [some (.rows g 10 [[(.sl 4 (List.map Ac s0_l)),(.int .i64 s0_end),v1,w,w1,w2,v2,w3,w4,w5]]),Ah v1 g1 2 (List.map As l),Ah v2 g2 7 (List.map Bp l1)]) (Cs (fun a_ v h' => ∃ (v4:AV),∃ (g5:Nat),Ay v4 o2 g5 a_.2.length∧v=(.tup [])∧h'=hp h0 [o0,o1,o2] [some (.rows g 10 [[(.sl 4 (List.map Ac a_.1)),(.int .i64 s0_end),v1,w,w1,w2,v4,w3,w4,w5]]),Ah v1 g1 2 (List.map As l),Ah v4 g5 7 (List.map Bp a_.2)]) h0 (Jv s0_l s0_end l l1)):=by
 refine Bb (n:=9) 1 Tryz.func186 J (by decide) J J hI0 J fun ids he hI=>?_
 clear hI0
 obtain rfl:ix ids 0=o0:=he 0 rfl
 obtain rfl:ix ids 1=o1:=he 1 rfl
 obtain rfl:ix ids 2=o2:=he 2 rfl
 clear he
 refine Bm (Ak (Jv.eq_1 _ _ _ _) ?_)
 refine Aj ?_
 refine Y<|O<|Cv (v:=(.q ids 0 g)) (j:=3) hI J J J J J J J fun g3=>Aa<|Aj ?_
 refine Di Gg [[],[],[1],[1,2],[1,2,3],[],[0,1,2,3,4,5]] [(false,0),(false,1),(false,2),(false,3),(false,4),(false,5),(true,6)] (by kernel_rfl)<|Ag (.q ids 0 g) J J (Au (Be hI J J J Ua J))<|Ag (.q ids 0 g) J J (Au (Be hI J J J Ua J))<|Ag (.q ids 0 g) J J (Bg J)<|Ag (.ptr (ix ids 0) g 0 2) J J (B9 (By (c:=0) (off:=2) (i:=2) Z8 J Ec J))<|Ag (.ptr (ix ids 0) g 0 6) J J (B9 (By (c:=2) (off:=4) (i:=4) Ec J K4 J))<|Ag (.func (.func 188) [] [(.q ids 3 g3)]) J J R0 ?_
 refine Sz [0,1,2,3] hI J J (Xy 64 s0_l s0_end l l1 _ (ix ids 0) (ix ids 1) (ix ids 2) (ix ids 3) w w1 w2 w3 w4 w5 g v1 g1 v2 g2 g3 vH vH1 (by exact hI.sub' J J)) J J J J J J J (fun v _ _ _=>Ao (K:=3) (N:=1) Tryz.func186 hI) ?_
 rintro r _ _ _ ⟨v3,g4,vH2,rfl,rfl⟩
 refine U6 [0,1,2,3] [some (.rows g 10 [[(.sl 4 (List.map Ac r.1)),(.I s0_end),v1,w,w1,w2,v3,w3,w4,w5]]),Ah v1 g1 2 (List.map As l),Ah v3 g4 7 (List.map Bp r.2),some (.rows g3 1 [[(.q ids 0 g)]])] hI J J J J ⟨(Af J (Af J (Af J (Af J (Af J (Af J Bw)))))),?_⟩
 refine Ur<|Ct<|Aj ?_
 exact Ce (K:=3) (N:=1) (a:=(r.1,r.2)) (vs:=[]) [some (.rows g 10 [[(.sl 4 (List.map Ac r.1)),(.I s0_end),v1,w,w1,w2,v3,w3,w4,w5]]),Ah v1 g1 2 (List.map As l),Ah v3 g4 7 (List.map Bp r.2)] Tryz.func186 hI J J J (.keep (.keep (.keep (.drop .nil)))) (.same _) ⟨v3,g4,vH2,J,J⟩
theorem Vy (most:Int)(s0_l:List Token)(s0_end:Int)(l:List Volume)(l1:List Airport)(h0:Ae)(o0:Nat)(o1:Nat)(o2:Nat)(o3:Nat)(w:AV)(w1:AV)(w2:AV)(w3:AV)(w4:AV)(w5:AV)(g:Nat)(v1:AV)(g1:Nat)(v2:AV)(g2:Nat)(g3:Nat)(vH:Ay v1 o1 g1 l.length)(vH1:Ay v2 o2 g2 l1.length)(hI0:Ids h0 [o0,o1,o2,o3] 4):Hy most s0_l s0_end l l1≠.bad→Bh Tryz.prog 190 [(.ptr o0 g 0 0),(.ptr o0 g 0 7),(.int .i64 most),(.func (.func 191) [] [(.ptr o3 g3 0 0)])] (hp h0 [o0,o1,o2,o3] [some (.rows g 10 [[(.sl 4 (List.map Ac s0_l)),(.int .i64 s0_end),v1,w,w1,w2,w3,v2,w4,w5]]),Ah v1 g1 2 (List.map As l),Ah v2 g2 2 (List.map A6 l1),some (.rows g3 1 [[(.ptr o0 g 0 0)]])]) (Cs (fun a_ v h' => ∃ (v4:AV),∃ (g6:Nat),Ay v4 o2 g6 a_.2.length∧v=(.tup [])∧h'=hp h0 [o0,o1,o2,o3] [some (.rows g 10 [[(.sl 4 (List.map Ac a_.1)),(.int .i64 s0_end),v1,w,w1,w2,w3,v4,w4,w5]]),Ah v1 g1 2 (List.map As l),Ah v4 g6 2 (List.map A6 a_.2),some (.rows g3 1 [[(.ptr o0 g 0 0)]])]) h0 (Hy most s0_l s0_end l l1)):=by
 refine Bb (n:=39) 1 Tryz.func190 J (by decide) J J hI0 J fun ids he hI=>?_
 clear hI0
 obtain rfl:ix ids 0=o0:=he 0 rfl
 obtain rfl:ix ids 1=o1:=he 1 rfl
 obtain rfl:ix ids 2=o2:=he 2 rfl
 obtain rfl:ix ids 3=o3:=he 3 rfl
 clear he
 refine Bm (Ak (Hy.eq_1 _ _ _ _ _) ?_)
 refine Aj ?_
 refine Y<|Y<|O<|Ab 3 [0] [(11,v2)] ?_
 refine Z (.I (l1.length:Int)) J (A0 (Ay.len vH1 Oe))<|Ab 2 [] [(14,(.bool ((l1.length:Int)==most)))] ?_
 refine Aa<|Ed (π:=Unit) (fun _=>H3 s0_l s0_end l l1) (fun _=>fun(fr:Nat→AV) (h:Ae)=>fr=A2 [(0,(.q ids 0 g)),(1,(.ptr (ix ids 0) g 0 7)),(3,(.func (.func 191) [] [(.q ids 3 g3)]))]∧h=hp h0 ids [(some (.rows g 10 [[(.sl 4 (List.map Ac s0_l)),(.I s0_end),v1,w,w1,w2,w3,v2,w4,w5]])),(Ah v1 g1 2 (List.map As l)),(Ah v2 g2 2 (List.map A6 l1)),(some (.rows g3 1 [[(.q ids 0 g)]])),none]) ?_ fun hJ=>?_
 ·rintro _ fr h ⟨rfl,rfl⟩
  refine Ak (H3.eq_1 _ _ _ _)<|Y<|O<|Ab 5 [0] [(21,(.sl 4 (List.map Ac s0_l))),(17,(.q ids 0 g))] ?_
  refine Gb fun hs=>Z (.sl 4 (List.map Ac (s0_l.drop 1))) J (Gu (Ny Cx Dc J hs))<|Ab 2 [] [(24,(.q ids 0 g))] ?_
  refine Aq (Ax (v:=(.sl 4 (List.map Ac (s0_l.drop 1)))) hI J J J J Cx J J J J J)<|Aa<|Aj ?_
  refine Y<|O<|Ab 2 [] [(26,(.q ids 0 g)),(25,(.func (.func 191) [] [(.q ids 3 g3)]))] ?_
  refine An [0] hI J J (Cu (s0_l.drop 1) s0_end _ (ix ids 0) v1 w w1 w2 w3 v2 w4 w5 g (by exact hI.sub' J J)) J J J J J J (fun v _=>Ao (K:=4) (N:=1) Tryz.func190 hI) ?_
  rintro r1 _ _ _ ⟨rfl,rfl⟩
  refine Aw [0] hI J J J ?_
  refine Ap<|An [3,0,1] hI J J (Uf r1 ((s0_l.drop 1).drop 1) s0_end l _ (ix ids 3) (ix ids 0) (ix ids 1) g3 w w1 w2 w3 v2 w4 w5 g v1 g1 vH (by exact hI.sub' J J)) J J J J J J (fun v _=>Ao (K:=4) (N:=1) Tryz.func190 hI) ?_
  rintro r2 _ _ _ ⟨rfl,rfl⟩
  refine Aw [3,0,1] hI J J J ?_
  refine Ap<|Bc (j:=4) hI J J J J J3 J fun g4=>Aq (Ax (v:=(.agg (A6 r2.1))) hI J J J J J3 J J J J J)<|Aa<|Aj ?_
  refine Y<|O<|Z (.q ids 0 g) J Ad<|An [0] hI J J (C5 [59] r2.2 s0_end _ (ix ids 0) v1 w w1 w2 w3 v2 w4 w5 g (by exact hI.sub' J J)) J J J J J J (fun v _=>Ao (K:=4) (N:=1) Tryz.func190 hI) ?_
  rintro _ _ _ _ ⟨rfl,rfl⟩
  refine Aw [0] hI J J J ?_
  refine Ap<|Aa<|Aj ?_
  refine Di Gg [[],[],[1],[1,2],[],[4],[1,2,3,4,5],[0,0,1,2,3,4,5,6],[0,1,2,3,4,5,6,6,6,7]] [(false,0),(false,1),(false,2),(false,3),(false,4),(true,5),(true,6),(false,7),(true,8)] (by kernel_rfl)<|Ag (.ptr (ix ids 0) g 0 7) J J Ad<|Ag (.ptr (ix ids 0) g 0 7) J J Ad<|Ag (.ptr (ix ids 0) g 0 7) J J (Bg J)<|Ag v2 J J (Au (Be hI J J J Oe J))<|Ag (.agg (A6 r2.1)) J J (Au (Be hI J J J J3 J))<|Jh J J (fun _ _=>J) (fun K hK=>Mc (e:=A6) (L:=[r2.1]) (st:=2) (rows:=[[(.str r2.1.Name),(.sl 2 (List.map Dv r2.1.Modes))]]) Oe J3 J J J J J (.cons (RowSim.refl _) .nil) (fun x=>Ww x) J J (hK _ _ (Af J (Br J (Au (Be hI J J J Oe J)) (Br J (Bg J) (Br J Ad (Br J Ad Bw))))) ?_))
  clear hK K
  refine Kt fun hl=>Jh J J (fun _ _=>J) (fun K hK=>Iq (e:=A6) (L:=l1) (L2:=[r2.1]) (v:=v2) (g:=g2) (st:=2) (j:=2) hI J J J vH1 J (Ke J) Oe Oe J J3 J J J hl fun v3 g5 vH2=>hK _ _ (Af J (Af J (Af J (Af J (Br J Ad Bw))))) ?_)
  clear hK K
  refine Ag (.ptr (ix ids 0) g 0 7) J J (Bg J)<|Gr J (fun _ _=>J) (fun K hK=>D4 (Jj vH2 hI J J J J Oe J J J) (hK _ _ (Af J (Af J (Af J (Af J (Af J (Af J Bw)))))) ?_))
  clear hK K
  refine Ct<|Aj ?_
  exact Ce (K:=4) (N:=1) (a:=((r2.2.drop 1),(l1++[r2.1]))) (vs:=[]) [some (.rows g 10 [[(.sl 4 (List.map Ac (r2.2.drop 1))),(.I s0_end),v1,w,w1,w2,w3,v3,w4,w5]]),Ah v1 g1 2 (List.map As l),Ah v3 g5 2 (List.map A6 (l1++[r2.1])),some (.rows g3 1 [[(.q ids 0 g)]])] Tryz.func190 hI J J J (.keep (.keep (.keep (.keep (.drop .nil))))) (.same _) ⟨v3,g5,vH2,J,J⟩
 refine Cd J (fun hc=>?_) (fun hc=>?_)
 ·refine O<|Z (.q ids 0 g) J Ad<|An [0] hI J J (Ci 2 s0_l s0_end _ (ix ids 0) v1 w w1 w2 w3 v2 w4 w5 g (by exact hI.sub' J J)) J J J J J J (fun v _=>Ao (K:=4) (N:=1) Tryz.func190 hI) ?_
  rintro _ _ _ _ ⟨rfl,rfl⟩
  refine Aw [0] hI J J J ?_
  refine Ap<|Aa<|Bo (hJ () _ _ ⟨J,J⟩)
 refine Az<|Bo (hJ () _ _ ⟨J,J⟩)
theorem Wn (s0_l:List Token)(s0_end:Int)(l:List Volume)(l1:List Airport)(h0:Ae)(o0:Nat)(o1:Nat)(o2:Nat)(w:AV)(w1:AV)(w2:AV)(w3:AV)(w4:AV)(w5:AV)(g:Nat)(v1:AV)(g1:Nat)(v2:AV)(g2:Nat)(vH:Ay v1 o1 g1 l.length)(vH1:Ay v2 o2 g2 l1.length)(hI0:Ids h0 [o0,o1,o2] 3):Jm s0_l s0_end l l1≠.bad→Bh Tryz.prog 189 [(.ptr o0 g 0 0)] (hp h0 [o0,o1,o2] [some (.rows g 10 [[(.sl 4 (List.map Ac s0_l)),(.int .i64 s0_end),v1,w,w1,w2,w3,v2,w4,w5]]),Ah v1 g1 2 (List.map As l),Ah v2 g2 2 (List.map A6 l1)]) (Cs (fun a_ v h' => ∃ (v4:AV),∃ (g5:Nat),Ay v4 o2 g5 a_.2.length∧v=(.tup [])∧h'=hp h0 [o0,o1,o2] [some (.rows g 10 [[(.sl 4 (List.map Ac a_.1)),(.int .i64 s0_end),v1,w,w1,w2,w3,v4,w4,w5]]),Ah v1 g1 2 (List.map As l),Ah v4 g5 2 (List.map A6 a_.2)]) h0 (Jm s0_l s0_end l l1)):=by
 refine Bb (n:=9) 1 Tryz.func189 J (by decide) J J hI0 J fun ids he hI=>?_
 clear hI0
 obtain rfl:ix ids 0=o0:=he 0 rfl
 obtain rfl:ix ids 1=o1:=he 1 rfl
 obtain rfl:ix ids 2=o2:=he 2 rfl
 clear he
 refine Bm (Ak (Jm.eq_1 _ _ _ _) ?_)
 refine Aj ?_
 refine Y<|O<|Cv (v:=(.q ids 0 g)) (j:=3) hI J J J J J J J fun g3=>Aa<|Aj ?_
 refine Di Gg [[],[],[1],[1,2],[1,2,3],[],[0,1,2,3,4,5]] [(false,0),(false,1),(false,2),(false,3),(false,4),(false,5),(true,6)] (by kernel_rfl)<|Ag (.q ids 0 g) J J (Au (Be hI J J J Ua J))<|Ag (.q ids 0 g) J J (Au (Be hI J J J Ua J))<|Ag (.q ids 0 g) J J (Bg J)<|Ag (.ptr (ix ids 0) g 0 2) J J (B9 (By (c:=0) (off:=2) (i:=2) Z8 J Ec J))<|Ag (.ptr (ix ids 0) g 0 7) J J (B9 (By (c:=2) (off:=5) (i:=5) Ec J Oe J))<|Ag (.func (.func 191) [] [(.q ids 3 g3)]) J J R0 ?_
 refine Sz [0,1,2,3] hI J J (Vy 16 s0_l s0_end l l1 _ (ix ids 0) (ix ids 1) (ix ids 2) (ix ids 3) w w1 w2 w3 w4 w5 g v1 g1 v2 g2 g3 vH vH1 (by exact hI.sub' J J)) J J J J J J J (fun v _ _ _=>Ao (K:=3) (N:=1) Tryz.func189 hI) ?_
 rintro r _ _ _ ⟨v3,g4,vH2,rfl,rfl⟩
 refine U6 [0,1,2,3] [some (.rows g 10 [[(.sl 4 (List.map Ac r.1)),(.I s0_end),v1,w,w1,w2,w3,v3,w4,w5]]),Ah v1 g1 2 (List.map As l),Ah v3 g4 2 (List.map A6 r.2),some (.rows g3 1 [[(.q ids 0 g)]])] hI J J J J ⟨(Af J (Af J (Af J (Af J (Af J (Af J Bw)))))),?_⟩
 refine Ur<|Ct<|Aj ?_
 exact Ce (K:=3) (N:=1) (a:=(r.1,r.2)) (vs:=[]) [some (.rows g 10 [[(.sl 4 (List.map Ac r.1)),(.I s0_end),v1,w,w1,w2,w3,v3,w4,w5]]),Ah v1 g1 2 (List.map As l),Ah v3 g4 2 (List.map A6 r.2)] Tryz.func189 hI J J J (.keep (.keep (.keep (.drop .nil)))) (.same _) ⟨v3,g4,vH2,J,J⟩
theorem Xe (most:Int)(s0_l:List Token)(s0_end:Int)(l:List Class)(h0:Ae)(o0:Nat)(o1:Nat)(o2:Nat)(w:AV)(w1:AV)(w2:AV)(w3:AV)(w4:AV)(w5:AV)(w6:AV)(g:Nat)(v1:AV)(g1:Nat)(g2:Nat)(vH:Ay v1 o1 g1 l.length)(hI0:Ids h0 [o0,o1,o2] 3):Iv most s0_l s0_end l≠.bad→Bh Tryz.prog 195 [(.ptr o0 g 0 0),(.ptr o0 g 0 8),(.int .i64 most),(.func (.func 196) [] [(.ptr o2 g2 0 0)])] (hp h0 [o0,o1,o2] [some (.rows g 10 [[(.sl 4 (List.map Ac s0_l)),(.int .i64 s0_end),w,w1,w2,w3,w4,w5,v1,w6]]),Ah v1 g1 4 (List.map Bx l),some (.rows g2 1 [[(.ptr o0 g 0 0)]])]) (Cs (fun a_ v h' => ∃ (v3:AV),∃ (g5:Nat),Ay v3 o1 g5 a_.length∧v=(.tup [])∧h'=hp h0 [o0,o1,o2] [some (.rows g 10 [[(.sl 4 (List.map Ac (((((((((s0_l.drop 1).drop 1).drop 1).drop 1).drop 1).drop 1).drop 1).drop 1).drop 1))),(.int .i64 s0_end),w,w1,w2,w3,w4,w5,v3,w6]]),Ah v3 g5 4 (List.map Bx a_),some (.rows g2 1 [[(.ptr o0 g 0 0)]])]) h0 (Iv most s0_l s0_end l)):=by
 refine Bb (n:=39) 1 Tryz.func195 J (by decide) J J hI0 J fun ids he hI=>?_
 clear hI0
 obtain rfl:ix ids 0=o0:=he 0 rfl
 obtain rfl:ix ids 1=o1:=he 1 rfl
 obtain rfl:ix ids 2=o2:=he 2 rfl
 clear he
 refine Bm (Ak (Iv.eq_1 _ _ _ _) ?_)
 refine Aj ?_
 refine Y<|Y<|O<|Ab 3 [0] [(11,v1)] ?_
 refine Z (.I (l.length:Int)) J (A0 (Ay.len vH My))<|Ab 2 [] [(14,(.bool ((l.length:Int)==most)))] ?_
 refine Aa<|Ed (π:=Unit) (fun _=>I5 s0_l s0_end l) (fun _=>fun(fr:Nat→AV) (h:Ae)=>fr=A2 [(0,(.q ids 0 g)),(1,(.ptr (ix ids 0) g 0 8)),(3,(.func (.func 196) [] [(.q ids 2 g2)]))]∧h=hp h0 ids [(some (.rows g 10 [[(.sl 4 (List.map Ac s0_l)),(.I s0_end),w,w1,w2,w3,w4,w5,v1,w6]])),(Ah v1 g1 4 (List.map Bx l)),(some (.rows g2 1 [[(.q ids 0 g)]])),none]) ?_ fun hJ=>?_
 ·rintro _ fr h ⟨rfl,rfl⟩
  refine Ak (I5.eq_1 _ _ _)<|Y<|O<|Ab 5 [0] [(21,(.sl 4 (List.map Ac s0_l))),(17,(.q ids 0 g))] ?_
  refine Gb fun hs=>Z (.sl 4 (List.map Ac (s0_l.drop 1))) J (Gu (Ny Cx Dc J hs))<|Ab 2 [] [(24,(.q ids 0 g))] ?_
  refine Aq (Ax (v:=(.sl 4 (List.map Ac (s0_l.drop 1)))) hI J J J J Cx J J J J J)<|Aa<|Aj ?_
  refine Y<|O<|Ab 2 [] [(26,(.q ids 0 g)),(25,(.func (.func 196) [] [(.q ids 2 g2)]))] ?_
  refine An [0] hI J J (Cu (s0_l.drop 1) s0_end _ (ix ids 0) w w1 w2 w3 w4 w5 v1 w6 g (by exact hI.sub' J J)) J J J J J J (fun v _=>Ao (K:=3) (N:=1) Tryz.func195 hI) ?_
  rintro r1 _ _ _ ⟨rfl,rfl⟩
  refine Aw [0] hI J J J ?_
  refine Ap<|An [2,0] hI J J (Vp r1 ((s0_l.drop 1).drop 1) s0_end _ (ix ids 2) (ix ids 0) g2 w w1 w2 w3 w4 w5 v1 w6 g (by exact hI.sub' J J)) J J J J J J (fun v _=>Ao (K:=3) (N:=1) Tryz.func195 hI) ?_
  rintro r2 _ _ _ ⟨rfl,rfl⟩
  refine Aw [2,0] hI J J J ?_
  refine Ap<|Bc (j:=3) hI J J J J Na J fun g3=>Aq (Ax (v:=(.agg (Bx r2))) hI J J J J Na J J J J J)<|Aa<|Aj ?_
  refine Y<|O<|Z (.q ids 0 g) J Ad<|An [0] hI J J (C5 [59] ((((((((s0_l.drop 1).drop 1).drop 1).drop 1).drop 1).drop 1).drop 1).drop 1) s0_end _ (ix ids 0) w w1 w2 w3 w4 w5 v1 w6 g (by exact hI.sub' J J)) J J J J J J (fun v _=>Ao (K:=3) (N:=1) Tryz.func195 hI) ?_
  rintro _ _ _ _ ⟨rfl,rfl⟩
  refine Aw [0] hI J J J ?_
  refine Ap<|Aa<|Aj ?_
  refine Di Gg [[],[],[1],[1,2],[],[4],[1,2,3,4,5],[0,0,1,2,3,4,5,6],[0,1,2,3,4,5,6,6,6,7]] [(false,0),(false,1),(false,2),(false,3),(false,4),(true,5),(true,6),(false,7),(true,8)] (by kernel_rfl)<|Ag (.ptr (ix ids 0) g 0 8) J J Ad<|Ag (.ptr (ix ids 0) g 0 8) J J Ad<|Ag (.ptr (ix ids 0) g 0 8) J J (Bg J)<|Ag v1 J J (Au (Be hI J J J My J))<|Ag (.agg (Bx r2)) J J (Au (Be hI J J J Na J))<|Jh J J (fun _ _=>J) (fun K hK=>Mc (e:=Bx) (L:=[r2]) (st:=4) (rows:=[[(.str r2.Name),(.I r2.Slow),(.I r2.Fast),(.I r2.Places)]]) My Na J J J J J (.cons (RowSim.refl _) .nil) (fun x=>Ade x) J J (hK _ _ (Af J (Br J (Au (Be hI J J J My J)) (Br J (Bg J) (Br J Ad (Br J Ad Bw))))) ?_))
  clear hK K
  refine Kt fun hl=>Jh J J (fun _ _=>J) (fun K hK=>Iq (e:=Bx) (L:=l) (L2:=[r2]) (v:=v1) (g:=g1) (st:=4) (j:=1) hI J J J vH J (Ke J) My My J Na J J J hl fun v2 g4 vH1=>hK _ _ (Af J (Af J (Af J (Af J (Br J Ad Bw))))) ?_)
  clear hK K
  refine Ag (.ptr (ix ids 0) g 0 8) J J (Bg J)<|Gr J (fun _ _=>J) (fun K hK=>D4 (Jj vH1 hI J J J J My J J J) (hK _ _ (Af J (Af J (Af J (Af J (Af J (Af J Bw)))))) ?_))
  clear hK K
  refine Ct<|Aj ?_
  exact Ce (K:=3) (N:=1) (a:=(l++[r2])) (vs:=[]) [some (.rows g 10 [[(.sl 4 (List.map Ac (((((((((s0_l.drop 1).drop 1).drop 1).drop 1).drop 1).drop 1).drop 1).drop 1).drop 1))),(.I s0_end),w,w1,w2,w3,w4,w5,v2,w6]]),Ah v2 g4 4 (List.map Bx (l++[r2])),some (.rows g2 1 [[(.q ids 0 g)]])] Tryz.func195 hI J J J (.keep (.keep (.keep (.drop .nil)))) (.same _) ⟨v2,g4,vH1,J,J⟩
 refine Cd J (fun hc=>?_) (fun hc=>?_)
 ·refine O<|Z (.q ids 0 g) J Ad<|An [0] hI J J (Ci 2 s0_l s0_end _ (ix ids 0) w w1 w2 w3 w4 w5 v1 w6 g (by exact hI.sub' J J)) J J J J J J (fun v _=>Ao (K:=3) (N:=1) Tryz.func195 hI) ?_
  rintro _ _ _ _ ⟨rfl,rfl⟩
  refine Aw [0] hI J J J ?_
  refine Ap<|Aa<|Bo (hJ () _ _ ⟨J,J⟩)
 refine Az<|Bo (hJ () _ _ ⟨J,J⟩)
theorem Wq (s0_l:List Token)(s0_end:Int)(l:List Class)(h0:Ae)(o0:Nat)(o1:Nat)(w:AV)(w1:AV)(w2:AV)(w3:AV)(w4:AV)(w5:AV)(w6:AV)(g:Nat)(v1:AV)(g1:Nat)(vH:Ay v1 o1 g1 l.length)(hI0:Ids h0 [o0,o1] 2):Jw s0_l s0_end l≠.bad→Bh Tryz.prog 194 [(.ptr o0 g 0 0)] (hp h0 [o0,o1] [some (.rows g 10 [[(.sl 4 (List.map Ac s0_l)),(.int .i64 s0_end),w,w1,w2,w3,w4,w5,v1,w6]]),Ah v1 g1 4 (List.map Bx l)]) (Cs (fun a_ v h' => ∃ (v3:AV),∃ (g4:Nat),Ay v3 o1 g4 a_.length∧v=(.tup [])∧h'=hp h0 [o0,o1] [some (.rows g 10 [[(.sl 4 (List.map Ac (((((((((s0_l.drop 1).drop 1).drop 1).drop 1).drop 1).drop 1).drop 1).drop 1).drop 1))),(.int .i64 s0_end),w,w1,w2,w3,w4,w5,v3,w6]]),Ah v3 g4 4 (List.map Bx a_)]) h0 (Jw s0_l s0_end l)):=by
 refine Bb (n:=9) 1 Tryz.func194 J (by decide) J J hI0 J fun ids he hI=>?_
 clear hI0
 obtain rfl:ix ids 0=o0:=he 0 rfl
 obtain rfl:ix ids 1=o1:=he 1 rfl
 clear he
 refine Bm (Ak (Jw.eq_1 _ _ _) ?_)
 refine Aj ?_
 refine Y<|O<|Cv (v:=(.q ids 0 g)) (j:=2) hI J J J J J J J fun g2=>Aa<|Aj ?_
 refine Di Gg [[],[],[1],[1,2],[1,2,3],[],[0,1,2,3,4,5]] [(false,0),(false,1),(false,2),(false,3),(false,4),(false,5),(true,6)] (by kernel_rfl)<|Ag (.q ids 0 g) J J (Au (Be hI J J J Ua J))<|Ag (.q ids 0 g) J J (Au (Be hI J J J Ua J))<|Ag (.q ids 0 g) J J (Bg J)<|Ag (.ptr (ix ids 0) g 0 2) J J (B9 (By (c:=0) (off:=2) (i:=2) Z8 J Ec J))<|Ag (.ptr (ix ids 0) g 0 8) J J (B9 (By (c:=2) (off:=6) (i:=6) Ec J My J))<|Ag (.func (.func 196) [] [(.q ids 2 g2)]) J J R0 ?_
 refine Sz [0,1,2] hI J J (Xe 8 s0_l s0_end l _ (ix ids 0) (ix ids 1) (ix ids 2) w w1 w2 w3 w4 w5 w6 g v1 g1 g2 vH (by exact hI.sub' J J)) J J J J J J J (fun v _ _ _=>Ao (K:=2) (N:=1) Tryz.func194 hI) ?_
 rintro r _ _ _ ⟨v2,g3,vH1,rfl,rfl⟩
 refine U6 [0,1,2] [some (.rows g 10 [[(.sl 4 (List.map Ac (((((((((s0_l.drop 1).drop 1).drop 1).drop 1).drop 1).drop 1).drop 1).drop 1).drop 1))),(.I s0_end),w,w1,w2,w3,w4,w5,v2,w6]]),Ah v2 g3 4 (List.map Bx r),some (.rows g2 1 [[(.q ids 0 g)]])] hI J J J J ⟨(Af J (Af J (Af J (Af J (Af J (Af J Bw)))))),?_⟩
 refine Ur<|Ct<|Aj ?_
 exact Ce (K:=2) (N:=1) (a:=r) (vs:=[]) [some (.rows g 10 [[(.sl 4 (List.map Ac (((((((((s0_l.drop 1).drop 1).drop 1).drop 1).drop 1).drop 1).drop 1).drop 1).drop 1))),(.I s0_end),w,w1,w2,w3,w4,w5,v2,w6]]),Ah v2 g3 4 (List.map Bx r)] Tryz.func194 hI J J J (.keep (.keep (.drop .nil))) (.same _) ⟨v2,g3,vH1,J,J⟩
theorem X7 (most:Int)(s0_l:List Token)(s0_end:Int)(l:List Rule)(s2:Int)(h0:Ae)(o0:Nat)(o1:Nat)(o2:Nat)(o3:Nat)(o4:Nat)(w:AV)(w1:AV)(w2:AV)(w3:AV)(w4:AV)(w5:AV)(w6:AV)(g:Nat)(v1:AV)(g1:Nat)(g2:Nat)(g3:Nat)(g4:Nat)(vH:Ay v1 o1 g1 l.length)(hI0:Ids h0 [o0,o1,o2,o3,o4] 5):Jb most s0_l s0_end l s2≠.bad→Bh Tryz.prog 215 [(.ptr o0 g 0 0),(.ptr o0 g 0 9),(.int .i64 most),(.func (.func 216) [] [(.ptr o2 g2 0 0),(.ptr o3 g3 0 0)])] (hp h0 [o0,o1,o2,o3,o4] [some (.rows g 10 [[(.sl 4 (List.map Ac s0_l)),(.int .i64 s0_end),w,w1,w2,w3,w4,w5,w6,v1]]),Ah v1 g1 8 (List.map A7 l),some (.rows g2 1 [[(.int .i64 s2)]]),some (.rows g3 1 [[(.func (.func 199) [] [(.ptr o4 g4 0 0)])]]),some (.rows g4 1 [[(.ptr o0 g 0 0)]])]) (Cs (fun a_ v h' => ∃ (v3:AV),∃ (g7:Nat),Ay v3 o1 g7 a_.length∧v=(.tup [])∧h'=hp h0 [o0,o1,o2,o3,o4] [some (.rows g 10 [[(.sl 4 (List.map Ac ((((((((s0_l.drop 1).drop 1).drop 1).drop 1).drop 1).drop 1).drop 1).drop 1))),(.int .i64 s0_end),w,w1,w2,w3,w4,w5,w6,v3]]),Ah v3 g7 8 (List.map A7 a_),some (.rows g2 1 [[(.int .i64 s2)]]),some (.rows g3 1 [[(.func (.func 199) [] [(.ptr o4 g4 0 0)])]]),some (.rows g4 1 [[(.ptr o0 g 0 0)]])]) h0 (Jb most s0_l s0_end l s2)):=by
 refine Bb (n:=39) 1 Tryz.func215 J (by decide) J J hI0 J fun ids he hI=>?_
 clear hI0
 obtain rfl:ix ids 0=o0:=he 0 rfl
 obtain rfl:ix ids 1=o1:=he 1 rfl
 obtain rfl:ix ids 2=o2:=he 2 rfl
 obtain rfl:ix ids 3=o3:=he 3 rfl
 obtain rfl:ix ids 4=o4:=he 4 rfl
 clear he
 refine Bm (Ak (Jb.eq_1 _ _ _ _ _) ?_)
 refine Aj ?_
 refine Y<|Y<|O<|Ab 3 [0] [(11,v1)] ?_
 refine Z (.I (l.length:Int)) J (A0 (Ay.len vH E1))<|Ab 2 [] [(14,(.bool ((l.length:Int)==most)))] ?_
 refine Aa<|Ed (π:=Unit) (fun _=>Jx s0_l s0_end l s2) (fun _=>fun(fr:Nat→AV) (h:Ae)=>fr=A2 [(0,(.q ids 0 g)),(1,(.ptr (ix ids 0) g 0 9)),(3,(.func (.func 216) [] [(.q ids 2 g2),(.q ids 3 g3)]))]∧h=hp h0 ids [(some (.rows g 10 [[(.sl 4 (List.map Ac s0_l)),(.I s0_end),w,w1,w2,w3,w4,w5,w6,v1]])),(Ah v1 g1 8 (List.map A7 l)),(some (.rows g2 1 [[(.I s2)]])),(some (.rows g3 1 [[(.func (.func 199) [] [(.q ids 4 g4)])]])),(some (.rows g4 1 [[(.q ids 0 g)]])),none]) ?_ fun hJ=>?_
 ·rintro _ fr h ⟨rfl,rfl⟩
  refine Ak (Jx.eq_1 _ _ _ _)<|Y<|O<|Ab 5 [0] [(21,(.sl 4 (List.map Ac s0_l))),(17,(.q ids 0 g))] ?_
  refine Gb fun hs=>Z (.sl 4 (List.map Ac (s0_l.drop 1))) J (Gu (Ny Cx Dc J hs))<|Ab 2 [] [(24,(.q ids 0 g))] ?_
  refine Aq (Ax (v:=(.sl 4 (List.map Ac (s0_l.drop 1)))) hI J J J J Cx J J J J J)<|Aa<|Aj ?_
  refine Y<|O<|Ab 2 [] [(26,(.q ids 0 g)),(25,(.func (.func 216) [] [(.q ids 2 g2),(.q ids 3 g3)]))] ?_
  refine An [0] hI J J (Cu (s0_l.drop 1) s0_end _ (ix ids 0) w w1 w2 w3 w4 w5 w6 v1 g (by exact hI.sub' J J)) J J J J J J (fun v _=>Ao (K:=5) (N:=1) Tryz.func215 hI) ?_
  rintro r1 _ _ _ ⟨rfl,rfl⟩
  refine Aw [0] hI J J J ?_
  refine Ap<|An [2,3,4,0] hI J J (Wc r1 s2 ((s0_l.drop 1).drop 1) s0_end _ (ix ids 2) (ix ids 3) (ix ids 4) (ix ids 0) g2 g3 g4 w w1 w2 w3 w4 w5 w6 v1 g (by exact hI.sub' J J)) J J J J J J (fun v _=>Ao (K:=5) (N:=1) Tryz.func215 hI) ?_
  rintro r2 _ _ _ ⟨rfl,rfl⟩
  refine Aw [2,3,4,0] hI J J J ?_
  refine Ap<|Bc (j:=5) hI J J J J Do J fun g5=>Aq (Ax (v:=(.agg (A7 r2))) hI J J J J Do J J J J J)<|Aa<|Aj ?_
  refine Y<|O<|Z (.q ids 0 g) J Ad<|An [0] hI J J (C5 [59] (((((((s0_l.drop 1).drop 1).drop 1).drop 1).drop 1).drop 1).drop 1) s0_end _ (ix ids 0) w w1 w2 w3 w4 w5 w6 v1 g (by exact hI.sub' J J)) J J J J J J (fun v _=>Ao (K:=5) (N:=1) Tryz.func215 hI) ?_
  rintro _ _ _ _ ⟨rfl,rfl⟩
  refine Aw [0] hI J J J ?_
  refine Ap<|Aa<|Aj ?_
  refine Di Gg [[],[],[1],[1,2],[],[4],[1,2,3,4,5],[0,0,1,2,3,4,5,6],[0,1,2,3,4,5,6,6,6,7]] [(false,0),(false,1),(false,2),(false,3),(false,4),(true,5),(true,6),(false,7),(true,8)] (by kernel_rfl)<|Ag (.ptr (ix ids 0) g 0 9) J J Ad<|Ag (.ptr (ix ids 0) g 0 9) J J Ad<|Ag (.ptr (ix ids 0) g 0 9) J J (Bg J)<|Ag v1 J J (Au (Be hI J J J E1 J))<|Ag (.agg (A7 r2)) J J (Au (Be hI J J J Do J))<|Jh J J (fun _ _=>J) (fun K hK=>Mc (e:=A7) (L:=[r2]) (st:=8) (rows:=[[(.I r2.Kind),(.str r2.C),(.str r2.A),(.I r2.Class),(.I r2.Airport),(.I r2.N),(.I r2.Hours.From),(.I r2.Hours.To)]]) E1 Do J J J J J (.cons (RowSim.refl _) .nil) (fun x=>Se x) J J (hK _ _ (Af J (Br J (Au (Be hI J J J E1 J)) (Br J (Bg J) (Br J Ad (Br J Ad Bw))))) ?_))
  clear hK K
  refine Kt fun hl=>Jh J J (fun _ _=>J) (fun K hK=>Iq (e:=A7) (L:=l) (L2:=[r2]) (v:=v1) (g:=g1) (st:=8) (j:=1) hI J J J vH J (Ke J) E1 E1 J Do J J J hl fun v2 g6 vH1=>hK _ _ (Af J (Af J (Af J (Af J (Br J Ad Bw))))) ?_)
  clear hK K
  refine Ag (.ptr (ix ids 0) g 0 9) J J (Bg J)<|Gr J (fun _ _=>J) (fun K hK=>D4 (Jj vH1 hI J J J J E1 J J J) (hK _ _ (Af J (Af J (Af J (Af J (Af J (Af J Bw)))))) ?_))
  clear hK K
  refine Ct<|Aj ?_
  exact Ce (K:=5) (N:=1) (a:=(l++[r2])) (vs:=[]) [some (.rows g 10 [[(.sl 4 (List.map Ac ((((((((s0_l.drop 1).drop 1).drop 1).drop 1).drop 1).drop 1).drop 1).drop 1))),(.I s0_end),w,w1,w2,w3,w4,w5,w6,v2]]),Ah v2 g6 8 (List.map A7 (l++[r2])),some (.rows g2 1 [[(.I s2)]]),some (.rows g3 1 [[(.func (.func 199) [] [(.q ids 4 g4)])]]),some (.rows g4 1 [[(.q ids 0 g)]])] Tryz.func215 hI J J J (.keep (.keep (.keep (.keep (.keep (.drop .nil)))))) (.same _) ⟨v2,g6,vH1,J,J⟩
 refine Cd J (fun hc=>?_) (fun hc=>?_)
 ·refine O<|Z (.q ids 0 g) J Ad<|An [0] hI J J (Ci 2 s0_l s0_end _ (ix ids 0) w w1 w2 w3 w4 w5 w6 v1 g (by exact hI.sub' J J)) J J J J J J (fun v _=>Ao (K:=5) (N:=1) Tryz.func215 hI) ?_
  rintro _ _ _ _ ⟨rfl,rfl⟩
  refine Aw [0] hI J J J ?_
  refine Ap<|Aa<|Bo (hJ () _ _ ⟨J,J⟩)
 refine Az<|Bo (hJ () _ _ ⟨J,J⟩)
theorem Vm (kind:Int)(s0_l:List Token)(s0_end:Int)(l:List Rule)(h0:Ae)(o0:Nat)(o1:Nat)(o2:Nat)(w:AV)(w1:AV)(w2:AV)(w3:AV)(w4:AV)(w5:AV)(w6:AV)(g:Nat)(v1:AV)(g1:Nat)(g2:Nat)(vH:Ay v1 o1 g1 l.length)(hI0:Ids h0 [o0,o1,o2] 3):La kind s0_l s0_end l≠.bad→Bh Tryz.prog 198 [(.ptr o0 g 0 0),(.int .i64 kind),(.func (.func 199) [] [(.ptr o2 g2 0 0)])] (hp h0 [o0,o1,o2] [some (.rows g 10 [[(.sl 4 (List.map Ac s0_l)),(.int .i64 s0_end),w,w1,w2,w3,w4,w5,w6,v1]]),Ah v1 g1 8 (List.map A7 l),some (.rows g2 1 [[(.ptr o0 g 0 0)]])]) (Cs (fun a_ v h' => ∃ (v3:AV),∃ (g6:Nat),Ay v3 o1 g6 a_.length∧v=(.tup [])∧h'=hp h0 [o0,o1,o2] [some (.rows g 10 [[(.sl 4 (List.map Ac ((((((((s0_l.drop 1).drop 1).drop 1).drop 1).drop 1).drop 1).drop 1).drop 1))),(.int .i64 s0_end),w,w1,w2,w3,w4,w5,w6,v3]]),Ah v3 g6 8 (List.map A7 a_),some (.rows g2 1 [[(.ptr o0 g 0 0)]])]) h0 (La kind s0_l s0_end l)):=by
 refine Bb (n:=13) 2 Tryz.func198 J (by decide) J J hI0 J fun ids he hI=>?_
 clear hI0
 obtain rfl:ix ids 0=o0:=he 0 rfl
 obtain rfl:ix ids 1=o1:=he 1 rfl
 obtain rfl:ix ids 2=o2:=he 2 rfl
 clear he
 refine Bm (Ak (La.eq_1 _ _ _ _) ?_)
 refine Aj ?_
 refine Y<|O<|Cv (v:=(.I kind)) (j:=3) hI J J J J J J J fun g3=>Cv (v:=(.func (.func 199) [] [(.q ids 2 g2)])) (j:=4) hI J J J J J J J fun g4=>Aa<|Aj ?_
 refine O<|Ab 6 [] [(11,(.func (.func 216) [] [(.q ids 3 g3),(.q ids 4 g4)])),(10,(.ptr (ix ids 0) g 0 9)),(6,(.q ids 0 g))] ?_
 refine An [0,1,3,4,2] hI J J (X7 64 s0_l s0_end l kind _ (ix ids 0) (ix ids 1) (ix ids 3) (ix ids 4) (ix ids 2) w w1 w2 w3 w4 w5 w6 g v1 g1 g3 g4 g2 vH (by exact hI.sub' J J)) J J J J J J (fun v _=>Ao (K:=3) (N:=2) Tryz.func198 hI) ?_
 rintro r _ _ _ ⟨v2,g5,vH1,rfl,rfl⟩
 refine Aw [0,1,3,4,2] hI J J J ?_
 refine Ap<|Aa<|Aj ?_
 exact Ce (K:=3) (N:=2) (a:=r) (vs:=[]) [some (.rows g 10 [[(.sl 4 (List.map Ac ((((((((s0_l.drop 1).drop 1).drop 1).drop 1).drop 1).drop 1).drop 1).drop 1))),(.I s0_end),w,w1,w2,w3,w4,w5,w6,v2]]),Ah v2 g5 8 (List.map A7 r),some (.rows g2 1 [[(.q ids 0 g)]])] Tryz.func198 hI J J J (.keep (.keep (.keep (.drop (.drop .nil))))) (.same _) ⟨v2,g5,vH1,J,J⟩
theorem V5 (s0_l:List Token)(s0_end:Int)(l:List Rule)(h0:Ae)(o0:Nat)(o1:Nat)(w:AV)(w1:AV)(w2:AV)(w3:AV)(w4:AV)(w5:AV)(w6:AV)(g:Nat)(v1:AV)(g1:Nat)(vH:Ay v1 o1 g1 l.length)(hI0:Ids h0 [o0,o1] 2):Js s0_l s0_end l≠.bad→Bh Tryz.prog 197 [(.ptr o0 g 0 0)] (hp h0 [o0,o1] [some (.rows g 10 [[(.sl 4 (List.map Ac s0_l)),(.int .i64 s0_end),w,w1,w2,w3,w4,w5,w6,v1]]),Ah v1 g1 8 (List.map A7 l)]) (Cs (fun a_ v h' => ∃ (v3:AV),∃ (g4:Nat),Ay v3 o1 g4 a_.length∧v=(.tup [])∧h'=hp h0 [o0,o1] [some (.rows g 10 [[(.sl 4 (List.map Ac ((((((((s0_l.drop 1).drop 1).drop 1).drop 1).drop 1).drop 1).drop 1).drop 1))),(.int .i64 s0_end),w,w1,w2,w3,w4,w5,w6,v3]]),Ah v3 g4 8 (List.map A7 a_)]) h0 (Js s0_l s0_end l)):=by
 refine Bb (n:=5) 1 Tryz.func197 J (by decide) J J hI0 J fun ids he hI=>?_
 clear hI0
 obtain rfl:ix ids 0=o0:=he 0 rfl
 obtain rfl:ix ids 1=o1:=he 1 rfl
 clear he
 refine Bm (Ak (Js.eq_1 _ _ _) ?_)
 refine Aj ?_
 refine Y<|O<|Cv (v:=(.q ids 0 g)) (j:=2) hI J J J J J J J fun g2=>Aa<|Aj ?_
 refine O<|Ab 2 [2] [(3,(.func (.func 199) [] [(.q ids 2 g2)])),(2,(.q ids 0 g))] ?_
 refine An [0,1,2] hI J J (Vm 1 s0_l s0_end l _ (ix ids 0) (ix ids 1) (ix ids 2) w w1 w2 w3 w4 w5 w6 g v1 g1 g2 vH (by exact hI.sub' J J)) J J J J J J (fun v _=>Ao (K:=2) (N:=1) Tryz.func197 hI) ?_
 rintro r _ _ _ ⟨v2,g3,vH1,rfl,rfl⟩
 refine Aw [0,1,2] hI J J J ?_
 refine Ap<|Aa<|Aj ?_
 exact Ce (K:=2) (N:=1) (a:=r) (vs:=[]) [some (.rows g 10 [[(.sl 4 (List.map Ac ((((((((s0_l.drop 1).drop 1).drop 1).drop 1).drop 1).drop 1).drop 1).drop 1))),(.I s0_end),w,w1,w2,w3,w4,w5,w6,v2]]),Ah v2 g3 8 (List.map A7 r)] Tryz.func197 hI J J J (.keep (.keep (.drop .nil))) (.same _) ⟨v2,g3,vH1,J,J⟩
theorem X8 (most:Int)(s0_l:List Token)(s0_end:Int)(l:List Rule)(s2:Int)(h0:Ae)(o0:Nat)(o1:Nat)(o2:Nat)(o3:Nat)(w:AV)(w1:AV)(w2:AV)(w3:AV)(w4:AV)(w5:AV)(w6:AV)(g:Nat)(v1:AV)(g1:Nat)(g2:Nat)(g3:Nat)(vH:Ay v1 o1 g1 l.length)(hI0:Ids h0 [o0,o1,o2,o3] 4):Ja most s0_l s0_end l s2≠.bad→Bh Tryz.prog 215 [(.ptr o0 g 0 0),(.ptr o0 g 0 9),(.int .i64 most),(.func (.func 216) [] [(.ptr o2 g2 0 0),(.ptr o3 g3 0 0)])] (hp h0 [o0,o1,o2,o3] [some (.rows g 10 [[(.sl 4 (List.map Ac s0_l)),(.int .i64 s0_end),w,w1,w2,w3,w4,w5,w6,v1]]),Ah v1 g1 8 (List.map A7 l),some (.rows g2 1 [[(.int .i64 s2)]]),some (.rows g3 1 [[(.func (.func 202) [] [])]])]) (Cs (fun a_ v h' => ∃ (v3:AV),∃ (g6:Nat),Ay v3 o1 g6 a_.length∧v=(.tup [])∧h'=hp h0 [o0,o1,o2,o3] [some (.rows g 10 [[(.sl 4 (List.map Ac (((s0_l.drop 1).drop 1).drop 1))),(.int .i64 s0_end),w,w1,w2,w3,w4,w5,w6,v3]]),Ah v3 g6 8 (List.map A7 a_),some (.rows g2 1 [[(.int .i64 s2)]]),some (.rows g3 1 [[(.func (.func 202) [] [])]])]) h0 (Ja most s0_l s0_end l s2)):=by
 refine Bb (n:=39) 1 Tryz.func215 J (by decide) J J hI0 J fun ids he hI=>?_
 clear hI0
 obtain rfl:ix ids 0=o0:=he 0 rfl
 obtain rfl:ix ids 1=o1:=he 1 rfl
 obtain rfl:ix ids 2=o2:=he 2 rfl
 obtain rfl:ix ids 3=o3:=he 3 rfl
 clear he
 refine Bm (Ak (Ja.eq_1 _ _ _ _ _) ?_)
 refine Aj ?_
 refine Y<|Y<|O<|Ab 3 [0] [(11,v1)] ?_
 refine Z (.I (l.length:Int)) J (A0 (Ay.len vH E1))<|Ab 2 [] [(14,(.bool ((l.length:Int)==most)))] ?_
 refine Aa<|Ed (π:=Unit) (fun _=>Jq s0_l s0_end l s2) (fun _=>fun(fr:Nat→AV) (h:Ae)=>fr=A2 [(0,(.q ids 0 g)),(1,(.ptr (ix ids 0) g 0 9)),(3,(.func (.func 216) [] [(.q ids 2 g2),(.q ids 3 g3)]))]∧h=hp h0 ids [(some (.rows g 10 [[(.sl 4 (List.map Ac s0_l)),(.I s0_end),w,w1,w2,w3,w4,w5,w6,v1]])),(Ah v1 g1 8 (List.map A7 l)),(some (.rows g2 1 [[(.I s2)]])),(some (.rows g3 1 [[(.func (.func 202) [] [])]])),none]) ?_ fun hJ=>?_
 ·rintro _ fr h ⟨rfl,rfl⟩
  refine Ak (Jq.eq_1 _ _ _ _)<|Y<|O<|Ab 5 [0] [(21,(.sl 4 (List.map Ac s0_l))),(17,(.q ids 0 g))] ?_
  refine Gb fun hs=>Z (.sl 4 (List.map Ac (s0_l.drop 1))) J (Gu (Ny Cx Dc J hs))<|Ab 2 [] [(24,(.q ids 0 g))] ?_
  refine Aq (Ax (v:=(.sl 4 (List.map Ac (s0_l.drop 1)))) hI J J J J Cx J J J J J)<|Aa<|Aj ?_
  refine Y<|O<|Ab 2 [] [(26,(.q ids 0 g)),(25,(.func (.func 216) [] [(.q ids 2 g2),(.q ids 3 g3)]))] ?_
  refine An [0] hI J J (Cu (s0_l.drop 1) s0_end _ (ix ids 0) w w1 w2 w3 w4 w5 w6 v1 g (by exact hI.sub' J J)) J J J J J J (fun v _=>Ao (K:=4) (N:=1) Tryz.func215 hI) ?_
  rintro r1 _ _ _ ⟨rfl,rfl⟩
  refine Aw [0] hI J J J ?_
  refine Ap<|An [2,3] hI J J (V7 r1 s2 _ (ix ids 2) (ix ids 3) g2 g3 (by exact hI.sub' J J)) J J J J J J (fun v _=>Ao (K:=4) (N:=1) Tryz.func215 hI) ?_
  rintro _ _ _ _ ⟨rfl,rfl⟩
  refine Aw [2,3] hI J J J ?_
  refine Ap<|Bc (j:=4) hI J J J J Do J fun g4=>Aq (Ax (v:=(.agg [(.I s2),(.str r1),(.str []),(.I 0),(.I 0),(.I 0),(.I 0),(.I 0)])) hI J J J J Do J J J J J)<|Aa<|Aj ?_
  refine Y<|O<|Z (.q ids 0 g) J Ad<|An [0] hI J J (C5 [59] ((s0_l.drop 1).drop 1) s0_end _ (ix ids 0) w w1 w2 w3 w4 w5 w6 v1 g (by exact hI.sub' J J)) J J J J J J (fun v _=>Ao (K:=4) (N:=1) Tryz.func215 hI) ?_
  rintro _ _ _ _ ⟨rfl,rfl⟩
  refine Aw [0] hI J J J ?_
  refine Ap<|Aa<|Aj ?_
  refine Di Gg [[],[],[1],[1,2],[],[4],[1,2,3,4,5],[0,0,1,2,3,4,5,6],[0,1,2,3,4,5,6,6,6,7]] [(false,0),(false,1),(false,2),(false,3),(false,4),(true,5),(true,6),(false,7),(true,8)] (by kernel_rfl)<|Ag (.ptr (ix ids 0) g 0 9) J J Ad<|Ag (.ptr (ix ids 0) g 0 9) J J Ad<|Ag (.ptr (ix ids 0) g 0 9) J J (Bg J)<|Ag v1 J J (Au (Be hI J J J E1 J))<|Ag (.agg [(.I s2),(.str r1),(.str []),(.I 0),(.I 0),(.I 0),(.I 0),(.I 0)]) J J (Au (Be hI J J J Do J))<|Jh J J (fun _ _=>J) (fun K hK=>Mc (e:=A7) (L:=[({ Kind:=s2,C:=r1,A:=[],Class:=0,Airport:=0,N:=0,Hours:=({ From:=0,To:=0 }:Span) }:Rule)]) (st:=8) (rows:=[[(.I s2),(.str r1),(.str []),(.I 0),(.I 0),(.I 0),(.I 0),(.I 0)]]) E1 Do J J J J J (.cons (.cons (.same _) (.cons (.same _) (.cons (.same _) (.cons (.same _) (.cons (.same _) (.cons (.same _) (.cons (.same _) (.cons (.same _) .nil)))))))) .nil) (fun x=>Se x) J J (hK _ _ (Af J (Br J (Au (Be hI J J J E1 J)) (Br J (Bg J) (Br J Ad (Br J Ad Bw))))) ?_))
  clear hK K
  refine Kt fun hl=>Jh J J (fun _ _=>J) (fun K hK=>Iq (e:=A7) (L:=l) (L2:=[({ Kind:=s2,C:=r1,A:=[],Class:=0,Airport:=0,N:=0,Hours:=({ From:=0,To:=0 }:Span) }:Rule)]) (v:=v1) (g:=g1) (st:=8) (j:=1) hI J J J vH J (Ke J) E1 E1 J Do J J J hl fun v2 g5 vH1=>hK _ _ (Af J (Af J (Af J (Af J (Br J Ad Bw))))) ?_)
  clear hK K
  refine Ag (.ptr (ix ids 0) g 0 9) J J (Bg J)<|Gr J (fun _ _=>J) (fun K hK=>D4 (Jj vH1 hI J J J J E1 J J J) (hK _ _ (Af J (Af J (Af J (Af J (Af J (Af J Bw)))))) ?_))
  clear hK K
  refine Ct<|Aj ?_
  exact Ce (K:=4) (N:=1) (a:=(l++[({ Kind:=s2,C:=r1,A:=[],Class:=0,Airport:=0,N:=0,Hours:=({ From:=0,To:=0 }:Span) }:Rule)])) (vs:=[]) [some (.rows g 10 [[(.sl 4 (List.map Ac (((s0_l.drop 1).drop 1).drop 1))),(.I s0_end),w,w1,w2,w3,w4,w5,w6,v2]]),Ah v2 g5 8 (List.map A7 (l++[({ Kind:=s2,C:=r1,A:=[],Class:=0,Airport:=0,N:=0,Hours:=({ From:=0,To:=0 }:Span) }:Rule)])),some (.rows g2 1 [[(.I s2)]]),some (.rows g3 1 [[(.func (.func 202) [] [])]])] Tryz.func215 hI J J J (.keep (.keep (.keep (.keep (.drop .nil))))) (.same _) ⟨v2,g5,vH1,J,J⟩
 refine Cd J (fun hc=>?_) (fun hc=>?_)
 ·refine O<|Z (.q ids 0 g) J Ad<|An [0] hI J J (Ci 2 s0_l s0_end _ (ix ids 0) w w1 w2 w3 w4 w5 w6 v1 g (by exact hI.sub' J J)) J J J J J J (fun v _=>Ao (K:=4) (N:=1) Tryz.func215 hI) ?_
  rintro _ _ _ _ ⟨rfl,rfl⟩
  refine Aw [0] hI J J J ?_
  refine Ap<|Aa<|Bo (hJ () _ _ ⟨J,J⟩)
 refine Az<|Bo (hJ () _ _ ⟨J,J⟩)
theorem Vj (kind:Int)(s0_l:List Token)(s0_end:Int)(l:List Rule)(h0:Ae)(o0:Nat)(o1:Nat)(w:AV)(w1:AV)(w2:AV)(w3:AV)(w4:AV)(w5:AV)(w6:AV)(g:Nat)(v1:AV)(g1:Nat)(vH:Ay v1 o1 g1 l.length)(hI0:Ids h0 [o0,o1] 2):K6 kind s0_l s0_end l≠.bad→Bh Tryz.prog 198 [(.ptr o0 g 0 0),(.int .i64 kind),(.func (.func 202) [] [])] (hp h0 [o0,o1] [some (.rows g 10 [[(.sl 4 (List.map Ac s0_l)),(.int .i64 s0_end),w,w1,w2,w3,w4,w5,w6,v1]]),Ah v1 g1 8 (List.map A7 l)]) (Cs (fun a_ v h' => ∃ (v3:AV),∃ (g5:Nat),Ay v3 o1 g5 a_.length∧v=(.tup [])∧h'=hp h0 [o0,o1] [some (.rows g 10 [[(.sl 4 (List.map Ac (((s0_l.drop 1).drop 1).drop 1))),(.int .i64 s0_end),w,w1,w2,w3,w4,w5,w6,v3]]),Ah v3 g5 8 (List.map A7 a_)]) h0 (K6 kind s0_l s0_end l)):=by
 refine Bb (n:=13) 2 Tryz.func198 J (by decide) J J hI0 J fun ids he hI=>?_
 clear hI0
 obtain rfl:ix ids 0=o0:=he 0 rfl
 obtain rfl:ix ids 1=o1:=he 1 rfl
 clear he
 refine Bm (Ak (K6.eq_1 _ _ _ _) ?_)
 refine Aj ?_
 refine Y<|O<|Cv (v:=(.I kind)) (j:=2) hI J J J J J J J fun g2=>Cv (v:=(.func (.func 202) [] [])) (j:=3) hI J J J J J J J fun g3=>Aa<|Aj ?_
 refine O<|Ab 6 [] [(11,(.func (.func 216) [] [(.q ids 2 g2),(.q ids 3 g3)])),(10,(.ptr (ix ids 0) g 0 9)),(6,(.q ids 0 g))] ?_
 refine An [0,1,2,3] hI J J (X8 64 s0_l s0_end l kind _ (ix ids 0) (ix ids 1) (ix ids 2) (ix ids 3) w w1 w2 w3 w4 w5 w6 g v1 g1 g2 g3 vH (by exact hI.sub' J J)) J J J J J J (fun v _=>Ao (K:=2) (N:=2) Tryz.func198 hI) ?_
 rintro r _ _ _ ⟨v2,g4,vH1,rfl,rfl⟩
 refine Aw [0,1,2,3] hI J J J ?_
 refine Ap<|Aa<|Aj ?_
 exact Ce (K:=2) (N:=2) (a:=r) (vs:=[]) [some (.rows g 10 [[(.sl 4 (List.map Ac (((s0_l.drop 1).drop 1).drop 1))),(.I s0_end),w,w1,w2,w3,w4,w5,w6,v2]]),Ah v2 g4 8 (List.map A7 r)] Tryz.func198 hI J J J (.keep (.keep (.drop (.drop .nil)))) (.same _) ⟨v2,g4,vH1,J,J⟩
theorem Wm (s0_l:List Token)(s0_end:Int)(l:List Rule)(h0:Ae)(o0:Nat)(o1:Nat)(w:AV)(w1:AV)(w2:AV)(w3:AV)(w4:AV)(w5:AV)(w6:AV)(g:Nat)(v1:AV)(g1:Nat)(vH:Ay v1 o1 g1 l.length)(hI0:Ids h0 [o0,o1] 2):Jt s0_l s0_end l≠.bad→Bh Tryz.prog 201 [(.ptr o0 g 0 0)] (hp h0 [o0,o1] [some (.rows g 10 [[(.sl 4 (List.map Ac s0_l)),(.int .i64 s0_end),w,w1,w2,w3,w4,w5,w6,v1]]),Ah v1 g1 8 (List.map A7 l)]) (Cs (fun a_ v h' => ∃ (v3:AV),∃ (g3:Nat),Ay v3 o1 g3 a_.length∧v=(.tup [])∧h'=hp h0 [o0,o1] [some (.rows g 10 [[(.sl 4 (List.map Ac (((s0_l.drop 1).drop 1).drop 1))),(.int .i64 s0_end),w,w1,w2,w3,w4,w5,w6,v3]]),Ah v3 g3 8 (List.map A7 a_)]) h0 (Jt s0_l s0_end l)):=by
 refine Bb (n:=4) 0 Tryz.func201 J (by decide) J J hI0 J fun ids he hI=>?_
 clear hI0
 obtain rfl:ix ids 0=o0:=he 0 rfl
 obtain rfl:ix ids 1=o1:=he 1 rfl
 clear he
 refine Bm (Ak (Jt.eq_1 _ _ _) ?_)
 refine O<|Z (.q ids 0 g) J Ad<|An [0,1] hI J J (Vj 2 s0_l s0_end l _ (ix ids 0) (ix ids 1) w w1 w2 w3 w4 w5 w6 g v1 g1 vH (by exact hI.sub' J J)) J J J J J J (fun v _=>Ao (K:=2) (N:=0) Tryz.func201 hI) ?_
 rintro r _ _ _ ⟨v2,g2,vH1,rfl,rfl⟩
 refine Aw [0,1] hI J J J ?_
 refine Ap<|Aa<|Aj ?_
 exact Ce (K:=2) (N:=0) (a:=r) (vs:=[]) [some (.rows g 10 [[(.sl 4 (List.map Ac (((s0_l.drop 1).drop 1).drop 1))),(.I s0_end),w,w1,w2,w3,w4,w5,w6,v2]]),Ah v2 g2 8 (List.map A7 r)] Tryz.func201 hI J J J (.keep (.keep .nil)) (.same _) ⟨v2,g2,vH1,J,J⟩
theorem X4 (most:Int)(s0_l:List Token)(s0_end:Int)(l:List Rule)(s2:Int)(h0:Ae)(o0:Nat)(o1:Nat)(o2:Nat)(o3:Nat)(o4:Nat)(w:AV)(w1:AV)(w2:AV)(w3:AV)(w4:AV)(w5:AV)(w6:AV)(g:Nat)(v1:AV)(g1:Nat)(g2:Nat)(g3:Nat)(g4:Nat)(vH:Ay v1 o1 g1 l.length)(hI0:Ids h0 [o0,o1,o2,o3,o4] 5):Jl most s0_l s0_end l s2≠.bad→Bh Tryz.prog 215 [(.ptr o0 g 0 0),(.ptr o0 g 0 9),(.int .i64 most),(.func (.func 216) [] [(.ptr o2 g2 0 0),(.ptr o3 g3 0 0)])] (hp h0 [o0,o1,o2,o3,o4] [some (.rows g 10 [[(.sl 4 (List.map Ac s0_l)),(.int .i64 s0_end),w,w1,w2,w3,w4,w5,w6,v1]]),Ah v1 g1 8 (List.map A7 l),some (.rows g2 1 [[(.int .i64 s2)]]),some (.rows g3 1 [[(.func (.func 206) [] [(.ptr o4 g4 0 0)])]]),some (.rows g4 1 [[(.ptr o0 g 0 0)]])]) (Cs (fun a_ v h' => ∃ (v3:AV),∃ (g7:Nat),Ay v3 o1 g7 a_.length∧v=(.tup [])∧h'=hp h0 [o0,o1,o2,o3,o4] [some (.rows g 10 [[(.sl 4 (List.map Ac ((((s0_l.drop 1).drop 1).drop 1).drop 1))),(.int .i64 s0_end),w,w1,w2,w3,w4,w5,w6,v3]]),Ah v3 g7 8 (List.map A7 a_),some (.rows g2 1 [[(.int .i64 s2)]]),some (.rows g3 1 [[(.func (.func 206) [] [(.ptr o4 g4 0 0)])]]),some (.rows g4 1 [[(.ptr o0 g 0 0)]])]) h0 (Jl most s0_l s0_end l s2)):=by
 refine Bb (n:=39) 1 Tryz.func215 J (by decide) J J hI0 J fun ids he hI=>?_
 clear hI0
 obtain rfl:ix ids 0=o0:=he 0 rfl
 obtain rfl:ix ids 1=o1:=he 1 rfl
 obtain rfl:ix ids 2=o2:=he 2 rfl
 obtain rfl:ix ids 3=o3:=he 3 rfl
 obtain rfl:ix ids 4=o4:=he 4 rfl
 clear he
 refine Bm (Ak (Jl.eq_1 _ _ _ _ _) ?_)
 refine Aj ?_
 refine Y<|Y<|O<|Ab 3 [0] [(11,v1)] ?_
 refine Z (.I (l.length:Int)) J (A0 (Ay.len vH E1))<|Ab 2 [] [(14,(.bool ((l.length:Int)==most)))] ?_
 refine Aa<|Ed (π:=Unit) (fun _=>Ju s0_l s0_end l s2) (fun _=>fun(fr:Nat→AV) (h:Ae)=>fr=A2 [(0,(.q ids 0 g)),(1,(.ptr (ix ids 0) g 0 9)),(3,(.func (.func 216) [] [(.q ids 2 g2),(.q ids 3 g3)]))]∧h=hp h0 ids [(some (.rows g 10 [[(.sl 4 (List.map Ac s0_l)),(.I s0_end),w,w1,w2,w3,w4,w5,w6,v1]])),(Ah v1 g1 8 (List.map A7 l)),(some (.rows g2 1 [[(.I s2)]])),(some (.rows g3 1 [[(.func (.func 206) [] [(.q ids 4 g4)])]])),(some (.rows g4 1 [[(.q ids 0 g)]])),none]) ?_ fun hJ=>?_
 ·rintro _ fr h ⟨rfl,rfl⟩
  refine Ak (Ju.eq_1 _ _ _ _)<|Y<|O<|Ab 5 [0] [(21,(.sl 4 (List.map Ac s0_l))),(17,(.q ids 0 g))] ?_
  refine Gb fun hs=>Z (.sl 4 (List.map Ac (s0_l.drop 1))) J (Gu (Ny Cx Dc J hs))<|Ab 2 [] [(24,(.q ids 0 g))] ?_
  refine Aq (Ax (v:=(.sl 4 (List.map Ac (s0_l.drop 1)))) hI J J J J Cx J J J J J)<|Aa<|Aj ?_
  refine Y<|O<|Ab 2 [] [(26,(.q ids 0 g)),(25,(.func (.func 216) [] [(.q ids 2 g2),(.q ids 3 g3)]))] ?_
  refine An [0] hI J J (Cu (s0_l.drop 1) s0_end _ (ix ids 0) w w1 w2 w3 w4 w5 w6 v1 g (by exact hI.sub' J J)) J J J J J J (fun v _=>Ao (K:=5) (N:=1) Tryz.func215 hI) ?_
  rintro r1 _ _ _ ⟨rfl,rfl⟩
  refine Aw [0] hI J J J ?_
  refine Ap<|An [2,3,4,0] hI J J (Wg r1 s2 ((s0_l.drop 1).drop 1) s0_end _ (ix ids 2) (ix ids 3) (ix ids 4) (ix ids 0) g2 g3 g4 w w1 w2 w3 w4 w5 w6 v1 g (by exact hI.sub' J J)) J J J J J J (fun v _=>Ao (K:=5) (N:=1) Tryz.func215 hI) ?_
  rintro r2 _ _ _ ⟨rfl,rfl⟩
  refine Aw [2,3,4,0] hI J J J ?_
  refine Ap<|Bc (j:=5) hI J J J J Do J fun g5=>Aq (Ax (v:=(.agg (A7 r2))) hI J J J J Do J J J J J)<|Aa<|Aj ?_
  refine Y<|O<|Z (.q ids 0 g) J Ad<|An [0] hI J J (C5 [59] (((s0_l.drop 1).drop 1).drop 1) s0_end _ (ix ids 0) w w1 w2 w3 w4 w5 w6 v1 g (by exact hI.sub' J J)) J J J J J J (fun v _=>Ao (K:=5) (N:=1) Tryz.func215 hI) ?_
  rintro _ _ _ _ ⟨rfl,rfl⟩
  refine Aw [0] hI J J J ?_
  refine Ap<|Aa<|Aj ?_
  refine Di Gg [[],[],[1],[1,2],[],[4],[1,2,3,4,5],[0,0,1,2,3,4,5,6],[0,1,2,3,4,5,6,6,6,7]] [(false,0),(false,1),(false,2),(false,3),(false,4),(true,5),(true,6),(false,7),(true,8)] (by kernel_rfl)<|Ag (.ptr (ix ids 0) g 0 9) J J Ad<|Ag (.ptr (ix ids 0) g 0 9) J J Ad<|Ag (.ptr (ix ids 0) g 0 9) J J (Bg J)<|Ag v1 J J (Au (Be hI J J J E1 J))<|Ag (.agg (A7 r2)) J J (Au (Be hI J J J Do J))<|Jh J J (fun _ _=>J) (fun K hK=>Mc (e:=A7) (L:=[r2]) (st:=8) (rows:=[[(.I r2.Kind),(.str r2.C),(.str r2.A),(.I r2.Class),(.I r2.Airport),(.I r2.N),(.I r2.Hours.From),(.I r2.Hours.To)]]) E1 Do J J J J J (.cons (RowSim.refl _) .nil) (fun x=>Se x) J J (hK _ _ (Af J (Br J (Au (Be hI J J J E1 J)) (Br J (Bg J) (Br J Ad (Br J Ad Bw))))) ?_))
  clear hK K
  refine Kt fun hl=>Jh J J (fun _ _=>J) (fun K hK=>Iq (e:=A7) (L:=l) (L2:=[r2]) (v:=v1) (g:=g1) (st:=8) (j:=1) hI J J J vH J (Ke J) E1 E1 J Do J J J hl fun v2 g6 vH1=>hK _ _ (Af J (Af J (Af J (Af J (Br J Ad Bw))))) ?_)
  clear hK K
  refine Ag (.ptr (ix ids 0) g 0 9) J J (Bg J)<|Gr J (fun _ _=>J) (fun K hK=>D4 (Jj vH1 hI J J J J E1 J J J) (hK _ _ (Af J (Af J (Af J (Af J (Af J (Af J Bw)))))) ?_))
  clear hK K
  refine Ct<|Aj ?_
  exact Ce (K:=5) (N:=1) (a:=(l++[r2])) (vs:=[]) [some (.rows g 10 [[(.sl 4 (List.map Ac ((((s0_l.drop 1).drop 1).drop 1).drop 1))),(.I s0_end),w,w1,w2,w3,w4,w5,w6,v2]]),Ah v2 g6 8 (List.map A7 (l++[r2])),some (.rows g2 1 [[(.I s2)]]),some (.rows g3 1 [[(.func (.func 206) [] [(.q ids 4 g4)])]]),some (.rows g4 1 [[(.q ids 0 g)]])] Tryz.func215 hI J J J (.keep (.keep (.keep (.keep (.keep (.drop .nil)))))) (.same _) ⟨v2,g6,vH1,J,J⟩
 refine Cd J (fun hc=>?_) (fun hc=>?_)
 ·refine O<|Z (.q ids 0 g) J Ad<|An [0] hI J J (Ci 2 s0_l s0_end _ (ix ids 0) w w1 w2 w3 w4 w5 w6 v1 g (by exact hI.sub' J J)) J J J J J J (fun v _=>Ao (K:=5) (N:=1) Tryz.func215 hI) ?_
  rintro _ _ _ _ ⟨rfl,rfl⟩
  refine Aw [0] hI J J J ?_
  refine Ap<|Aa<|Bo (hJ () _ _ ⟨J,J⟩)
 refine Az<|Bo (hJ () _ _ ⟨J,J⟩)
theorem Vr (kind:Int)(s0_l:List Token)(s0_end:Int)(l:List Rule)(h0:Ae)(o0:Nat)(o1:Nat)(o2:Nat)(w:AV)(w1:AV)(w2:AV)(w3:AV)(w4:AV)(w5:AV)(w6:AV)(g:Nat)(v1:AV)(g1:Nat)(g2:Nat)(vH:Ay v1 o1 g1 l.length)(hI0:Ids h0 [o0,o1,o2] 3):K7 kind s0_l s0_end l≠.bad→Bh Tryz.prog 198 [(.ptr o0 g 0 0),(.int .i64 kind),(.func (.func 206) [] [(.ptr o2 g2 0 0)])] (hp h0 [o0,o1,o2] [some (.rows g 10 [[(.sl 4 (List.map Ac s0_l)),(.int .i64 s0_end),w,w1,w2,w3,w4,w5,w6,v1]]),Ah v1 g1 8 (List.map A7 l),some (.rows g2 1 [[(.ptr o0 g 0 0)]])]) (Cs (fun a_ v h' => ∃ (v3:AV),∃ (g6:Nat),Ay v3 o1 g6 a_.length∧v=(.tup [])∧h'=hp h0 [o0,o1,o2] [some (.rows g 10 [[(.sl 4 (List.map Ac ((((s0_l.drop 1).drop 1).drop 1).drop 1))),(.int .i64 s0_end),w,w1,w2,w3,w4,w5,w6,v3]]),Ah v3 g6 8 (List.map A7 a_),some (.rows g2 1 [[(.ptr o0 g 0 0)]])]) h0 (K7 kind s0_l s0_end l)):=by
 refine Bb (n:=13) 2 Tryz.func198 J (by decide) J J hI0 J fun ids he hI=>?_
 clear hI0
 obtain rfl:ix ids 0=o0:=he 0 rfl
 obtain rfl:ix ids 1=o1:=he 1 rfl
 obtain rfl:ix ids 2=o2:=he 2 rfl
 clear he
 refine Bm (Ak (K7.eq_1 _ _ _ _) ?_)
 refine Aj ?_
 refine Y<|O<|Cv (v:=(.I kind)) (j:=3) hI J J J J J J J fun g3=>Cv (v:=(.func (.func 206) [] [(.q ids 2 g2)])) (j:=4) hI J J J J J J J fun g4=>Aa<|Aj ?_
 refine O<|Ab 6 [] [(11,(.func (.func 216) [] [(.q ids 3 g3),(.q ids 4 g4)])),(10,(.ptr (ix ids 0) g 0 9)),(6,(.q ids 0 g))] ?_
 refine An [0,1,3,4,2] hI J J (X4 64 s0_l s0_end l kind _ (ix ids 0) (ix ids 1) (ix ids 3) (ix ids 4) (ix ids 2) w w1 w2 w3 w4 w5 w6 g v1 g1 g3 g4 g2 vH (by exact hI.sub' J J)) J J J J J J (fun v _=>Ao (K:=3) (N:=2) Tryz.func198 hI) ?_
 rintro r _ _ _ ⟨v2,g5,vH1,rfl,rfl⟩
 refine Aw [0,1,3,4,2] hI J J J ?_
 refine Ap<|Aa<|Aj ?_
 exact Ce (K:=3) (N:=2) (a:=r) (vs:=[]) [some (.rows g 10 [[(.sl 4 (List.map Ac ((((s0_l.drop 1).drop 1).drop 1).drop 1))),(.I s0_end),w,w1,w2,w3,w4,w5,w6,v2]]),Ah v2 g5 8 (List.map A7 r),some (.rows g2 1 [[(.q ids 0 g)]])] Tryz.func198 hI J J J (.keep (.keep (.keep (.drop (.drop .nil))))) (.same _) ⟨v2,g5,vH1,J,J⟩
theorem Vo (s0_l:List Token)(s0_end:Int)(l:List Rule)(h0:Ae)(o0:Nat)(o1:Nat)(w:AV)(w1:AV)(w2:AV)(w3:AV)(w4:AV)(w5:AV)(w6:AV)(g:Nat)(v1:AV)(g1:Nat)(vH:Ay v1 o1 g1 l.length)(hI0:Ids h0 [o0,o1] 2):I4 s0_l s0_end l≠.bad→Bh Tryz.prog 205 [(.ptr o0 g 0 0)] (hp h0 [o0,o1] [some (.rows g 10 [[(.sl 4 (List.map Ac s0_l)),(.int .i64 s0_end),w,w1,w2,w3,w4,w5,w6,v1]]),Ah v1 g1 8 (List.map A7 l)]) (Cs (fun a_ v h' => ∃ (v3:AV),∃ (g4:Nat),Ay v3 o1 g4 a_.length∧v=(.tup [])∧h'=hp h0 [o0,o1] [some (.rows g 10 [[(.sl 4 (List.map Ac ((((s0_l.drop 1).drop 1).drop 1).drop 1))),(.int .i64 s0_end),w,w1,w2,w3,w4,w5,w6,v3]]),Ah v3 g4 8 (List.map A7 a_)]) h0 (I4 s0_l s0_end l)):=by
 refine Bb (n:=5) 1 Tryz.func205 J (by decide) J J hI0 J fun ids he hI=>?_
 clear hI0
 obtain rfl:ix ids 0=o0:=he 0 rfl
 obtain rfl:ix ids 1=o1:=he 1 rfl
 clear he
 refine Bm (Ak (I4.eq_1 _ _ _) ?_)
 refine Aj ?_
 refine Y<|O<|Cv (v:=(.q ids 0 g)) (j:=2) hI J J J J J J J fun g2=>Aa<|Aj ?_
 refine O<|Ab 2 [2] [(3,(.func (.func 206) [] [(.q ids 2 g2)])),(2,(.q ids 0 g))] ?_
 refine An [0,1,2] hI J J (Vr 4 s0_l s0_end l _ (ix ids 0) (ix ids 1) (ix ids 2) w w1 w2 w3 w4 w5 w6 g v1 g1 g2 vH (by exact hI.sub' J J)) J J J J J J (fun v _=>Ao (K:=2) (N:=1) Tryz.func205 hI) ?_
 rintro r _ _ _ ⟨v2,g3,vH1,rfl,rfl⟩
 refine Aw [0,1,2] hI J J J ?_
 refine Ap<|Aa<|Aj ?_
 exact Ce (K:=2) (N:=1) (a:=r) (vs:=[]) [some (.rows g 10 [[(.sl 4 (List.map Ac ((((s0_l.drop 1).drop 1).drop 1).drop 1))),(.I s0_end),w,w1,w2,w3,w4,w5,w6,v2]]),Ah v2 g3 8 (List.map A7 r)] Tryz.func205 hI J J J (.keep (.keep (.drop .nil))) (.same _) ⟨v2,g3,vH1,J,J⟩
theorem X2 (most:Int)(s0_l:List Token)(s0_end:Int)(l:List Rule)(s2:Int)(h0:Ae)(o0:Nat)(o1:Nat)(o2:Nat)(o3:Nat)(o4:Nat)(w:AV)(w1:AV)(w2:AV)(w3:AV)(w4:AV)(w5:AV)(w6:AV)(g:Nat)(v1:AV)(g1:Nat)(g2:Nat)(g3:Nat)(g4:Nat)(vH:Ay v1 o1 g1 l.length)(hI0:Ids h0 [o0,o1,o2,o3,o4] 5):Jg most s0_l s0_end l s2≠.bad→Bh Tryz.prog 215 [(.ptr o0 g 0 0),(.ptr o0 g 0 9),(.int .i64 most),(.func (.func 216) [] [(.ptr o2 g2 0 0),(.ptr o3 g3 0 0)])] (hp h0 [o0,o1,o2,o3,o4] [some (.rows g 10 [[(.sl 4 (List.map Ac s0_l)),(.int .i64 s0_end),w,w1,w2,w3,w4,w5,w6,v1]]),Ah v1 g1 8 (List.map A7 l),some (.rows g2 1 [[(.int .i64 s2)]]),some (.rows g3 1 [[(.func (.func 204) [] [(.ptr o4 g4 0 0)])]]),some (.rows g4 1 [[(.ptr o0 g 0 0)]])]) (Cs (fun a_ v h' => ∃ (v3:AV),∃ (g7:Nat),Ay v3 o1 g7 a_.length∧v=(.tup [])∧h'=hp h0 [o0,o1,o2,o3,o4] [some (.rows g 10 [[(.sl 4 (List.map Ac ((((s0_l.drop 1).drop 1).drop 1).drop 1))),(.int .i64 s0_end),w,w1,w2,w3,w4,w5,w6,v3]]),Ah v3 g7 8 (List.map A7 a_),some (.rows g2 1 [[(.int .i64 s2)]]),some (.rows g3 1 [[(.func (.func 204) [] [(.ptr o4 g4 0 0)])]]),some (.rows g4 1 [[(.ptr o0 g 0 0)]])]) h0 (Jg most s0_l s0_end l s2)):=by
 refine Bb (n:=39) 1 Tryz.func215 J (by decide) J J hI0 J fun ids he hI=>?_
 clear hI0
 obtain rfl:ix ids 0=o0:=he 0 rfl
 obtain rfl:ix ids 1=o1:=he 1 rfl
 obtain rfl:ix ids 2=o2:=he 2 rfl
 obtain rfl:ix ids 3=o3:=he 3 rfl
 obtain rfl:ix ids 4=o4:=he 4 rfl
 clear he
 refine Bm (Ak (Jg.eq_1 _ _ _ _ _) ?_)
 refine Aj ?_
 refine Y<|Y<|O<|Ab 3 [0] [(11,v1)] ?_
 refine Z (.I (l.length:Int)) J (A0 (Ay.len vH E1))<|Ab 2 [] [(14,(.bool ((l.length:Int)==most)))] ?_
 refine Aa<|Ed (π:=Unit) (fun _=>Jp s0_l s0_end l s2) (fun _=>fun(fr:Nat→AV) (h:Ae)=>fr=A2 [(0,(.q ids 0 g)),(1,(.ptr (ix ids 0) g 0 9)),(3,(.func (.func 216) [] [(.q ids 2 g2),(.q ids 3 g3)]))]∧h=hp h0 ids [(some (.rows g 10 [[(.sl 4 (List.map Ac s0_l)),(.I s0_end),w,w1,w2,w3,w4,w5,w6,v1]])),(Ah v1 g1 8 (List.map A7 l)),(some (.rows g2 1 [[(.I s2)]])),(some (.rows g3 1 [[(.func (.func 204) [] [(.q ids 4 g4)])]])),(some (.rows g4 1 [[(.q ids 0 g)]])),none]) ?_ fun hJ=>?_
 ·rintro _ fr h ⟨rfl,rfl⟩
  refine Ak (Jp.eq_1 _ _ _ _)<|Y<|O<|Ab 5 [0] [(21,(.sl 4 (List.map Ac s0_l))),(17,(.q ids 0 g))] ?_
  refine Gb fun hs=>Z (.sl 4 (List.map Ac (s0_l.drop 1))) J (Gu (Ny Cx Dc J hs))<|Ab 2 [] [(24,(.q ids 0 g))] ?_
  refine Aq (Ax (v:=(.sl 4 (List.map Ac (s0_l.drop 1)))) hI J J J J Cx J J J J J)<|Aa<|Aj ?_
  refine Y<|O<|Ab 2 [] [(26,(.q ids 0 g)),(25,(.func (.func 216) [] [(.q ids 2 g2),(.q ids 3 g3)]))] ?_
  refine An [0] hI J J (Cu (s0_l.drop 1) s0_end _ (ix ids 0) w w1 w2 w3 w4 w5 w6 v1 g (by exact hI.sub' J J)) J J J J J J (fun v _=>Ao (K:=5) (N:=1) Tryz.func215 hI) ?_
  rintro r1 _ _ _ ⟨rfl,rfl⟩
  refine Aw [0] hI J J J ?_
  refine Ap<|An [2,3,4,0] hI J J (V2 r1 s2 ((s0_l.drop 1).drop 1) s0_end _ (ix ids 2) (ix ids 3) (ix ids 4) (ix ids 0) g2 g3 g4 w w1 w2 w3 w4 w5 w6 v1 g (by exact hI.sub' J J)) J J J J J J (fun v _=>Ao (K:=5) (N:=1) Tryz.func215 hI) ?_
  rintro r2 _ _ _ ⟨rfl,rfl⟩
  refine Aw [2,3,4,0] hI J J J ?_
  refine Ap<|Bc (j:=5) hI J J J J Do J fun g5=>Aq (Ax (v:=(.agg (A7 r2))) hI J J J J Do J J J J J)<|Aa<|Aj ?_
  refine Y<|O<|Z (.q ids 0 g) J Ad<|An [0] hI J J (C5 [59] (((s0_l.drop 1).drop 1).drop 1) s0_end _ (ix ids 0) w w1 w2 w3 w4 w5 w6 v1 g (by exact hI.sub' J J)) J J J J J J (fun v _=>Ao (K:=5) (N:=1) Tryz.func215 hI) ?_
  rintro _ _ _ _ ⟨rfl,rfl⟩
  refine Aw [0] hI J J J ?_
  refine Ap<|Aa<|Aj ?_
  refine Di Gg [[],[],[1],[1,2],[],[4],[1,2,3,4,5],[0,0,1,2,3,4,5,6],[0,1,2,3,4,5,6,6,6,7]] [(false,0),(false,1),(false,2),(false,3),(false,4),(true,5),(true,6),(false,7),(true,8)] (by kernel_rfl)<|Ag (.ptr (ix ids 0) g 0 9) J J Ad<|Ag (.ptr (ix ids 0) g 0 9) J J Ad<|Ag (.ptr (ix ids 0) g 0 9) J J (Bg J)<|Ag v1 J J (Au (Be hI J J J E1 J))<|Ag (.agg (A7 r2)) J J (Au (Be hI J J J Do J))<|Jh J J (fun _ _=>J) (fun K hK=>Mc (e:=A7) (L:=[r2]) (st:=8) (rows:=[[(.I r2.Kind),(.str r2.C),(.str r2.A),(.I r2.Class),(.I r2.Airport),(.I r2.N),(.I r2.Hours.From),(.I r2.Hours.To)]]) E1 Do J J J J J (.cons (RowSim.refl _) .nil) (fun x=>Se x) J J (hK _ _ (Af J (Br J (Au (Be hI J J J E1 J)) (Br J (Bg J) (Br J Ad (Br J Ad Bw))))) ?_))
  clear hK K
  refine Kt fun hl=>Jh J J (fun _ _=>J) (fun K hK=>Iq (e:=A7) (L:=l) (L2:=[r2]) (v:=v1) (g:=g1) (st:=8) (j:=1) hI J J J vH J (Ke J) E1 E1 J Do J J J hl fun v2 g6 vH1=>hK _ _ (Af J (Af J (Af J (Af J (Br J Ad Bw))))) ?_)
  clear hK K
  refine Ag (.ptr (ix ids 0) g 0 9) J J (Bg J)<|Gr J (fun _ _=>J) (fun K hK=>D4 (Jj vH1 hI J J J J E1 J J J) (hK _ _ (Af J (Af J (Af J (Af J (Af J (Af J Bw)))))) ?_))
  clear hK K
  refine Ct<|Aj ?_
  exact Ce (K:=5) (N:=1) (a:=(l++[r2])) (vs:=[]) [some (.rows g 10 [[(.sl 4 (List.map Ac ((((s0_l.drop 1).drop 1).drop 1).drop 1))),(.I s0_end),w,w1,w2,w3,w4,w5,w6,v2]]),Ah v2 g6 8 (List.map A7 (l++[r2])),some (.rows g2 1 [[(.I s2)]]),some (.rows g3 1 [[(.func (.func 204) [] [(.q ids 4 g4)])]]),some (.rows g4 1 [[(.q ids 0 g)]])] Tryz.func215 hI J J J (.keep (.keep (.keep (.keep (.keep (.drop .nil)))))) (.same _) ⟨v2,g6,vH1,J,J⟩
 refine Cd J (fun hc=>?_) (fun hc=>?_)
 ·refine O<|Z (.q ids 0 g) J Ad<|An [0] hI J J (Ci 2 s0_l s0_end _ (ix ids 0) w w1 w2 w3 w4 w5 w6 v1 g (by exact hI.sub' J J)) J J J J J J (fun v _=>Ao (K:=5) (N:=1) Tryz.func215 hI) ?_
  rintro _ _ _ _ ⟨rfl,rfl⟩
  refine Aw [0] hI J J J ?_
  refine Ap<|Aa<|Bo (hJ () _ _ ⟨J,J⟩)
 refine Az<|Bo (hJ () _ _ ⟨J,J⟩)
theorem Va (kind:Int)(s0_l:List Token)(s0_end:Int)(l:List Rule)(h0:Ae)(o0:Nat)(o1:Nat)(o2:Nat)(w:AV)(w1:AV)(w2:AV)(w3:AV)(w4:AV)(w5:AV)(w6:AV)(g:Nat)(v1:AV)(g1:Nat)(g2:Nat)(vH:Ay v1 o1 g1 l.length)(hI0:Ids h0 [o0,o1,o2] 3):Lb kind s0_l s0_end l≠.bad→Bh Tryz.prog 198 [(.ptr o0 g 0 0),(.int .i64 kind),(.func (.func 204) [] [(.ptr o2 g2 0 0)])] (hp h0 [o0,o1,o2] [some (.rows g 10 [[(.sl 4 (List.map Ac s0_l)),(.int .i64 s0_end),w,w1,w2,w3,w4,w5,w6,v1]]),Ah v1 g1 8 (List.map A7 l),some (.rows g2 1 [[(.ptr o0 g 0 0)]])]) (Cs (fun a_ v h' => ∃ (v3:AV),∃ (g6:Nat),Ay v3 o1 g6 a_.length∧v=(.tup [])∧h'=hp h0 [o0,o1,o2] [some (.rows g 10 [[(.sl 4 (List.map Ac ((((s0_l.drop 1).drop 1).drop 1).drop 1))),(.int .i64 s0_end),w,w1,w2,w3,w4,w5,w6,v3]]),Ah v3 g6 8 (List.map A7 a_),some (.rows g2 1 [[(.ptr o0 g 0 0)]])]) h0 (Lb kind s0_l s0_end l)):=by
 refine Bb (n:=13) 2 Tryz.func198 J (by decide) J J hI0 J fun ids he hI=>?_
 clear hI0
 obtain rfl:ix ids 0=o0:=he 0 rfl
 obtain rfl:ix ids 1=o1:=he 1 rfl
 obtain rfl:ix ids 2=o2:=he 2 rfl
 clear he
 refine Bm (Ak (Lb.eq_1 _ _ _ _) ?_)
 refine Aj ?_
 refine Y<|O<|Cv (v:=(.I kind)) (j:=3) hI J J J J J J J fun g3=>Cv (v:=(.func (.func 204) [] [(.q ids 2 g2)])) (j:=4) hI J J J J J J J fun g4=>Aa<|Aj ?_
 refine O<|Ab 6 [] [(11,(.func (.func 216) [] [(.q ids 3 g3),(.q ids 4 g4)])),(10,(.ptr (ix ids 0) g 0 9)),(6,(.q ids 0 g))] ?_
 refine An [0,1,3,4,2] hI J J (X2 64 s0_l s0_end l kind _ (ix ids 0) (ix ids 1) (ix ids 3) (ix ids 4) (ix ids 2) w w1 w2 w3 w4 w5 w6 g v1 g1 g3 g4 g2 vH (by exact hI.sub' J J)) J J J J J J (fun v _=>Ao (K:=3) (N:=2) Tryz.func198 hI) ?_
 rintro r _ _ _ ⟨v2,g5,vH1,rfl,rfl⟩
 refine Aw [0,1,3,4,2] hI J J J ?_
 refine Ap<|Aa<|Aj ?_
 exact Ce (K:=3) (N:=2) (a:=r) (vs:=[]) [some (.rows g 10 [[(.sl 4 (List.map Ac ((((s0_l.drop 1).drop 1).drop 1).drop 1))),(.I s0_end),w,w1,w2,w3,w4,w5,w6,v2]]),Ah v2 g5 8 (List.map A7 r),some (.rows g2 1 [[(.q ids 0 g)]])] Tryz.func198 hI J J J (.keep (.keep (.keep (.drop (.drop .nil))))) (.same _) ⟨v2,g5,vH1,J,J⟩
theorem Vn (s0_l:List Token)(s0_end:Int)(l:List Rule)(h0:Ae)(o0:Nat)(o1:Nat)(w:AV)(w1:AV)(w2:AV)(w3:AV)(w4:AV)(w5:AV)(w6:AV)(g:Nat)(v1:AV)(g1:Nat)(vH:Ay v1 o1 g1 l.length)(hI0:Ids h0 [o0,o1] 2):I0 s0_l s0_end l≠.bad→Bh Tryz.prog 203 [(.ptr o0 g 0 0)] (hp h0 [o0,o1] [some (.rows g 10 [[(.sl 4 (List.map Ac s0_l)),(.int .i64 s0_end),w,w1,w2,w3,w4,w5,w6,v1]]),Ah v1 g1 8 (List.map A7 l)]) (Cs (fun a_ v h' => ∃ (v3:AV),∃ (g4:Nat),Ay v3 o1 g4 a_.length∧v=(.tup [])∧h'=hp h0 [o0,o1] [some (.rows g 10 [[(.sl 4 (List.map Ac ((((s0_l.drop 1).drop 1).drop 1).drop 1))),(.int .i64 s0_end),w,w1,w2,w3,w4,w5,w6,v3]]),Ah v3 g4 8 (List.map A7 a_)]) h0 (I0 s0_l s0_end l)):=by
 refine Bb (n:=5) 1 Tryz.func203 J (by decide) J J hI0 J fun ids he hI=>?_
 clear hI0
 obtain rfl:ix ids 0=o0:=he 0 rfl
 obtain rfl:ix ids 1=o1:=he 1 rfl
 clear he
 refine Bm (Ak (I0.eq_1 _ _ _) ?_)
 refine Aj ?_
 refine Y<|O<|Cv (v:=(.q ids 0 g)) (j:=2) hI J J J J J J J fun g2=>Aa<|Aj ?_
 refine O<|Ab 2 [2] [(3,(.func (.func 204) [] [(.q ids 2 g2)])),(2,(.q ids 0 g))] ?_
 refine An [0,1,2] hI J J (Va 3 s0_l s0_end l _ (ix ids 0) (ix ids 1) (ix ids 2) w w1 w2 w3 w4 w5 w6 g v1 g1 g2 vH (by exact hI.sub' J J)) J J J J J J (fun v _=>Ao (K:=2) (N:=1) Tryz.func203 hI) ?_
 rintro r _ _ _ ⟨v2,g3,vH1,rfl,rfl⟩
 refine Aw [0,1,2] hI J J J ?_
 refine Ap<|Aa<|Aj ?_
 exact Ce (K:=2) (N:=1) (a:=r) (vs:=[]) [some (.rows g 10 [[(.sl 4 (List.map Ac ((((s0_l.drop 1).drop 1).drop 1).drop 1))),(.I s0_end),w,w1,w2,w3,w4,w5,w6,v2]]),Ah v2 g3 8 (List.map A7 r)] Tryz.func203 hI J J J (.keep (.keep (.drop .nil))) (.same _) ⟨v2,g3,vH1,J,J⟩
theorem T0 (s0_l:List Token)(s0_end:Int)(l:List Volume)(l1:List Sector)(l2:List Config)(l3:List Segment)(l4:List Route)(l5:List Airport)(l6:List Class)(l7:List Rule)(h0:Ae)(o0:Nat)(o1:Nat)(o2:Nat)(o3:Nat)(o4:Nat)(o5:Nat)(o6:Nat)(o7:Nat)(o8:Nat)(g:Nat)(v1:AV)(g1:Nat)(v2:AV)(g2:Nat)(v3:AV)(g3:Nat)(v4:AV)(g4:Nat)(v5:AV)(g5:Nat)(v6:AV)(g6:Nat)(v7:AV)(g7:Nat)(v8:AV)(g8:Nat)(vH:Ay v1 o1 g1 l.length)(vH1:Ay v2 o2 g2 l1.length)(vH2:Ay v3 o3 g3 l2.length)(vH3:Ay v4 o4 g4 l3.length)(vH4:Ay v5 o5 g5 l4.length)(vH5:Ay v6 o6 g6 l5.length)(vH6:Ay v7 o7 g7 l6.length)(vH7:Ay v8 o8 g8 l7.length)(hI0:Ids h0 [o0,o1,o2,o3,o4,o5,o6,o7,o8] 9):Ge s0_l s0_end l l1 l2 l3 l4 l5 l6 l7≠.bad→Bh Tryz.prog 21 [(.ptr o0 g 0 0)] (hp h0 [o0,o1,o2,o3,o4,o5,o6,o7,o8] [some (.rows g 10 [[(.sl 4 (List.map Ac s0_l)),(.int .i64 s0_end),v1,v2,v3,v4,v5,v6,v7,v8]]),Ah v1 g1 2 (List.map As l),Ah v2 g2 5 (List.map A3 l1),Ah v3 g3 3 (List.map Bf l2),Ah v4 g4 5 (List.map A9 l3),Ah v5 g5 7 (List.map Bp l4),Ah v6 g6 2 (List.map A6 l5),Ah v7 g7 4 (List.map Bx l6),Ah v8 g8 8 (List.map A7 l7)]) (Cs (fun a_ v h' => ∃ (v20:AV),∃ (g20:Nat),∃ (v21:AV),∃ (g21:Nat),∃ (v22:AV),∃ (g22:Nat),∃ (v23:AV),∃ (g23:Nat),∃ (v24:AV),∃ (g24:Nat),∃ (v25:AV),∃ (g25:Nat),∃ (v26:AV),∃ (g26:Nat),∃ (v27:AV),∃ (g27:Nat),Ay v20 o1 g20 a_.2.1.length∧Ay v21 o2 g21 a_.2.2.1.length∧Ay v22 o3 g22 a_.2.2.2.1.length∧Ay v23 o4 g23 a_.2.2.2.2.1.length∧Ay v24 o5 g24 a_.2.2.2.2.2.1.length∧Ay v25 o6 g25 a_.2.2.2.2.2.2.1.length∧Ay v26 o7 g26 a_.2.2.2.2.2.2.2.1.length∧Ay v27 o8 g27 a_.2.2.2.2.2.2.2.2.length∧v=(.tup [])∧h'=hp h0 [o0,o1,o2,o3,o4,o5,o6,o7,o8] [some (.rows g 10 [[(.sl 4 (List.map Ac a_.1)),(.int .i64 s0_end),v20,v21,v22,v23,v24,v25,v26,v27]]),Ah v20 g20 2 (List.map As a_.2.1),Ah v21 g21 5 (List.map A3 a_.2.2.1),Ah v22 g22 3 (List.map Bf a_.2.2.2.1),Ah v23 g23 5 (List.map A9 a_.2.2.2.2.1),Ah v24 g24 7 (List.map Bp a_.2.2.2.2.2.1),Ah v25 g25 2 (List.map A6 a_.2.2.2.2.2.2.1),Ah v26 g26 4 (List.map Bx a_.2.2.2.2.2.2.2.1),Ah v27 g27 8 (List.map A7 a_.2.2.2.2.2.2.2.2)]) h0 (Ge s0_l s0_end l l1 l2 l3 l4 l5 l6 l7)):=by
 refine Bb (n:=30) 0 Tryz.func21 J (by decide) J J hI0 J fun ids he hI=>?_
 clear hI0
 obtain rfl:ix ids 0=o0:=he 0 rfl
 obtain rfl:ix ids 1=o1:=he 1 rfl
 obtain rfl:ix ids 2=o2:=he 2 rfl
 obtain rfl:ix ids 3=o3:=he 3 rfl
 obtain rfl:ix ids 4=o4:=he 4 rfl
 obtain rfl:ix ids 5=o5:=he 5 rfl
 obtain rfl:ix ids 6=o6:=he 6 rfl
 obtain rfl:ix ids 7=o7:=he 7 rfl
 obtain rfl:ix ids 8=o8:=he 8 rfl
 clear he
 refine Bm (Ak (Ge.eq_1 _ _ _ _ _ _ _ _ _ _) ?_)
 refine Y<|Y<|O<|Ab 4 [0] [(7,(.sl 4 (List.map Ac s0_l)))] ?_
 refine Ey fun a hz hx1=>Z (.cp (Ac a) 0) J (Bt (Dy Cx Dc J hz hx1))<|Ab 3 [] [(11,(.bool (a.Kind==1)))] ?_
 refine Aa<|Ed (π:=Unit) (fun _=>Fa s0_l s0_end l l1 l2 l3 l4 l5 l6 l7) (fun _=>fun(fr:Nat→AV) (h:Ae)=>fr=A2 [(0,(.q ids 0 g))]∧h=hp h0 ids [(some (.rows g 10 [[(.sl 4 (List.map Ac s0_l)),(.I s0_end),v1,v2,v3,v4,v5,v6,v7,v8]])),(Ah v1 g1 2 (List.map As l)),(Ah v2 g2 5 (List.map A3 l1)),(Ah v3 g3 3 (List.map Bf l2)),(Ah v4 g4 5 (List.map A9 l3)),(Ah v5 g5 7 (List.map Bp l4)),(Ah v6 g6 2 (List.map A6 l5)),(Ah v7 g7 4 (List.map Bx l6)),(Ah v8 g8 8 (List.map A7 l7))]) ?_ fun hJ=>?_
 ·rintro _ fr h ⟨rfl,rfl⟩
  refine Ak (Fa.eq_1 _ _ _ _ _ _ _ _ _ _)<|O<|Z (.q ids 0 g) J Ad<|Bz [(.q ids 0 g),(.I 80)] J J J J (CP.lend (Ze ({ fL:=s0_l,fEnd:=s0_end,fA:=({ Volumes:=l,Sectors:=l1,Configs:=l2,Segments:=l3,Routes:=l4,Airports:=l5,Classes:=l6,Rules:=l7 }:Airspace) }:T67) 80) (LF.lfz (.cons (.ptrL (hI.at J J) J J (.cons (.same _) (.cons (.same _) (.cons (Fo vH (hI.at J J) J (fun x=>Ye x)) (.cons (Fo vH1 (hI.at J J) J (fun x=>Rn x)) (.cons (Fo vH2 (hI.at J J) J (fun x=>Vg x)) (.cons (Fo vH3 (hI.at J J) J (fun x=>Tz x)) (.cons (Fo vH4 (hI.at J J) J (fun x=>Xm x)) (.cons (Fo vH5 (hI.at J J) J (fun x=>Ww x)) (.cons (Fo vH6 (hI.at J J) J (fun x=>Ade x)) (.cons (Fo vH7 (hI.at J J) J (fun x=>Se x)) .nil))))))))))) (.cons (.same _) .nil))) (fun _ _=>.tup0)) (fun v _=>Ao (K:=9) (N:=0) Tryz.func21 hI) fun _ _=>Aa<|Ce (K:=9) (N:=0) (a:=(s0_l,l,l1,l2,l3,l4,l5,l6,l7)) (vs:=[]) [some (.rows g 10 [[(.sl 4 (List.map Ac s0_l)),(.I s0_end),v1,v2,v3,v4,v5,v6,v7,v8]]),Ah v1 g1 2 (List.map As l),Ah v2 g2 5 (List.map A3 l1),Ah v3 g3 3 (List.map Bf l2),Ah v4 g4 5 (List.map A9 l3),Ah v5 g5 7 (List.map Bp l4),Ah v6 g6 2 (List.map A6 l5),Ah v7 g7 4 (List.map Bx l6),Ah v8 g8 8 (List.map A7 l7)] Tryz.func21 hI J J J (.keep (.keep (.keep (.keep (.keep (.keep (.keep (.keep (.keep .nil))))))))) (.same _) ⟨v1,g1,v2,g2,v3,g3,v4,g4,v5,g5,v6,g6,v7,g7,v8,g8,vH,vH1,vH2,vH3,vH4,vH5,vH6,vH7,J,J⟩
 refine Cd J (fun hc=>?_) (fun hc=>?_)
 ·refine Y<|Di Gg [[],[],[1],[1,2],[1,2,3],[1,2,3,4],[1,2,3,4,5],[1,2,3,4,5,6],[0,1,2,3,4,5,6,7],[0,1,2,3,4,5,6,7,8],[0,1,2,3,4,5,6,7,8,9],[0,1,2,3,4,5,6,7,8,9],[0,1,2,3,4,5,6,7,8,9,10,10],[0,1,2,3,4,5,6,7,8,9,10,11,11,12,12]] [(false,0),(false,1),(false,2),(false,3),(false,4),(false,5),(false,6),(false,7),(false,8),(false,9),(false,10),(false,11),(false,12),(false,13)] (by kernel_rfl)<|Ag (.mapc (Ku Ph)) J J (Au (Auq (b:=0) (c:=0) J R9 J))<|Ag (.q ids 0 g) J J Ad<|Ag (.q ids 0 g) J J (Bg J)<|Ag (.q ids 0 g) J J (B9 (By (c:=0) (off:=0) (i:=0) Z8 J Cx J))<|Ag (.sl 4 (List.map Ac s0_l)) J J (Au (Be hI J J J Cx J)) ?_
  refine Ag (.cp (Ac a) 0) J J (Bt (Dy Cx Dc J hz hx1))<|Ag (.cp (Ac a) 1) J J (B9 (Aah (c:=0) (off:=1) (i:=1) Dc J Cy J))<|Ag (.str a.Text) J J (Au (Cp Cy J))<|Lq (fun hk=>?_) (fun hk=>?_)
  ·refine Ag (.tup [(.func (.func 189) [] []),(.bool true)]) J J (Ou (Pt (es:=Ku Ph) R9 Cy J Su hk J))<|Ag (.tup [(.func (.func 189) [] []),(.bool true)]) J J Ad<|Ag (.func (.func 189) [] []) J J (Io J)<|Ag (.bool true) J J (Io J)<|Ag (.func (.func 189) [] []) J J Al<|Ag (.bool true) J J Al<|Ct ?_
   refine Y<|O<|Z (.bool true) J Ad<|Aa<|Kp true J<|Y<|O ?_
   refine Ab 2 [] [(26,(.q ids 0 g)),(25,(.func (.func 189) [] []))] ?_
   refine An [0,1,6] hI J J (Wn s0_l s0_end l l5 _ (ix ids 0) (ix ids 1) (ix ids 6) v2 v3 v4 v5 v7 v8 g v1 g1 v6 g6 vH vH5 (by exact hI.sub' J J)) J J J J J J (fun v _=>Ao (K:=9) (N:=0) Tryz.func21 hI) ?_
   rintro r _ _ _ ⟨v9,g9,vH8,rfl,rfl⟩
   refine Aw [0,1,6] hI J J J ?_
   refine Ap<|Aa<|Aj ?_
   exact D3 (K:=9) (N:=0) (a:=(r.1,l,l1,l2,l3,l4,r.2,l6,l7)) (vs:=[]) [some (.rows g 10 [[(.sl 4 (List.map Ac r.1)),(.I s0_end),v1,v2,v3,v4,v5,v9,v7,v8]]),Ah v1 g1 2 (List.map As l),Ah v2 g2 5 (List.map A3 l1),Ah v3 g3 3 (List.map Bf l2),Ah v4 g4 5 (List.map A9 l3),Ah v5 g5 7 (List.map Bp l4),Ah v9 g9 2 (List.map A6 r.2),Ah v7 g7 4 (List.map Bx l6),Ah v8 g8 8 (List.map A7 l7)] Tryz.func21 hI J J J (.keep (.keep (.keep (.keep (.keep (.keep (.keep (.keep (.keep .nil))))))))) (.same _) ⟨v1,g1,v2,g2,v3,g3,v4,g4,v5,g5,v9,g9,v7,g7,v8,g8,vH,vH1,vH2,vH3,vH4,vH8,vH6,vH7,J,J⟩
  refine Lq (fun hk1=>?_) (fun hk1=>?_)
  ·refine Ag (.tup [(.func (.func 194) [] []),(.bool true)]) J J (Ou (Pt (es:=Ku Ph) R9 Cy J Su hk1 J))<|Ag (.tup [(.func (.func 194) [] []),(.bool true)]) J J Ad<|Ag (.func (.func 194) [] []) J J (Io J)<|Ag (.bool true) J J (Io J)<|Ag (.func (.func 194) [] []) J J Al<|Ag (.bool true) J J Al<|Ct ?_
   refine Y<|O<|Z (.bool true) J Ad<|Aa<|Kp true J<|Y<|O ?_
   refine Ab 2 [] [(26,(.q ids 0 g)),(25,(.func (.func 194) [] []))] ?_
   refine An [0,7] hI J J (Wq s0_l s0_end l6 _ (ix ids 0) (ix ids 7) v1 v2 v3 v4 v5 v6 v8 g v7 g7 vH6 (by exact hI.sub' J J)) J J J J J J (fun v _=>Ao (K:=9) (N:=0) Tryz.func21 hI) ?_
   rintro r1 _ _ _ ⟨v10,g10,vH9,rfl,rfl⟩
   refine Aw [0,7] hI J J J ?_
   refine Ap<|Aa<|Aj ?_
   exact D3 (K:=9) (N:=0) (a:=((((((((((s0_l.drop 1).drop 1).drop 1).drop 1).drop 1).drop 1).drop 1).drop 1).drop 1),l,l1,l2,l3,l4,l5,r1,l7)) (vs:=[]) [some (.rows g 10 [[(.sl 4 (List.map Ac (((((((((s0_l.drop 1).drop 1).drop 1).drop 1).drop 1).drop 1).drop 1).drop 1).drop 1))),(.I s0_end),v1,v2,v3,v4,v5,v6,v10,v8]]),Ah v1 g1 2 (List.map As l),Ah v2 g2 5 (List.map A3 l1),Ah v3 g3 3 (List.map Bf l2),Ah v4 g4 5 (List.map A9 l3),Ah v5 g5 7 (List.map Bp l4),Ah v6 g6 2 (List.map A6 l5),Ah v10 g10 4 (List.map Bx r1),Ah v8 g8 8 (List.map A7 l7)] Tryz.func21 hI J J J (.keep (.keep (.keep (.keep (.keep (.keep (.keep (.keep (.keep .nil))))))))) (.same _) ⟨v1,g1,v2,g2,v3,g3,v4,g4,v5,g5,v6,g6,v10,g10,v8,g8,vH,vH1,vH2,vH3,vH4,vH5,vH9,vH7,J,J⟩
  refine Lq (fun hk2=>?_) (fun hk2=>?_)
  ·refine Ag (.tup [(.func (.func 180) [] []),(.bool true)]) J J (Ou (Pt (es:=Ku Ph) R9 Cy J Su hk2 J))<|Ag (.tup [(.func (.func 180) [] []),(.bool true)]) J J Ad<|Ag (.func (.func 180) [] []) J J (Io J)<|Ag (.bool true) J J (Io J)<|Ag (.func (.func 180) [] []) J J Al<|Ag (.bool true) J J Al<|Ct ?_
   refine Y<|O<|Z (.bool true) J Ad<|Aa<|Kp true J<|Y<|O ?_
   refine Ab 2 [] [(26,(.q ids 0 g)),(25,(.func (.func 180) [] []))] ?_
   refine An [0,1,3] hI J J (Wh s0_l s0_end l l2 _ (ix ids 0) (ix ids 1) (ix ids 3) v2 v4 v5 v6 v7 v8 g v1 g1 v3 g3 vH vH2 (by exact hI.sub' J J)) J J J J J J (fun v _=>Ao (K:=9) (N:=0) Tryz.func21 hI) ?_
   rintro r2 _ _ _ ⟨v11,g11,vH10,rfl,rfl⟩
   refine Aw [0,1,3] hI J J J ?_
   refine Ap<|Aa<|Aj ?_
   exact D3 (K:=9) (N:=0) (a:=(r2.1,l,l1,r2.2,l3,l4,l5,l6,l7)) (vs:=[]) [some (.rows g 10 [[(.sl 4 (List.map Ac r2.1)),(.I s0_end),v1,v2,v11,v4,v5,v6,v7,v8]]),Ah v1 g1 2 (List.map As l),Ah v2 g2 5 (List.map A3 l1),Ah v11 g11 3 (List.map Bf r2.2),Ah v4 g4 5 (List.map A9 l3),Ah v5 g5 7 (List.map Bp l4),Ah v6 g6 2 (List.map A6 l5),Ah v7 g7 4 (List.map Bx l6),Ah v8 g8 8 (List.map A7 l7)] Tryz.func21 hI J J J (.keep (.keep (.keep (.keep (.keep (.keep (.keep (.keep (.keep .nil))))))))) (.same _) ⟨v1,g1,v2,g2,v11,g11,v4,g4,v5,g5,v6,g6,v7,g7,v8,g8,vH,vH1,vH10,vH3,vH4,vH5,vH6,vH7,J,J⟩
  refine Lq (fun hk3=>?_) (fun hk3=>?_)
  ·refine Ag (.tup [(.func (.func 197) [] []),(.bool true)]) J J (Ou (Pt (es:=Ku Ph) R9 Cy J Su hk3 J))<|Ag (.tup [(.func (.func 197) [] []),(.bool true)]) J J Ad<|Ag (.func (.func 197) [] []) J J (Io J)<|Ag (.bool true) J J (Io J)<|Ag (.func (.func 197) [] []) J J Al<|Ag (.bool true) J J Al<|Ct ?_
   refine Y<|O<|Z (.bool true) J Ad<|Aa<|Kp true J<|Y<|O ?_
   refine Ab 2 [] [(26,(.q ids 0 g)),(25,(.func (.func 197) [] []))] ?_
   refine An [0,8] hI J J (V5 s0_l s0_end l7 _ (ix ids 0) (ix ids 8) v1 v2 v3 v4 v5 v6 v7 g v8 g8 vH7 (by exact hI.sub' J J)) J J J J J J (fun v _=>Ao (K:=9) (N:=0) Tryz.func21 hI) ?_
   rintro r3 _ _ _ ⟨v12,g12,vH11,rfl,rfl⟩
   refine Aw [0,8] hI J J J ?_
   refine Ap<|Aa<|Aj ?_
   exact D3 (K:=9) (N:=0) (a:=(((((((((s0_l.drop 1).drop 1).drop 1).drop 1).drop 1).drop 1).drop 1).drop 1),l,l1,l2,l3,l4,l5,l6,r3)) (vs:=[]) [some (.rows g 10 [[(.sl 4 (List.map Ac ((((((((s0_l.drop 1).drop 1).drop 1).drop 1).drop 1).drop 1).drop 1).drop 1))),(.I s0_end),v1,v2,v3,v4,v5,v6,v7,v12]]),Ah v1 g1 2 (List.map As l),Ah v2 g2 5 (List.map A3 l1),Ah v3 g3 3 (List.map Bf l2),Ah v4 g4 5 (List.map A9 l3),Ah v5 g5 7 (List.map Bp l4),Ah v6 g6 2 (List.map A6 l5),Ah v7 g7 4 (List.map Bx l6),Ah v12 g12 8 (List.map A7 r3)] Tryz.func21 hI J J J (.keep (.keep (.keep (.keep (.keep (.keep (.keep (.keep (.keep .nil))))))))) (.same _) ⟨v1,g1,v2,g2,v3,g3,v4,g4,v5,g5,v6,g6,v7,g7,v12,g12,vH,vH1,vH2,vH3,vH4,vH5,vH6,vH11,J,J⟩
  refine Lq (fun hk4=>?_) (fun hk4=>?_)
  ·refine Ag (.tup [(.func (.func 201) [] []),(.bool true)]) J J (Ou (Pt (es:=Ku Ph) R9 Cy J Su hk4 J))<|Ag (.tup [(.func (.func 201) [] []),(.bool true)]) J J Ad<|Ag (.func (.func 201) [] []) J J (Io J)<|Ag (.bool true) J J (Io J)<|Ag (.func (.func 201) [] []) J J Al<|Ag (.bool true) J J Al<|Ct ?_
   refine Y<|O<|Z (.bool true) J Ad<|Aa<|Kp true J<|Y<|O ?_
   refine Ab 2 [] [(26,(.q ids 0 g)),(25,(.func (.func 201) [] []))] ?_
   refine An [0,8] hI J J (Wm s0_l s0_end l7 _ (ix ids 0) (ix ids 8) v1 v2 v3 v4 v5 v6 v7 g v8 g8 vH7 (by exact hI.sub' J J)) J J J J J J (fun v _=>Ao (K:=9) (N:=0) Tryz.func21 hI) ?_
   rintro r4 _ _ _ ⟨v13,g13,vH12,rfl,rfl⟩
   refine Aw [0,8] hI J J J ?_
   refine Ap<|Aa<|Aj ?_
   exact D3 (K:=9) (N:=0) (a:=((((s0_l.drop 1).drop 1).drop 1),l,l1,l2,l3,l4,l5,l6,r4)) (vs:=[]) [some (.rows g 10 [[(.sl 4 (List.map Ac (((s0_l.drop 1).drop 1).drop 1))),(.I s0_end),v1,v2,v3,v4,v5,v6,v7,v13]]),Ah v1 g1 2 (List.map As l),Ah v2 g2 5 (List.map A3 l1),Ah v3 g3 3 (List.map Bf l2),Ah v4 g4 5 (List.map A9 l3),Ah v5 g5 7 (List.map Bp l4),Ah v6 g6 2 (List.map A6 l5),Ah v7 g7 4 (List.map Bx l6),Ah v13 g13 8 (List.map A7 r4)] Tryz.func21 hI J J J (.keep (.keep (.keep (.keep (.keep (.keep (.keep (.keep (.keep .nil))))))))) (.same _) ⟨v1,g1,v2,g2,v3,g3,v4,g4,v5,g5,v6,g6,v7,g7,v13,g13,vH,vH1,vH2,vH3,vH4,vH5,vH6,vH12,J,J⟩
  refine Lq (fun hk5=>?_) (fun hk5=>?_)
  ·refine Ag (.tup [(.func (.func 205) [] []),(.bool true)]) J J (Ou (Pt (es:=Ku Ph) R9 Cy J Su hk5 J))<|Ag (.tup [(.func (.func 205) [] []),(.bool true)]) J J Ad<|Ag (.func (.func 205) [] []) J J (Io J)<|Ag (.bool true) J J (Io J)<|Ag (.func (.func 205) [] []) J J Al<|Ag (.bool true) J J Al<|Ct ?_
   refine Y<|O<|Z (.bool true) J Ad<|Aa<|Kp true J<|Y<|O ?_
   refine Ab 2 [] [(26,(.q ids 0 g)),(25,(.func (.func 205) [] []))] ?_
   refine An [0,8] hI J J (Vo s0_l s0_end l7 _ (ix ids 0) (ix ids 8) v1 v2 v3 v4 v5 v6 v7 g v8 g8 vH7 (by exact hI.sub' J J)) J J J J J J (fun v _=>Ao (K:=9) (N:=0) Tryz.func21 hI) ?_
   rintro r5 _ _ _ ⟨v14,g14,vH13,rfl,rfl⟩
   refine Aw [0,8] hI J J J ?_
   refine Ap<|Aa<|Aj ?_
   exact D3 (K:=9) (N:=0) (a:=(((((s0_l.drop 1).drop 1).drop 1).drop 1),l,l1,l2,l3,l4,l5,l6,r5)) (vs:=[]) [some (.rows g 10 [[(.sl 4 (List.map Ac ((((s0_l.drop 1).drop 1).drop 1).drop 1))),(.I s0_end),v1,v2,v3,v4,v5,v6,v7,v14]]),Ah v1 g1 2 (List.map As l),Ah v2 g2 5 (List.map A3 l1),Ah v3 g3 3 (List.map Bf l2),Ah v4 g4 5 (List.map A9 l3),Ah v5 g5 7 (List.map Bp l4),Ah v6 g6 2 (List.map A6 l5),Ah v7 g7 4 (List.map Bx l6),Ah v14 g14 8 (List.map A7 r5)] Tryz.func21 hI J J J (.keep (.keep (.keep (.keep (.keep (.keep (.keep (.keep (.keep .nil))))))))) (.same _) ⟨v1,g1,v2,g2,v3,g3,v4,g4,v5,g5,v6,g6,v7,g7,v14,g14,vH,vH1,vH2,vH3,vH4,vH5,vH6,vH13,J,J⟩
  refine Lq (fun hk6=>?_) (fun hk6=>?_)
  ·refine Ag (.tup [(.func (.func 186) [] []),(.bool true)]) J J (Ou (Pt (es:=Ku Ph) R9 Cy J Su hk6 J))<|Ag (.tup [(.func (.func 186) [] []),(.bool true)]) J J Ad<|Ag (.func (.func 186) [] []) J J (Io J)<|Ag (.bool true) J J (Io J)<|Ag (.func (.func 186) [] []) J J Al<|Ag (.bool true) J J Al<|Ct ?_
   refine Y<|O<|Z (.bool true) J Ad<|Aa<|Kp true J<|Y<|O ?_
   refine Ab 2 [] [(26,(.q ids 0 g)),(25,(.func (.func 186) [] []))] ?_
   refine An [0,1,5] hI J J (Wl s0_l s0_end l l4 _ (ix ids 0) (ix ids 1) (ix ids 5) v2 v3 v4 v6 v7 v8 g v1 g1 v5 g5 vH vH4 (by exact hI.sub' J J)) J J J J J J (fun v _=>Ao (K:=9) (N:=0) Tryz.func21 hI) ?_
   rintro r6 _ _ _ ⟨v15,g15,vH14,rfl,rfl⟩
   refine Aw [0,1,5] hI J J J ?_
   refine Ap<|Aa<|Aj ?_
   exact D3 (K:=9) (N:=0) (a:=(r6.1,l,l1,l2,l3,r6.2,l5,l6,l7)) (vs:=[]) [some (.rows g 10 [[(.sl 4 (List.map Ac r6.1)),(.I s0_end),v1,v2,v3,v4,v15,v6,v7,v8]]),Ah v1 g1 2 (List.map As l),Ah v2 g2 5 (List.map A3 l1),Ah v3 g3 3 (List.map Bf l2),Ah v4 g4 5 (List.map A9 l3),Ah v15 g15 7 (List.map Bp r6.2),Ah v6 g6 2 (List.map A6 l5),Ah v7 g7 4 (List.map Bx l6),Ah v8 g8 8 (List.map A7 l7)] Tryz.func21 hI J J J (.keep (.keep (.keep (.keep (.keep (.keep (.keep (.keep (.keep .nil))))))))) (.same _) ⟨v1,g1,v2,g2,v3,g3,v4,g4,v15,g15,v6,g6,v7,g7,v8,g8,vH,vH1,vH2,vH3,vH14,vH5,vH6,vH7,J,J⟩
  refine Lq (fun hk7=>?_) (fun hk7=>?_)
  ·refine Ag (.tup [(.func (.func 172) [] []),(.bool true)]) J J (Ou (Pt (es:=Ku Ph) R9 Cy J Su hk7 J))<|Ag (.tup [(.func (.func 172) [] []),(.bool true)]) J J Ad<|Ag (.func (.func 172) [] []) J J (Io J)<|Ag (.bool true) J J (Io J)<|Ag (.func (.func 172) [] []) J J Al<|Ag (.bool true) J J Al<|Ct ?_
   refine Y<|O<|Z (.bool true) J Ad<|Aa<|Kp true J<|Y<|O ?_
   refine Ab 2 [] [(26,(.q ids 0 g)),(25,(.func (.func 172) [] []))] ?_
   refine An [0,1,2] hI J J (V6 s0_l s0_end l l1 _ (ix ids 0) (ix ids 1) (ix ids 2) v3 v4 v5 v6 v7 v8 g v1 g1 v2 g2 vH vH1 (by exact hI.sub' J J)) J J J J J J (fun v _=>Ao (K:=9) (N:=0) Tryz.func21 hI) ?_
   rintro r7 _ _ _ ⟨v16,g16,vH15,rfl,rfl⟩
   refine Aw [0,1,2] hI J J J ?_
   refine Ap<|Aa<|Aj ?_
   exact D3 (K:=9) (N:=0) (a:=(r7.1,l,r7.2,l2,l3,l4,l5,l6,l7)) (vs:=[]) [some (.rows g 10 [[(.sl 4 (List.map Ac r7.1)),(.I s0_end),v1,v16,v3,v4,v5,v6,v7,v8]]),Ah v1 g1 2 (List.map As l),Ah v16 g16 5 (List.map A3 r7.2),Ah v3 g3 3 (List.map Bf l2),Ah v4 g4 5 (List.map A9 l3),Ah v5 g5 7 (List.map Bp l4),Ah v6 g6 2 (List.map A6 l5),Ah v7 g7 4 (List.map Bx l6),Ah v8 g8 8 (List.map A7 l7)] Tryz.func21 hI J J J (.keep (.keep (.keep (.keep (.keep (.keep (.keep (.keep (.keep .nil))))))))) (.same _) ⟨v1,g1,v16,g16,v3,g3,v4,g4,v5,g5,v6,g6,v7,g7,v8,g8,vH,vH15,vH2,vH3,vH4,vH5,vH6,vH7,J,J⟩
  refine Lq (fun hk8=>?_) (fun hk8=>?_)
  ·refine Ag (.tup [(.func (.func 183) [] []),(.bool true)]) J J (Ou (Pt (es:=Ku Ph) R9 Cy J Su hk8 J))<|Ag (.tup [(.func (.func 183) [] []),(.bool true)]) J J Ad<|Ag (.func (.func 183) [] []) J J (Io J)<|Ag (.bool true) J J (Io J)<|Ag (.func (.func 183) [] []) J J Al<|Ag (.bool true) J J Al<|Ct ?_
   refine Y<|O<|Z (.bool true) J Ad<|Aa<|Kp true J<|Y<|O ?_
   refine Ab 2 [] [(26,(.q ids 0 g)),(25,(.func (.func 183) [] []))] ?_
   refine An [0,1,4] hI J J (V0 s0_l s0_end l l3 _ (ix ids 0) (ix ids 1) (ix ids 4) v2 v3 v5 v6 v7 v8 g v1 g1 v4 g4 vH vH3 (by exact hI.sub' J J)) J J J J J J (fun v _=>Ao (K:=9) (N:=0) Tryz.func21 hI) ?_
   rintro r8 _ _ _ ⟨v17,g17,vH16,rfl,rfl⟩
   refine Aw [0,1,4] hI J J J ?_
   refine Ap<|Aa<|Aj ?_
   exact D3 (K:=9) (N:=0) (a:=(r8.1,l,l1,l2,r8.2,l4,l5,l6,l7)) (vs:=[]) [some (.rows g 10 [[(.sl 4 (List.map Ac r8.1)),(.I s0_end),v1,v2,v3,v17,v5,v6,v7,v8]]),Ah v1 g1 2 (List.map As l),Ah v2 g2 5 (List.map A3 l1),Ah v3 g3 3 (List.map Bf l2),Ah v17 g17 5 (List.map A9 r8.2),Ah v5 g5 7 (List.map Bp l4),Ah v6 g6 2 (List.map A6 l5),Ah v7 g7 4 (List.map Bx l6),Ah v8 g8 8 (List.map A7 l7)] Tryz.func21 hI J J J (.keep (.keep (.keep (.keep (.keep (.keep (.keep (.keep (.keep .nil))))))))) (.same _) ⟨v1,g1,v2,g2,v3,g3,v17,g17,v5,g5,v6,g6,v7,g7,v8,g8,vH,vH1,vH2,vH16,vH4,vH5,vH6,vH7,J,J⟩
  refine Lq (fun hk9=>?_) (fun hk9=>?_)
  ·refine Ag (.tup [(.func (.func 168) [] []),(.bool true)]) J J (Ou (Pt (es:=Ku Ph) R9 Cy J Su hk9 J))<|Ag (.tup [(.func (.func 168) [] []),(.bool true)]) J J Ad<|Ag (.func (.func 168) [] []) J J (Io J)<|Ag (.bool true) J J (Io J)<|Ag (.func (.func 168) [] []) J J Al<|Ag (.bool true) J J Al<|Ct ?_
   refine Y<|O<|Z (.bool true) J Ad<|Aa<|Kp true J<|Y<|O ?_
   refine Ab 2 [] [(26,(.q ids 0 g)),(25,(.func (.func 168) [] []))] ?_
   refine An [0,1] hI J J (V9 s0_l s0_end l _ (ix ids 0) (ix ids 1) v2 v3 v4 v5 v6 v7 v8 g v1 g1 vH (by exact hI.sub' J J)) J J J J J J (fun v _=>Ao (K:=9) (N:=0) Tryz.func21 hI) ?_
   rintro r9 _ _ _ ⟨v18,g18,vH17,rfl,rfl⟩
   refine Aw [0,1] hI J J J ?_
   refine Ap<|Aa<|Aj ?_
   exact D3 (K:=9) (N:=0) (a:=(r9.1,r9.2,l1,l2,l3,l4,l5,l6,l7)) (vs:=[]) [some (.rows g 10 [[(.sl 4 (List.map Ac r9.1)),(.I s0_end),v18,v2,v3,v4,v5,v6,v7,v8]]),Ah v18 g18 2 (List.map As r9.2),Ah v2 g2 5 (List.map A3 l1),Ah v3 g3 3 (List.map Bf l2),Ah v4 g4 5 (List.map A9 l3),Ah v5 g5 7 (List.map Bp l4),Ah v6 g6 2 (List.map A6 l5),Ah v7 g7 4 (List.map Bx l6),Ah v8 g8 8 (List.map A7 l7)] Tryz.func21 hI J J J (.keep (.keep (.keep (.keep (.keep (.keep (.keep (.keep (.keep .nil))))))))) (.same _) ⟨v18,g18,v2,g2,v3,g3,v4,g4,v5,g5,v6,g6,v7,g7,v8,g8,vH17,vH1,vH2,vH3,vH4,vH5,vH6,vH7,J,J⟩
  refine Lq (fun hk10=>?_) (fun hk10=>?_)
  ·refine Ag (.tup [(.func (.func 203) [] []),(.bool true)]) J J (Ou (Pt (es:=Ku Ph) R9 Cy J Su hk10 J))<|Ag (.tup [(.func (.func 203) [] []),(.bool true)]) J J Ad<|Ag (.func (.func 203) [] []) J J (Io J)<|Ag (.bool true) J J (Io J)<|Ag (.func (.func 203) [] []) J J Al<|Ag (.bool true) J J Al<|Ct ?_
   refine Y<|O<|Z (.bool true) J Ad<|Aa<|Kp true J<|Y<|O ?_
   refine Ab 2 [] [(26,(.q ids 0 g)),(25,(.func (.func 203) [] []))] ?_
   refine An [0,8] hI J J (Vn s0_l s0_end l7 _ (ix ids 0) (ix ids 8) v1 v2 v3 v4 v5 v6 v7 g v8 g8 vH7 (by exact hI.sub' J J)) J J J J J J (fun v _=>Ao (K:=9) (N:=0) Tryz.func21 hI) ?_
   rintro r10 _ _ _ ⟨v19,g19,vH18,rfl,rfl⟩
   refine Aw [0,8] hI J J J ?_
   refine Ap<|Aa<|Aj ?_
   exact D3 (K:=9) (N:=0) (a:=(((((s0_l.drop 1).drop 1).drop 1).drop 1),l,l1,l2,l3,l4,l5,l6,r10)) (vs:=[]) [some (.rows g 10 [[(.sl 4 (List.map Ac ((((s0_l.drop 1).drop 1).drop 1).drop 1))),(.I s0_end),v1,v2,v3,v4,v5,v6,v7,v19]]),Ah v1 g1 2 (List.map As l),Ah v2 g2 5 (List.map A3 l1),Ah v3 g3 3 (List.map Bf l2),Ah v4 g4 5 (List.map A9 l3),Ah v5 g5 7 (List.map Bp l4),Ah v6 g6 2 (List.map A6 l5),Ah v7 g7 4 (List.map Bx l6),Ah v19 g19 8 (List.map A7 r10)] Tryz.func21 hI J J J (.keep (.keep (.keep (.keep (.keep (.keep (.keep (.keep (.keep .nil))))))))) (.same _) ⟨v1,g1,v2,g2,v3,g3,v4,g4,v5,g5,v6,g6,v7,g7,v19,g19,vH,vH1,vH2,vH3,vH4,vH5,vH6,vH18,J,J⟩
  refine Ag (.tup [.nilf,(.bool false)]) J J (Ou (Ao5 (es:=Ku Ph) R9 Cy J Su J (T5 hk (T5 hk1 (T5 hk2 (T5 hk3 (T5 hk4 (T5 hk5 (T5 hk6 (T5 hk7 (T5 hk8 (T5 hk9 (T5 hk10 J)))))))))))))<|Ag (.tup [.nilf,(.bool false)]) J J Ad<|Ag .nilf J J (Io J)<|Ag (.bool false) J J (Io J)<|Ag .nilf J J Al<|Ag (.bool false) J J Al<|Ct ?_
  refine Y<|O<|Z (.bool false) J Ad<|Aa<|Kp false J<|Az<|Bo (hJ () _ _ ⟨J,J⟩)
 refine Az<|Bo (hJ () _ _ ⟨J,J⟩)
theorem Abb (a0:AV)(a1:AV)(a2:AV)(h:Ae):Pq Tryz.prog 20 [a0,a1,a2] .ret h (Abj (fun _:Unit=>h) .ret (.ok ())):=by
 refine Adm (n:=22) Tryz.func20 J (by decide) J J ?_ ⟨(),J⟩
 refine Y<|O<|Aj0 J<|Z .nili J Al<|Aa<|Y<|O ?_
 refine Z .nili J Ad<|Z (.bool false) J (Ba J J (Afl Ald))<|Aa<|Kp false J<|Az<|Acp Tryz.func20 J J J
theorem Ya (n:Int)(n2:Int)(h0:Ae)(ids:List Nat)(hI:Ids h0 ids 3)(g0_:Nat)(g1_:Nat)(g2_:Nat)(r0_:List AV)(r1_:List AV)(r2_:List AV)(hr0_:r0_.length=8)(hr1_:r1_.length=1)(hr2_:r2_.length=1):(∃ a,G1 n n2=.ok a)→Pq Tryz.prog 20 [(.ptr (ix ids 0) g0_ 0 0),(.ptr (ix ids 1) g1_ 0 0),(.ptr (ix ids 2) g2_ 0 0)] (.pan (.iface 64 (.agg [.int .i64 n,.int .i64 n2])) false) (hp h0 ids [some (.rows g0_ 8 [r0_]),some (.rows g1_ 1 [r1_]),some (.rows g2_ 1 [r2_])]) (Abj (fun p=>hp h0 ids [some (.rows g0_ 8 [[.emp,.emp,.emp,.emp,.emp,.emp,.emp,.emp]]),some (.rows g1_ 1 [[(.int .i64 p.1)]]),some (.rows g2_ 1 [[(.int .i64 p.2)]])]) (.pan (.iface 64 (.agg [.int .i64 n,.int .i64 n2])) true) (G1 n n2)):=by
 have hI0_:=hI
 clear hI
 refine Am1 (n:=22) (ysf:=fun(p:(Int×Int))=>[some (.rows g0_ 8 [[.emp,.emp,.emp,.emp,.emp,.emp,.emp,.emp]]),some (.rows g1_ 1 [[(.I p.1)]]),some (.rows g2_ 1 [[(.I p.2)]])]) 1 Tryz.func20 J (by decide) J J hI0_ J (fun _=>J) fun ids2 he hI=>?_
 rw [← he 0 rfl,← he 1 rfl,← he 2 rfl]
 clear he hI0_
 revert hI
 generalize ids2=ids
 intro hI
 refine Bm (Ak (G1.eq_1 _ _) ?_)
 refine Aj ?_
 refine Y<|O<|Akv J<|Z (.iface 64 (.agg [(.I n),(.I n2)])) J Al<|Aa<|Y<|O ?_
 refine Z (.iface 64 (.agg [(.I n),(.I n2)])) J Ad<|Z (.bool true) J (Ba J J (Ado Ald))<|Aa<|Kp true J<|Y<|O<|Z (.iface 64 (.agg [(.I n),(.I n2)])) J Ad ?_
 refine Z (.tup [(.agg [(.I n),(.I n2)]),(.bool true)]) J (Ale (Ast Abf (by decide)))<|Ab 3 [] [(13,(.bool true)),(12,(.agg [(.I n),(.I n2)]))] ?_
 refine Bc (j:=3) hI J J J J Abf J fun g=>Aq (Ax (v:=(.agg [(.I n),(.I n2)])) hI J J J J Abf J J J J J)<|Z (.bool true) J Al<|Aa<|Aj ?_
 refine Y<|Y<|O<|Ab 2 [] [(15,(.bool false))] ?_
 refine Aa<|Kp false J<|Az<|Di Gg [[],[],[1],[],[3],[0,0],[0,1,2,2,5,5],[0,1,2,3,4,4,5,6,6]] [(false,0),(false,1),(false,2),(false,3),(false,4),(true,5),(true,6),(true,7)] (by kernel_rfl)<|Ag (.agg [.emp,.emp,.emp,.emp,.emp,.emp,.emp,.emp]) J J (Mf (R1 Ec Alp J))<|Ag (.q ids 3 g) J J (B9 (By (c:=0) (off:=0) (i:=0) Abf J Ds J))<|Ag (.I n) J J (Au (Be hI J J J Ds J)) ?_
 refine Ag (.ptr (ix ids 3) g 0 1) J J (B9 (By (c:=0) (off:=1) (i:=1) Abf J N1 J))<|Ag (.I n2) J J (Au (Be hI J J J N1 J))<|Gr J (fun _ _=>J) (fun K hK=>D4 (W9 (v:=(.agg [.emp,.emp,.emp,.emp,.emp,.emp,.emp,.emp])) hI J J J Ec J J J hr0_ J) (hK _ _ (Br J (Au (Be hI J J J N1 J)) (Br J (B9 (By (c:=0) (off:=1) (i:=1) Abf J N1 J)) (Br J (Au (Be hI J J J Ds J)) (Br J (B9 (By (c:=0) (off:=0) (i:=0) Abf J Ds J)) (Af J Bw))))) ?_))
 clear hK K
 refine Gr J (fun _ _=>J) (fun K hK=>D4 (W9 (v:=(.I n)) hI J J J Ds J J J hr1_ J) (hK _ _ (Br J (Au (Be hI J J J N1 J)) (Br J (B9 (By (c:=0) (off:=1) (i:=1) Abf J N1 J)) (Af J (Af J (Af J Bw))))) ?_))
 clear hK K
 refine Gr J (fun _ _=>J) (fun K hK=>D4 (W9 (v:=(.I n2)) hI J J J N1 J J J hr2_ J) (hK _ _ (Af J (Af J (Af J (Af J (Af J Bw))))) ?_))
 clear hK K
 refine Ct<|Aj ?_
 refine Eh [(some (.rows g0_ 8 [[.emp,.emp,.emp,.emp,.emp,.emp,.emp,.emp]])),(some (.rows g1_ 1 [[(.I n)]])),(some (.rows g2_ 1 [[(.I n2)]])),none] hI J (.keep (.keep (.keep (.drop .nil))))<|Acp (a:=(n,n2)) Tryz.func20 J J J
theorem K9 (src:Ar):CP Tryz.prog 10 [(.str src)] (I1 src) (fun(p:(Airspace×Int×Int))=>AV.tup [(.agg (Av p.1)),(.int .i64 p.2.1),(.int .i64 p.2.2)]):=by
 show CP _ _ _ ((R3 src).catch' (O2 64 .i64 .i64 (fun n n2=>(G1 n n2).bind fun p=>.ok (({ Volumes:=[],Sectors:=[],Configs:=[],Segments:=[],Routes:=[],Airports:=[],Classes:=[],Rules:=[] }:Airspace),p.1,p.2)) (fun _=>.bad))) _
 refine Af4 (n:=36) 12 Tryz.func10 J (by decide) J J fun h0 ids hI=>?_
 have hU : ∀ (v:PV) (fr:Nat→AV) (xs:List (Option AO)) (g0_:Nat) (r0_:List AV) (g1_:Nat) (r1_:List AV) (g2_:Nat) (r2_:List AV) (hl_:xs.length=12) (hr0_:r0_.length=8) (hr1_:r1_.length=1) (hr2_:r2_.length=1) (hy_:xs.take 3=[some (.rows g0_ 8 [r0_]),some (.rows g1_ 1 [r1_]),some (.rows g2_ 1 [r2_])]) (hq2_:fr 2=.q ids 0 g0_) (hq3_:fr 3=.q ids 1 g1_) (hq4_:fr 4=.q ids 2 g2_),WU Tryz.prog 10 36 false (Q4 (fun(p:(Airspace×Int×Int))=>AV.tup [(.agg (Av p.1)),(.I p.2.1),(.I p.2.2)]) h0 (O2 64 .i64 .i64 (fun n n2=>(G1 n n2).bind fun p=>.ok (({ Volumes:=[],Sectors:=[],Configs:=[],Segments:=[],Routes:=[],Airports:=[],Classes:=[],Rules:=[] }:Airspace),p.1,p.2)) (fun _=>.bad))) (.pan v) (.pan v.av false) fr [⟨20,[.q ids 0 g0_,.q ids 1 g1_,.q ids 2 g2_]⟩] (hp h0 ids xs) .ret:=by
  intro v fr xs g0_ r0_ g1_ r1_ g2_ r2_ hl_ hr0_ hr1_ hr2_ hy_ hq2_ hq3_ hq4_
  refine Au9 (t:=64) (k1:=.i64) (k2:=.i64) J (fun n n2 hv=>?_) (fun hne64=>?_)
  ·subst hv
   exact Ahc (Hc:=G1 n n2) (fin:=fun p=>(({ Volumes:=[],Sectors:=[],Configs:=[],Segments:=[],Routes:=[],Airports:=[],Classes:=[],Rules:=[] }:Airspace),p.1,p.2)) (c:=3) (cells:=fun p=>[some (.rows g0_ 8 [[.emp,.emp,.emp,.emp,.emp,.emp,.emp,.emp]]),some (.rows g1_ 1 [[(.I p.1)]]),some (.rows g2_ 1 [[(.I p.2)]])]) (vs:=fun p=>[(.agg [.emp,.emp,.emp,.emp,.emp,.emp,.emp,.emp]),(.I p.1),(.I p.2)]) Tryz.func10 hI hl_ J hy_ (by first | (rw [Af2]; done) | (rw [Af2]; rfl)) (fun hx=>by have:=Ya n n2 h0 (ids.take 3) (hI.take J) g0_ g1_ g2_ r0_ r1_ r2_ hr0_ hr1_ hr2_ hx; simp only [Ow (c:=3) (j:=0) J,Ow (c:=3) (j:=1) J,Ow (c:=3) (j:=2) J] at this; exact this) (by intro w; simp [G1]) (fun p=>(Sd hq2_ (Xa (hI.take J) (Ow J) J J J Ec J) (Sd hq3_ (Xa (hI.take J) (Ow J) J J J Ds J) (Sd hq4_ (Xa (hI.take J) (Ow J) J J J N1 J) Fi)))) (fun p=>(.tupL (.cons (.aggL (.cons (.emp _) (.cons (.emp _) (.cons (.emp _) (.cons (.emp _) (.cons (.emp _) (.cons (.emp _) (.cons (.emp _) (.cons (.emp _) .nil))))))))) (.cons (.same _) (.cons (.same _) .nil)))))
  exact Ap0 (by rw [Ama hne64])
 refine Bm (Ak (R3.eq_1 _) ?_)
 refine Y<|O<|Bc (j:=0) hI J J J J Ec J fun g=>Bc (j:=1) hI J J J J Ds J fun g1=>Bc (j:=2) hI J J J J N1 J fun g2=>Aa<|Aj ?_
 refine Y<|O<|Z (.str src) J Ad<|Aus fun hne=>Bz [(.str src)] J J J J ((Ak4 src) _) (fun v hv=>absurd hv (hne v)) fun r _=>Ab 5 [] [(5,(.sl 4 (List.map Ac r.1))),(12,(.I r.2.2)),(11,(.I r.2.1))] ?_
 refine Aq (Ax (v:=(.I r.2.1)) hI J J J J Ds J J J J J)<|Aq (Ax (v:=(.I r.2.2)) hI J J J J N1 J J J J J)<|Aa<|Aj ?_
 refine Y<|Y<|O<|Ab 2 [2] [(14,(.bool (r.2.2 != 0)))] ?_
 refine Aa<|Cd J (fun hc=>?_) (fun hc=>?_)
 ·refine Y<|Di Gg [[],[],[],[0,0],[0,1,1,3,3],[0,1,2,2,3,4,4]] [(false,0),(false,1),(false,2),(true,3),(true,4),(true,5)] (by kernel_rfl)<|Ag (.agg [.emp,.emp,.emp,.emp,.emp,.emp,.emp,.emp]) J J (Au (Be hI J J J Ec J))<|Ag (.I r.2.1) J J (Au (Be hI J J J Ds J))<|Ag (.I r.2.2) J J (Au (Be hI J J J N1 J))<|Gr J (fun _ _=>J) (fun K hK=>D4 (Ax (v:=(.agg [.emp,.emp,.emp,.emp,.emp,.emp,.emp,.emp])) hI J J J J Ec J J J J J) (hK _ _ (Br J (Au (Be hI J J J N1 J)) (Br J (Au (Be hI J J J Ds J)) (Af J Bw))) ?_))
  clear hK K
  refine Gr J (fun _ _=>J) (fun K hK=>D4 (Ax (v:=(.I r.2.1)) hI J J J J Ds J J J J J) (hK _ _ (Br J (Au (Be hI J J J N1 J)) (Af J (Af J Bw))) ?_))
  clear hK K
  refine Gr J (fun _ _=>J) (fun K hK=>D4 (Ax (v:=(.I r.2.2)) hI J J J J N1 J J J J J) (hK _ _ (Af J (Af J (Af J Bw))) ?_))
  clear hK K
  refine Ct<|Aiq (a:=(({ Volumes:=[],Sectors:=[],Configs:=[],Segments:=[],Routes:=[],Airports:=[],Classes:=[],Rules:=[] }:Airspace),r.2.1,r.2.2)) (vs:=[(.agg [.emp,.emp,.emp,.emp,.emp,.emp,.emp,.emp]),(.I r.2.1),(.I r.2.2)]) Tryz.func10 hI (Dt (Be hI J J J Ec J) (Dt (Be hI J J J Ds J) (Dt (Be hI J J J N1 J) Fi))) (.tupL (.cons (.aggL (.cons (.emp _) (.cons (.emp _) (.cons (.emp _) (.cons (.emp _) (.cons (.emp _) (.cons (.emp _) (.cons (.emp _) (.cons (.emp _) .nil))))))))) (.cons (.same _) (.cons (.same _) .nil))))
 refine Az<|Y<|O<|Z (.func (.func 20) [] [(.q ids 0 g),(.q ids 1 g1),(.q ids 2 g2)]) J R0<|Aik J J J ?_
 refine Aa<|Y<|O<|Ab 2 [] [(20,(.str src)),(19,(.sl 4 (List.map Ac r.1)))] ?_
 refine Z (.I (src.length:Int)) J (A0 (Md Cy))<|Z (.agg [(.sl 4 (List.map Ac r.1)),(.I (src.length:Int)),.emp,.emp,.emp,.emp,.emp,.emp,.emp,.emp]) J (Mf (R1 Z8 Av0 J))<|Cv (v:=(.agg [(.sl 4 (List.map Ac r.1)),(.I (src.length:Int)),.emp,.emp,.emp,.emp,.emp,.emp,.emp,.emp])) (j:=3) hI J J J J J J J fun g3=>Z (.q ids 3 g3) J Al<|Aa<|Aj ?_
 refine Y<|Ed (un9 fun fL3 l8 l9 l10 l11 l12 l13 l14 l15=>Q6 fL3 l8 l9 l10 l11 l12 l13 l14 l15) (un9 fun fL3 l8 l9 l10 l11 l12 l13 l14 l15=>fun(fr:Nat→AV) (h:Ae) => ∃ (v16:AV),∃ (g20:Nat),∃ (v17:AV),∃ (g21:Nat),∃ (v18:AV),∃ (g22:Nat),∃ (v19:AV),∃ (g23:Nat),∃ (v20:AV),∃ (g24:Nat),∃ (v21:AV),∃ (g25:Nat),∃ (v22:AV),∃ (g26:Nat),∃ (v23:AV),∃ (g27:Nat),Ay v16 (ix ids 4) g20 l8.length∧Ay v17 (ix ids 5) g21 l9.length∧Ay v18 (ix ids 6) g22 l10.length∧Ay v19 (ix ids 7) g23 l11.length∧Ay v20 (ix ids 8) g24 l12.length∧Ay v21 (ix ids 9) g25 l13.length∧Ay v22 (ix ids 10) g26 l14.length∧Ay v23 (ix ids 11) g27 l15.length∧fr=A2 [(2,(.q ids 0 g)),(3,(.q ids 1 g1)),(4,(.q ids 2 g2)),(6,(.q ids 3 g3))]∧h=hp h0 ids [(some (.rows g 8 [[.emp,.emp,.emp,.emp,.emp,.emp,.emp,.emp]])),(some (.rows g1 1 [[(.I r.2.1)]])),(some (.rows g2 1 [[(.I r.2.2)]])),(some (.rows g3 10 [[(.sl 4 (List.map Ac fL3)),(.I (src.length:Int)),v23,v21,v18,v22,v20,v16,v17,v19]])),(Ah v16 g20 2 (List.map A6 l8)),(Ah v17 g21 4 (List.map Bx l9)),(Ah v18 g22 3 (List.map Bf l10)),(Ah v19 g23 8 (List.map A7 l11)),(Ah v20 g24 7 (List.map Bp l12)),(Ah v21 g25 5 (List.map A3 l13)),(Ah v22 g26 5 (List.map A9 l14)),(Ah v23 g27 2 (List.map As l15))]) ?_ fun hJ=>?_
 ·rintro⟨fL3,l8,l9,l10,l11,l12,l13,l14,l15⟩ fr h ⟨v16,g20,v17,g21,v18,g22,v19,g23,v20,g24,v21,g25,v22,g26,v23,g27,vH16,vH17,vH18,vH19,vH20,vH21,vH22,vH23,rfl,rfl⟩
  refine Ak (Q6.eq_1 _ _ _ _ _ _ _ _ _)<|Y<|O<|Ab 4 [3] [(35,(.agg [v23,v21,v18,v22,v20,v16,v17,v19]))] ?_
  refine Aq (Ax (v:=(.agg [v23,v21,v18,v22,v20,v16,v17,v19])) hI J J J J Ec J J J J (Cz (Ay.flat vH23) (Cz (Ay.flat vH21) (Cz (Ay.flat vH18) (Cz (Ay.flat vH22) (Cz (Ay.flat vH20) (Cz (Ay.flat vH16) (Cz (Ay.flat vH17) (Cz (Ay.flat vH19) Xu)))))))))<|Aq (Ax (v:=(.I 0)) hI J J J J Ds J J J J J)<|Aq (Ax (v:=(.I 0)) hI J J J J N1 J J J J J)<|Aa<|Aj ?_
  exact Akn (a:=(({ Volumes:=l15,Sectors:=l13,Configs:=l10,Segments:=l14,Routes:=l12,Airports:=l8,Classes:=l9,Rules:=l11 }:Airspace),0,0)) (vs:=[(.agg [v23,v21,v18,v22,v20,v16,v17,v19]),(.I 0),(.I 0)]) Tryz.func10 hI (Abb _ _ _ _) (Dt (Be hI J J J Ec J) (Dt (Be hI J J J Ds J) (Dt (Be hI J J J N1 J) Fi))) (.tupL (.cons (.aggL (.cons (Fo vH23 (hI.at J J) (hI.out J) (fun x=>Ye x)) (.cons (Fo vH21 (hI.at J J) (hI.out J) (fun x=>Rn x)) (.cons (Fo vH18 (hI.at J J) (hI.out J) (fun x=>Vg x)) (.cons (Fo vH22 (hI.at J J) (hI.out J) (fun x=>Tz x)) (.cons (Fo vH20 (hI.at J J) (hI.out J) (fun x=>Xm x)) (.cons (Fo vH16 (hI.at J J) (hI.out J) (fun x=>Ww x)) (.cons (Fo vH17 (hI.at J J) (hI.out J) (fun x=>Ade x)) (.cons (Fo vH19 (hI.at J J) (hI.out J) (fun x=>Se x)) .nil))))))))) (.cons (.same _) (.cons (.same _) .nil))))
 refine A8<|Ee [(2,(.q ids 0 g)),(3,(.q ids 1 g1)),(4,(.q ids 2 g2)),(6,(.q ids 3 g3))] (FI J)<|Uk (P:=Tryz.prog) (un9 fun fL l l1 l2 l3 l4 l5 l6 l7=>J9 src fL l l1 l2 l3 l4 l5 l6 l7) ((un9 fun fL3 l8 l9 l10 l11 l12 l13 l14 l15=>Q6 fL3 l8 l9 l10 l11 l12 l13 l14 l15):((List Token)×(List Airport)×(List Class)×(List Config)×(List Rule)×(List Route)×(List Sector)×(List Segment)×(List Volume))→R (Airspace×Int×Int)) (un9 fun fL l l1 l2 l3 l4 l5 l6 l7=>fun(fr:Nat→AV) (h:Ae) => ∃ (v:AV),∃ (g4:Nat),∃ (v1:AV),∃ (g5:Nat),∃ (v2:AV),∃ (g6:Nat),∃ (v3:AV),∃ (g7:Nat),∃ (v4:AV),∃ (g8:Nat),∃ (v5:AV),∃ (g9:Nat),∃ (v6:AV),∃ (g10:Nat),∃ (v7:AV),∃ (g11:Nat),Ay v (ix ids 4) g4 l.length∧Ay v1 (ix ids 5) g5 l1.length∧Ay v2 (ix ids 6) g6 l2.length∧Ay v3 (ix ids 7) g7 l3.length∧Ay v4 (ix ids 8) g8 l4.length∧Ay v5 (ix ids 9) g9 l5.length∧Ay v6 (ix ids 10) g10 l6.length∧Ay v7 (ix ids 11) g11 l7.length∧fr=A2 [(2,(.q ids 0 g)),(3,(.q ids 1 g1)),(4,(.q ids 2 g2)),(6,(.q ids 3 g3))]∧h=hp h0 ids [(some (.rows g 8 [[.emp,.emp,.emp,.emp,.emp,.emp,.emp,.emp]])),(some (.rows g1 1 [[(.I r.2.1)]])),(some (.rows g2 1 [[(.I r.2.2)]])),(some (.rows g3 10 [[(.sl 4 (List.map Ac fL)),(.I (src.length:Int)),v7,v5,v2,v6,v4,v,v1,v3]])),(Ah v g4 2 (List.map A6 l)),(Ah v1 g5 4 (List.map Bx l1)),(Ah v2 g6 3 (List.map Bf l2)),(Ah v3 g7 8 (List.map A7 l3)),(Ah v4 g8 7 (List.map Bp l4)),(Ah v5 g9 5 (List.map A3 l5)),(Ah v6 g10 5 (List.map A9 l6)),(Ah v7 g11 2 (List.map As l7))]) (r.1,[],[],[],[],[],[],[],[]) ?_ ?_
 ·exact⟨.emp,0,.emp,0,.emp,0,.emp,0,.emp,0,.emp,0,.emp,0,.emp,0,.nil,.nil,.nil,.nil,.nil,.nil,.nil,.nil,J,J⟩
 rintro vW hW ⟨fL,l,l1,l2,l3,l4,l5,l6,l7⟩ fr h ⟨v,g4,v1,g5,v2,g6,v3,g7,v4,g8,v5,g9,v6,g10,v7,g11,vH,vH1,vH2,vH3,vH4,vH5,vH6,vH7,rfl,rfl⟩
 refine Ak (m':=J9 src fL l l1 l2 l3 l4 l5 l6 l7) J (Ak (J9.eq_1 _ _ _ _ _ _ _ _ _ _) ?_)
 refine Y<|Y<|O<|Ab 4 [3] [(27,(.sl 4 (List.map Ac fL)))] ?_
 refine Z (.I (fL.length:Int)) J (A0 (Bd Cx))<|Z (.bool (decide ((fL.length:Int) > 0))) J (Ba J J J)<|Aa<|Qv J (fun hc1=>?_) (fun hc1=>?_)
 ·refine Az<|A8<|O<|Z (.q ids 3 g3) J Ad<|An [3,11,9,6,10,8,4,5,7] hI J J (T0 fL (src.length:Int) l7 l5 l2 l6 l4 l l1 l3 _ (ix ids 3) (ix ids 11) (ix ids 9) (ix ids 6) (ix ids 10) (ix ids 8) (ix ids 4) (ix ids 5) (ix ids 7) g3 v7 g11 v5 g9 v2 g6 v6 g10 v4 g8 v g4 v1 g5 v3 g7 vH7 vH5 vH2 vH6 vH4 vH vH1 vH3 (by exact hI.sub' J J)) J J J J J J (fun v _=>hU v _ _ _ _ _ _ _ _ J J J J J J J J) ?_
  rintro r1 _ _ _ ⟨v8,g12,v9,g13,v10,g14,v11,g15,v12,g16,v13,g17,v14,g18,v15,g19,vH8,vH9,vH10,vH11,vH12,vH13,vH14,vH15,rfl,rfl⟩
  refine Aw [3,11,9,6,10,8,4,5,7] hI J J J ?_
  refine Ap<|Aa<|Aj ?_
  refine Bn<|Bo (Po (hW (r1.1,r1.2.2.2.2.2.2.1,r1.2.2.2.2.2.2.2.1,r1.2.2.2.1,r1.2.2.2.2.2.2.2.2,r1.2.2.2.2.2.1,r1.2.2.1,r1.2.2.2.2.1,r1.2.1) _ _ ⟨v13,g17,v14,g18,v10,g14,v15,g19,v12,g16,v9,g13,v11,g15,v8,g12,vH13,vH14,vH10,vH15,vH12,vH9,vH11,vH8,J,J⟩))
 refine C7 J<|Xd<|Bo (hJ (fL,l,l1,l2,l3,l4,l5,l6,l7) _ _ ⟨v,g4,v1,g5,v2,g6,v3,g7,v4,g8,v5,g9,v6,g10,v7,g11,vH,vH1,vH2,vH3,vH4,vH5,vH6,vH7,J,J⟩)
theorem Mr (ok:Bool)(t:Token)(s0_bad:Bool)(l:List Token)(h0:Ae)(o0:Nat)(o1:Nat)(g:Nat)(v1:AV)(g1:Nat)(vH:Ay v1 o1 g1 l.length)(hI0:Ids h0 [o0,o1] 2):F9 ok t s0_bad l≠.bad→Bh Tryz.prog 99 [(.ptr o0 g 0 0),(.bool ok),(.agg (Ac t))] (hp h0 [o0,o1] [some (.rows g 2 [[v1,(.bool s0_bad)]]),Ah v1 g1 4 (List.map Ac l)]) (Cs (fun a_ v h' => ∃ (v3:AV),∃ (g4:Nat),Ay v3 o1 g4 a_.length∧v=(.tup [])∧h'=hp h0 [o0,o1] [some (.rows g 2 [[v3,(.bool (s0_bad||(!ok)))]]),Ah v3 g4 4 (List.map Ac a_)]) h0 (F9 ok t s0_bad l)):=by
 refine Bb (n:=27) 1 Tryz.func99 J (by decide) J J hI0 J fun ids he hI=>?_
 clear hI0
 obtain rfl:ix ids 0=o0:=he 0 rfl
 obtain rfl:ix ids 1=o1:=he 1 rfl
 clear he
 refine Bm (Ak (F9.eq_1 _ _ _ _) ?_)
 refine Aj ?_
 refine Y<|O<|Cv (v:=(.agg (Ac t))) (j:=2) hI J J J J J J J fun g2=>Aa<|Aj ?_
 refine Y<|O<|Ab 6 [0] [(11,(.bool s0_bad)),(6,(.q ids 0 g))] ?_
 refine B8 3 [(0,(.q ids 0 g)),(5,(.q ids 2 g2)),(6,(.q ids 0 g)),(14,(.bool (s0_bad||(!ok))))] ?_ fun hJ=>Bu s0_bad (fun hb1=>?_) (fun hb1=>?_)
 ·refine Ab 2 [] [(16,(.ptr (ix ids 0) g 0 1))] ?_
  refine Aq (Ax (v:=(.bool (s0_bad||(!ok)))) hI J J J J Qw J J J J J)<|Aa<|Aj ?_
  refine Di Gg [[],[],[1],[1,2],[1,2,3],[],[5],[1,2,3,4,5,6],[0,0,1,2,3,4,5,6,7],[0,1,2,3,4,5,6,7,8],[0,1,2,3,4,5,6,7,8,9]] [(false,0),(false,1),(false,2),(false,3),(false,4),(false,5),(true,6),(true,7),(false,8),(false,9),(true,10)] (by kernel_rfl)<|Ag (.q ids 0 g) J J Ad<|Ag (.q ids 0 g) J J Ad<|Ag (.q ids 0 g) J J (Bg J)<|Ag (.q ids 0 g) J J (B9 (By (c:=0) (off:=0) (i:=0) Y4 J Cx J))<|Ag v1 J J (Au (Be hI J J J Cx J))<|Ag (.agg (Ac t)) J J (Au (Be hI J J J Dc J)) ?_
  refine Jh J J (fun _ _=>J) (fun K hK=>Mc (e:=Ac) (L:=[t]) (st:=4) (rows:=[[(.I t.Kind),(.str t.Text),(.I t.N),(.I t.At)]]) Cx Dc J J J J J (.cons (RowSim.refl _) .nil) (fun x=>Qe x) J J (hK _ _ (Af J (Br J (Au (Be hI J J J Cx J)) (Br J (B9 (By (c:=0) (off:=0) (i:=0) Y4 J Cx J)) (Br J (Bg J) (Br J Ad (Br J Ad Bw)))))) ?_))
  clear hK K
  refine Kt fun hl=>Jh J J (fun _ _=>J) (fun K hK=>Iq (e:=Ac) (L:=l) (L2:=[t]) (v:=v1) (g:=g1) (st:=4) (j:=1) hI J J J vH J (Ke J) Cx Cx J Dc J J J hl fun v2 g3 vH1=>hK _ _ (Af J (Af J (Af J (Af J (Af J (Br J Ad Bw)))))) ?_)
  clear hK K
  refine Ag (.q ids 0 g) J J (Bg J)<|Ag (.q ids 0 g) J J (B9 (By (c:=0) (off:=0) (i:=0) Y4 J Cx J))<|Gr J (fun _ _=>J) (fun K hK=>D4 (Jj vH1 hI J J J J Cx J J J) (hK _ _ (Af J (Af J (Af J (Af J (Af J (Af J (Af J (Af J Bw)))))))) ?_))
  clear hK K
  refine Ct<|Aj ?_
  exact Ce (K:=2) (N:=1) (a:=(l++[t])) (vs:=[]) [some (.rows g 2 [[v2,(.bool (s0_bad||(!ok)))]]),Ah v2 g3 4 (List.map Ac (l++[t]))] Tryz.func99 hI J J J (.keep (.keep (.drop .nil))) (.same _) ⟨v2,g3,vH1,J,J⟩
 ·refine A4 (t:=11) hb1 J<|Ab 3 [] [(14,(.bool true))] ?_
  exact Bk hJ (.cons J (.cons J (.cons J (.cons (Fu hb1) .nil))))
 refine A4 (t:=11) hb1 J<|Ab 3 [] [(14,(.bool (!ok)))] ?_
 exact Bk hJ (.cons J (.cons J (.cons J (.cons (Fw hb1) .nil))))
theorem C6 (s:Ar)(s0_bad:Bool)(l:List Token)(h0:Ae)(o0:Nat)(o1:Nat)(g:Nat)(v1:AV)(g1:Nat)(vH:Ay v1 o1 g1 l.length)(hI0:Ids h0 [o0,o1] 2):Cm s s0_bad l≠.bad→Bh Tryz.prog 30 [(.ptr o0 g 0 0),(.str s)] (hp h0 [o0,o1] [some (.rows g 2 [[v1,(.bool s0_bad)]]),Ah v1 g1 4 (List.map Ac l)]) (Cs (fun a_ v h' => ∃ (v3:AV),∃ (g3:Nat),Ay v3 o1 g3 a_.2.length∧v=(.tup [])∧h'=hp h0 [o0,o1] [some (.rows g 2 [[v3,(.bool a_.1)]]),Ah v3 g3 4 (List.map Ac a_.2)]) h0 (Cm s s0_bad l)):=by
 refine Bb (n:=10) 0 Tryz.func30 J (by decide) J J hI0 J fun ids he hI=>?_
 clear hI0
 obtain rfl:ix ids 0=o0:=he 0 rfl
 obtain rfl:ix ids 1=o1:=he 1 rfl
 clear he
 refine Bm (Ak (Cm.eq_1 _ _ _) ?_)
 refine O<|Ab 2 [] [(5,(.str s)),(4,(.q ids 0 g))] ?_
 refine Bz [(.str s)] J J J J ((Ac1 s) _) (fun v _=>Ao (K:=2) (N:=0) Tryz.func30 hI) fun r _=>Ab 2 [] [(8,(.agg [(.I 1),(.str s),(.I 0),(.I 0)]))] ?_
 refine An [0,1] hI J J (Mr r ({ Kind:=1,Text:=s,N:=0,At:=0 }:Token) s0_bad l _ (ix ids 0) (ix ids 1) g v1 g1 vH (by exact hI.sub' J J)) J J J J J J (fun v _=>Ao (K:=2) (N:=0) Tryz.func30 hI) ?_
 rintro r1 _ _ _ ⟨v2,g2,vH1,rfl,rfl⟩
 refine Aw [0,1] hI J J J ?_
 refine Ap<|Aa<|Aj ?_
 exact Ce (K:=2) (N:=0) (a:=((s0_bad||(!r)),r1)) (vs:=[]) [some (.rows g 2 [[v2,(.bool (s0_bad||(!r)))]]),Ah v2 g2 4 (List.map Ac r1)] Tryz.func30 hI J J J (.keep (.keep .nil)) (.same _) ⟨v2,g2,vH1,J,J⟩
theorem Bv (l:List Ar)(s0_bad:Bool)(l1:List Token)(h0:Ae)(o0:Nat)(o1:Nat)(g:Nat)(v1:AV)(g1:Nat)(vH:Ay v1 o1 g1 l1.length)(hI0:Ids h0 [o0,o1] 2):Bq l s0_bad l1≠.bad→Bh Tryz.prog 36 [(.ptr o0 g 0 0),(.sl 1 (List.map rS l))] (hp h0 [o0,o1] [some (.rows g 2 [[v1,(.bool s0_bad)]]),Ah v1 g1 4 (List.map Ac l1)]) (Cs (fun a_ v h' => ∃ (v4:AV),∃ (g4:Nat),Ay v4 o1 g4 a_.2.length∧v=(.tup [])∧h'=hp h0 [o0,o1] [some (.rows g 2 [[v4,(.bool a_.1)]]),Ah v4 g4 4 (List.map Ac a_.2)]) h0 (Bq l s0_bad l1)):=by
 refine Bb (n:=17) 0 Tryz.func36 J (by decide) J J hI0 J fun ids he hI=>?_
 clear hI0
 obtain rfl:ix ids 0=o0:=he 0 rfl
 obtain rfl:ix ids 1=o1:=he 1 rfl
 clear he
 refine Bm (Ak (Bq.eq_1 _ _ _) ?_)
 refine Y<|O<|Z (.sl 1 (List.map rS l)) J Ad<|Z (.I (l.length:Int)) J (A0 (Bd D5))<|Z (.I 0) J Ad<|Aa<|A8 ?_
 refine Ee [(0,(.q ids 0 g)),(6,(.sl 1 (List.map rS l))),(7,(.I (l.length:Int))),(8,(.I 0))] (FI J)<|G0 (P:=Tryz.prog) l (fun _ a=>C2 fun fBad l2=>E8 a fBad l2) (((C2 fun fBad l2=>.ok (fBad,l2))):(Bool×(List Token))→R (Bool×(List Token))) (fun j=>C2 fun fBad l2=>fun(fr:Nat→AV) (h:Ae) => ∃ (v2:AV),∃ (g2:Nat),Ay v2 (ix ids 1) g2 l2.length∧fr=A2 [(0,(.q ids 0 g)),(6,(.sl 1 (List.map rS l))),(7,(.I (l.length:Int))),(8,(.I (j:Int)))]∧h=hp h0 ids [(some (.rows g 2 [[v2,(.bool fBad)]])),(Ah v2 g2 4 (List.map Ac l2))]) (s0_bad,l1) ?_ ?_ ?_
 ·exact⟨v1,g1,vH,J,J⟩
 ·rintro j a ha W hW ⟨fBad,l2⟩ fr h ⟨v2,g2,vH1,rfl,rfl⟩
  refine Ak (m':=E8 a fBad l2) J (Ak (E8.eq_1 _ _ _) ?_)
  refine Y<|O<|Z (.bool (decide ((j:Int)<(l.length:Int)))) J (Ba J J J)<|Aa<|Y<|Eb (t:=6) (L:=l) J fun hlim=>C0 J (Int.ofNat_lt.2 (A5 ha)) ?_
  refine Az<|Y<|A8<|Y<|O<|Z (.cp [(.str a)] 0) J (Bt (Dm D5 Cy J ha))<|Ab 2 [] [(5,(.str a))] ?_
  refine Aa<|O<|Ab 3 [] [(14,(.agg [(.I 1),(.str a),(.I 0),(.I 0)])),(12,(.q ids 0 g))] ?_
  refine An [0,1] hI J J (Mr true ({ Kind:=1,Text:=a,N:=0,At:=0 }:Token) fBad l2 _ (ix ids 0) (ix ids 1) g v2 g2 vH1 (by exact hI.sub' J J)) J J J J J J (fun v _=>Ao (K:=2) (N:=0) Tryz.func36 hI) ?_
  rintro r _ _ _ ⟨v3,g3,vH2,rfl,rfl⟩
  refine Aw [0,1] hI J J J ?_
  refine Ap<|Aa<|Aj ?_
  refine Bn<|O<|Ab 2 [] [(8,(.I (IntKind.wrap .i64 ((j:Int)+1))))] ?_
  refine Aa<|Bo (Q2 (hW ((fBad||(!true)),r) _ _ ⟨v3,g3,vH2,J,J⟩)) (.cons J (.cons J (.cons J (.cons (D1 (A5 ha) hlim) .nil))))
 rintro⟨fBad,l2⟩ fr h ⟨v2,g2,vH1,rfl,rfl⟩
 refine Ak (Py _ _ _)<|Y<|O<|Z (.bool (decide ((l.length:Int)<(l.length:Int)))) J (Ba J J J)<|Aa<|Y<|C1 J (Int.lt_irrefl _) ?_
 refine C7 J<|Ce (K:=2) (N:=0) (a:=(fBad,l2)) (vs:=[]) [some (.rows g 2 [[v2,(.bool fBad)]]),Ah v2 g2 4 (List.map Ac l2)] Tryz.func36 hI J J J (.keep (.keep .nil)) (.same _) ⟨v2,g2,vH1,J,J⟩
theorem Df (l:List Ar)(s0_bad:Bool)(l1:List Token)(h0:Ae)(o0:Nat)(o1:Nat)(g:Nat)(v1:AV)(g1:Nat)(vH:Ay v1 o1 g1 l1.length)(hI0:Ids h0 [o0,o1] 2):Cb l s0_bad l1≠.bad→Bh Tryz.prog 34 [(.ptr o0 g 0 0),(.sl 1 (List.map rS l))] (hp h0 [o0,o1] [some (.rows g 2 [[v1,(.bool s0_bad)]]),Ah v1 g1 4 (List.map Ac l1)]) (Cs (fun a_ v h' => ∃ (v4:AV),∃ (g4:Nat),Ay v4 o1 g4 a_.2.length∧v=(.tup [])∧h'=hp h0 [o0,o1] [some (.rows g 2 [[v4,(.bool a_.1)]]),Ah v4 g4 4 (List.map Ac a_.2)]) h0 (Cb l s0_bad l1)):=by
 refine Bb (n:=17) 0 Tryz.func34 J (by decide) J J hI0 J fun ids he hI=>?_
 clear hI0
 obtain rfl:ix ids 0=o0:=he 0 rfl
 obtain rfl:ix ids 1=o1:=he 1 rfl
 clear he
 refine Bm (Ak (Cb.eq_1 _ _ _) ?_)
 refine Y<|O<|Z (.sl 1 (List.map rS l)) J Ad<|Z (.I (l.length:Int)) J (A0 (Bd D5))<|Z (.I 0) J Ad<|Aa<|A8 ?_
 refine Ee [(0,(.q ids 0 g)),(6,(.sl 1 (List.map rS l))),(7,(.I (l.length:Int))),(8,(.I 0))] (FI J)<|G0 (P:=Tryz.prog) l (fun _ a=>C2 fun fBad l2=>E7 a fBad l2) (((C2 fun fBad l2=>.ok (fBad,l2))):(Bool×(List Token))→R (Bool×(List Token))) (fun j=>C2 fun fBad l2=>fun(fr:Nat→AV) (h:Ae) => ∃ (v2:AV),∃ (g2:Nat),Ay v2 (ix ids 1) g2 l2.length∧fr=A2 [(0,(.q ids 0 g)),(6,(.sl 1 (List.map rS l))),(7,(.I (l.length:Int))),(8,(.I (j:Int)))]∧h=hp h0 ids [(some (.rows g 2 [[v2,(.bool fBad)]])),(Ah v2 g2 4 (List.map Ac l2))]) (s0_bad,l1) ?_ ?_ ?_
 ·exact⟨v1,g1,vH,J,J⟩
 ·rintro j a ha W hW ⟨fBad,l2⟩ fr h ⟨v2,g2,vH1,rfl,rfl⟩
  refine Ak (m':=E7 a fBad l2) J (Ak (E7.eq_1 _ _ _) ?_)
  refine Y<|O<|Z (.bool (decide ((j:Int)<(l.length:Int)))) J (Ba J J J)<|Aa<|Y<|Eb (t:=6) (L:=l) J fun hlim=>C0 J (Int.ofNat_lt.2 (A5 ha)) ?_
  refine Az<|Y<|A8<|Y<|O<|Z (.cp [(.str a)] 0) J (Bt (Dm D5 Cy J ha))<|Ab 2 [] [(5,(.str a))] ?_
  refine Aa<|O<|Ab 3 [] [(14,(.agg [(.I 3),(.str a),(.I 0),(.I 0)])),(12,(.q ids 0 g))] ?_
  refine An [0,1] hI J J (Mr true ({ Kind:=3,Text:=a,N:=0,At:=0 }:Token) fBad l2 _ (ix ids 0) (ix ids 1) g v2 g2 vH1 (by exact hI.sub' J J)) J J J J J J (fun v _=>Ao (K:=2) (N:=0) Tryz.func34 hI) ?_
  rintro r _ _ _ ⟨v3,g3,vH2,rfl,rfl⟩
  refine Aw [0,1] hI J J J ?_
  refine Ap<|Aa<|Aj ?_
  refine Bn<|O<|Ab 2 [] [(8,(.I (IntKind.wrap .i64 ((j:Int)+1))))] ?_
  refine Aa<|Bo (Q2 (hW ((fBad||(!true)),r) _ _ ⟨v3,g3,vH2,J,J⟩)) (.cons J (.cons J (.cons J (.cons (D1 (A5 ha) hlim) .nil))))
 rintro⟨fBad,l2⟩ fr h ⟨v2,g2,vH1,rfl,rfl⟩
 refine Ak (Py _ _ _)<|Y<|O<|Z (.bool (decide ((l.length:Int)<(l.length:Int)))) J (Ba J J J)<|Aa<|Y<|C1 J (Int.lt_irrefl _) ?_
 refine C7 J<|Ce (K:=2) (N:=0) (a:=(fBad,l2)) (vs:=[]) [some (.rows g 2 [[v2,(.bool fBad)]]),Ah v2 g2 4 (List.map Ac l2)] Tryz.func34 hI J J J (.keep (.keep .nil)) (.same _) ⟨v2,g2,vH1,J,J⟩
theorem Dr (n:Int)(least:Int)(most:Int)(s0_bad:Bool)(l:List Token)(h0:Ae)(o0:Nat)(o1:Nat)(g:Nat)(v1:AV)(g1:Nat)(vH:Ay v1 o1 g1 l.length)(hI0:Ids h0 [o0,o1] 2):Cg n least most s0_bad l≠.bad→Bh Tryz.prog 37 [(.ptr o0 g 0 0),(.int .i64 n),(.int .i64 least),(.int .i64 most)] (hp h0 [o0,o1] [some (.rows g 2 [[v1,(.bool s0_bad)]]),Ah v1 g1 4 (List.map Ac l)]) (Cs (fun a_ v h' => ∃ (v3:AV),∃ (g3:Nat),Ay v3 o1 g3 a_.length∧v=(.tup [])∧h'=hp h0 [o0,o1] [some (.rows g 2 [[v3,(.bool (s0_bad||(!((decide (n≥least))&&(decide (n≤most))))))]]),Ah v3 g3 4 (List.map Ac a_)]) h0 (Cg n least most s0_bad l)):=by
 refine Bb (n:=20) 0 Tryz.func37 J (by decide) J J hI0 J fun ids he hI=>?_
 clear hI0
 obtain rfl:ix ids 0=o0:=he 0 rfl
 obtain rfl:ix ids 1=o1:=he 1 rfl
 clear he
 refine Bm (Ak (Cg.eq_1 _ _ _ _ _) ?_)
 refine O<|Ab 5 [] [(12,(.bool (decide (n≥least)))),(8,(.q ids 0 g))] ?_
 refine B8 4 [(1,(.I n)),(8,(.q ids 0 g)),(16,(.bool ((decide (n≥least))&&(decide (n≤most)))))] ?_ fun hJ=>Bu (decide (n≥least)) (fun hb1=>?_) (fun hb1=>?_)
 ·refine Ab 2 [] [(18,(.agg [(.I 2),(.str []),(.I n),(.I 0)]))] ?_
  refine An [0,1] hI J J (Mr ((decide (n≥least))&&(decide (n≤most))) ({ Kind:=2,Text:=[],N:=n,At:=0 }:Token) s0_bad l _ (ix ids 0) (ix ids 1) g v1 g1 vH (by exact hI.sub' J J)) J J J J J J (fun v _=>Ao (K:=2) (N:=0) Tryz.func37 hI) ?_
  rintro r _ _ _ ⟨v2,g2,vH1,rfl,rfl⟩
  refine Aw [0,1] hI J J J ?_
  refine Ap<|Aa<|Aj ?_
  exact Ce (K:=2) (N:=0) (a:=r) (vs:=[]) [some (.rows g 2 [[v2,(.bool (s0_bad||(!((decide (n≥least))&&(decide (n≤most))))))]]),Ah v2 g2 4 (List.map Ac r)] Tryz.func37 hI J J J (.keep (.keep .nil)) (.same _) ⟨v2,g2,vH1,J,J⟩
 ·refine A4 (t:=12) hb1 J<|Ab 4 [] [(16,(.bool (decide (n≤most))))] ?_
  exact Bk hJ (.cons J (.cons J (.cons (Lf hb1) .nil)))
 refine A4 (t:=12) hb1 J<|Ab 4 [] [(16,(.bool false))] ?_
 exact Bk hJ (.cons J (.cons J (.cons (Li hb1) .nil)))
theorem Rq (s:Span)(s0_bad:Bool)(l:List Token)(h0:Ae)(o0:Nat)(o1:Nat)(g:Nat)(v1:AV)(g1:Nat)(vH:Ay v1 o1 g1 l.length)(hI0:Ids h0 [o0,o1] 2):Hj s s0_bad l≠.bad→Bh Tryz.prog 102 [(.ptr o0 g 0 0),(.agg (Cc s))] (hp h0 [o0,o1] [some (.rows g 2 [[v1,(.bool s0_bad)]]),Ah v1 g1 4 (List.map Ac l)]) (Cs (fun a_ v h' => ∃ (v5:AV),∃ (g6:Nat),Ay v5 o1 g6 a_.2.length∧v=(.tup [])∧h'=hp h0 [o0,o1] [some (.rows g 2 [[v5,(.bool a_.1)]]),Ah v5 g6 4 (List.map Ac a_.2)]) h0 (Hj s s0_bad l)):=by
 refine Bb (n:=18) 1 Tryz.func102 J (by decide) J J hI0 J fun ids he hI=>?_
 clear hI0
 obtain rfl:ix ids 0=o0:=he 0 rfl
 obtain rfl:ix ids 1=o1:=he 1 rfl
 clear he
 refine Bm (Ak (Hj.eq_1 _ _ _) ?_)
 refine Aj ?_
 refine Y<|O<|Cv (v:=(.agg (Cc s))) (j:=2) hI J J J J J J J fun g2=>Aa<|Aj ?_
 refine Y<|O<|Ab 3 [2] [(6,(.I s.From)),(4,(.q ids 0 g))] ?_
 refine An [0,1] hI J J (Dr s.From 0 1439 s0_bad l _ (ix ids 0) (ix ids 1) g v1 g1 vH (by exact hI.sub' J J)) J J J J J J (fun v _=>Ao (K:=2) (N:=1) Tryz.func102 hI) ?_
 rintro r _ _ _ ⟨v2,g3,vH1,rfl,rfl⟩
 refine Aw [0,1] hI J J J ?_
 refine Ap<|Aa<|Aj ?_
 refine Y<|O<|Z (.q ids 0 g) J Ad<|Dh (e:=rS) (L:=[[116,111]]) (st:=1) (rows:=[[(.str [116,111])]]) J D5 Cy J J J J J (.cons (RowSim.refl _) .nil) (fun x=>Hd x) J J<|An [0,1] hI J J (Bv [[116,111]] (s0_bad||(!((decide (s.From≥0))&&(decide (s.From≤1439))))) r _ (ix ids 0) (ix ids 1) g v2 g3 vH1 (by exact hI.sub' J J)) J J J J J J (fun v _=>Ao (K:=2) (N:=1) Tryz.func102 hI) ?_
 rintro r1 _ _ _ ⟨v3,g4,vH2,rfl,rfl⟩
 refine Aw [0,1] hI J J J ?_
 refine Ap<|Aa<|Aj ?_
 refine O<|Ab 6 [2,2] [(16,(.I (IntKind.wrap .i64 (s.From+1)))),(13,(.I s.To)),(11,(.q ids 0 g))] ?_
 refine An [0,1] hI J J (Dr s.To (IntKind.wrap .i64 (s.From+1)) 1440 r1.1 r1.2 _ (ix ids 0) (ix ids 1) g v3 g4 vH2 (by exact hI.sub' J J)) J J J J J J (fun v _=>Ao (K:=2) (N:=1) Tryz.func102 hI) ?_
 rintro r2 _ _ _ ⟨v4,g5,vH3,rfl,rfl⟩
 refine Aw [0,1] hI J J J ?_
 refine Ap<|Aa<|Aj ?_
 exact Ce (K:=2) (N:=1) (a:=((r1.1||(!((decide (s.To≥(IntKind.wrap .i64 (s.From+1))))&&(decide (s.To≤1440))))),r2)) (vs:=[]) [some (.rows g 2 [[v4,(.bool (r1.1||(!((decide (s.To≥(IntKind.wrap .i64 (s.From+1))))&&(decide (s.To≤1440))))))]]),Ah v4 g5 4 (List.map Ac r2)] Tryz.func102 hI J J J (.keep (.keep (.drop .nil))) (.same _) ⟨v4,g5,vH3,J,J⟩
theorem Wk (l:List Span)(most:Int)(s0_bad:Bool)(l1:List Token)(h0:Ae)(o0:Nat)(o1:Nat)(g:Nat)(v1:AV)(g1:Nat)(vH:Ay v1 o1 g1 l1.length)(hI0:Ids h0 [o0,o1] 2):Jo l most s0_bad l1≠.bad→Bh Tryz.prog 101 [(.ptr o0 g 0 0),(.sl 2 (List.map Cc l)),(.int .i64 most),(.func (.func 102) [(.ptr o0 g 0 0)] [])] (hp h0 [o0,o1] [some (.rows g 2 [[v1,(.bool s0_bad)]]),Ah v1 g1 4 (List.map Ac l1)]) (Cs (fun a_ v h' => ∃ (v6:AV),∃ (g7:Nat),Ay v6 o1 g7 a_.2.length∧v=(.tup [])∧h'=hp h0 [o0,o1] [some (.rows g 2 [[v6,(.bool a_.1)]]),Ah v6 g7 4 (List.map Ac a_.2)]) h0 (Jo l most s0_bad l1)):=by
 refine Bb (n:=44) 1 Tryz.func101 J (by decide) J J hI0 J fun ids he hI=>?_
 clear hI0
 obtain rfl:ix ids 0=o0:=he 0 rfl
 obtain rfl:ix ids 1=o1:=he 1 rfl
 clear he
 refine Bm (Ak (Jo.eq_1 _ _ _ _) ?_)
 refine Aj ?_
 refine Y<|O<|Ab 6 [0] [(15,(.bool s0_bad)),(10,(.q ids 0 g))] ?_
 refine B8 4 [(0,(.q ids 0 g)),(1,(.sl 2 (List.map Cc l))),(2,(.I most)),(3,(.func (.func 102) [(.q ids 0 g)] [])),(10,(.q ids 0 g)),(19,(.bool (s0_bad||((l.length:Int)==0))))] ?_ fun hJ=>Bu s0_bad (fun hb1=>?_) (fun hb1=>?_)
 ·refine Z (.bool (s0_bad||((l.length:Int)==0))) J Ad<|B8 5 [(0,(.q ids 0 g)),(1,(.sl 2 (List.map Cc l))),(3,(.func (.func 102) [(.q ids 0 g)] [])),(10,(.q ids 0 g)),(25,(.bool ((s0_bad||((l.length:Int)==0))||(decide ((l.length:Int) > most)))))] ?_ fun hJ1=>Bu (s0_bad||((l.length:Int)==0)) (fun hb3=>?_) (fun hb3=>?_)
  ·refine Ab 2 [] [(27,(.ptr (ix ids 0) g 0 1))] ?_
   refine Aq (Ax (v:=(.bool ((s0_bad||((l.length:Int)==0))||(decide ((l.length:Int) > most))))) hI J J J J Qw J J J J J)<|Aa<|Aj ?_
   refine Y<|O<|Z (.sl 2 (List.map Cc l)) J Ad<|Z (.I (l.length:Int)) J (A0 (Bd Mw))<|Z (.I 0) J Ad<|Aa<|A8 ?_
   refine Ee [(0,(.q ids 0 g)),(3,(.func (.func 102) [(.q ids 0 g)] [])),(28,(.sl 2 (List.map Cc l))),(29,(.I (l.length:Int))),(30,(.I 0))] (FI J)<|G0 (P:=Tryz.prog) l (fun j a=>C2 fun fBad l2=>Kh j a fBad l2) (((C2 fun fBad l2=>.ok (fBad,l2))):(Bool×(List Token))→R (Bool×(List Token))) (fun j=>C2 fun fBad l2=>fun(fr:Nat→AV) (h:Ae) => ∃ (v2:AV),∃ (g2:Nat),Ay v2 (ix ids 1) g2 l2.length∧fr=A2 [(0,(.q ids 0 g)),(3,(.func (.func 102) [(.q ids 0 g)] [])),(28,(.sl 2 (List.map Cc l))),(29,(.I (l.length:Int))),(30,(.I (j:Int)))]∧h=hp h0 ids [(some (.rows g 2 [[v2,(.bool fBad)]])),(Ah v2 g2 4 (List.map Ac l2)),none]) (((s0_bad||((l.length:Int)==0))||(decide ((l.length:Int) > most))),l1) ?_ ?_ ?_
   ·exact⟨v1,g1,vH,J,J⟩
   ·rintro j a ha W hW ⟨fBad,l2⟩ fr h ⟨v2,g2,vH1,rfl,rfl⟩
    refine Ak (m':=Kh j a fBad l2) J (Ak (Kh.eq_1 _ _ _ _) ?_)
    refine Y<|O<|Z (.bool (decide ((j:Int)<(l.length:Int)))) J (Ba J J J)<|Aa<|Y<|Eb (t:=28) (L:=l) J fun hlim=>C0 J (Int.ofNat_lt.2 (A5 ha)) ?_
    refine Az<|Y<|A8<|Y<|O<|Z (.I (j:Int)) J Ad<|Z (.cp (Cc a) 0) J (Bt (Dm Mw Ly J ha)) ?_
    refine Z (.agg (Cc a)) J (Au (Cp Ly J))<|Bc (j:=2) hI J J J J Ly J fun g3=>Z (.I (j:Int)) J Al<|Aq (Ax (v:=(.agg (Cc a))) hI J J J J Ly J J J J J)<|Aa<|Aj ?_
    refine Y<|Y<|O<|Ab 2 [] [(36,(.bool (decide ((j:Int) > 0))))] ?_
    refine Aa<|Ed (C2 fun fBad1 l3=>Kk a fBad1 l3) (C2 fun fBad1 l3=>fun(fr:Nat→AV) (h:Ae) => ∃ (v4:AV),∃ (g5:Nat),Ay v4 (ix ids 1) g5 l3.length∧fr=A2 [(0,(.q ids 0 g)),(3,(.func (.func 102) [(.q ids 0 g)] [])),(9,(.q ids 2 g3)),(28,(.sl 2 (List.map Cc l))),(29,(.I (l.length:Int))),(30,(.I (j:Int)))]∧h=hp h0 ids [(some (.rows g 2 [[v4,(.bool fBad1)]])),(Ah v4 g5 4 (List.map Ac l3)),(some (.rows g3 2 [(Cc a)]))]) ?_ fun hJ2=>?_
    ·rintro⟨fBad1,l3⟩ fr h ⟨v4,g5,vH3,rfl,rfl⟩
     refine Ak (Kk.eq_1 _ _ _)<|O<|Ab 2 [2] [(41,(.agg (Cc a))),(40,(.func (.func 102) [(.q ids 0 g)] []))] ?_
     refine An [0,1] hI J J (Rq a fBad1 l3 _ (ix ids 0) (ix ids 1) g v4 g5 vH3 (by exact hI.sub' J J)) J J J J J J (fun v _=>Ao (K:=2) (N:=1) Tryz.func101 hI) ?_
     rintro r1 _ _ _ ⟨v5,g6,vH4,rfl,rfl⟩
     refine Aw [0,1] hI J J J ?_
     refine Ap<|Aa<|Aj ?_
     refine Bn<|O<|Ab 2 [] [(30,(.I (IntKind.wrap .i64 ((j:Int)+1))))] ?_
     refine Aa<|Eh [(some (.rows g 2 [[v5,(.bool r1.1)]])),(Ah v5 g6 4 (List.map Ac r1.2)),none] hI J (.keep (.keep (.drop .nil)))<|Bo (Q2 (hW (r1.1,r1.2) _ _ ⟨v5,g6,vH4,J,J⟩)) (.cons J (.cons J (.cons J (.cons J (.cons (D1 (A5 ha) hlim) .nil)))))
    refine Qv J (fun hc=>?_) (fun hc=>?_)
    ·refine O<|Z (.q ids 0 g) J Ad<|Dh (e:=rS) (L:=[[44]]) (st:=1) (rows:=[[(.str [44])]]) J D5 Cy J J J J J (.cons (RowSim.refl _) .nil) (fun x=>Hd x) J J<|An [0,1] hI J J (Df [[44]] fBad l2 _ (ix ids 0) (ix ids 1) g v2 g2 vH1 (by exact hI.sub' J J)) J J J J J J (fun v _=>Ao (K:=2) (N:=1) Tryz.func101 hI) ?_
     rintro r _ _ _ ⟨v3,g4,vH2,rfl,rfl⟩
     refine Aw [0,1] hI J J J ?_
     refine Ap<|Aa<|Aj ?_
     exact Bo (hJ2 (r.1,r.2) _ _ ⟨v3,g4,vH2,J,J⟩)
    refine Az<|Bo (hJ2 (fBad,l2) _ _ ⟨v2,g2,vH1,J,J⟩)
   rintro⟨fBad,l2⟩ fr h ⟨v2,g2,vH1,rfl,rfl⟩
   refine Ak (Py _ _ _)<|Y<|O<|Z (.bool (decide ((l.length:Int)<(l.length:Int)))) J (Ba J J J)<|Aa<|Y<|C1 J (Int.lt_irrefl _) ?_
   refine C7 J<|Ce (K:=2) (N:=1) (a:=(fBad,l2)) (vs:=[]) [some (.rows g 2 [[v2,(.bool fBad)]]),Ah v2 g2 4 (List.map Ac l2)] Tryz.func101 hI J J J (.keep (.keep (.keep .nil))) (.same _) ⟨v2,g2,vH1,J,J⟩
  ·refine A4 (t:=20) hb3 J<|Ab 5 [] [(25,(.bool true))] ?_
   exact Bk hJ1 (.cons J (.cons J (.cons J (.cons J (.cons (Fu hb3) .nil)))))
  refine A4 (t:=20) hb3 J<|B0 (tj:=20) (.sl 2 (List.map Cc l)) J J J Ad<|B0 (tj:=20) (.I (l.length:Int)) J J J (A0 (Bd Mw))<|Ab 3 [] [(25,(.bool (decide ((l.length:Int) > most))))] ?_
  exact Bk hJ1 (.cons J (.cons J (.cons J (.cons J (.cons (Fw hb3) .nil)))))
 ·refine A4 (t:=15) hb1 J<|Ab 4 [] [(19,(.bool true))] ?_
  exact Bk hJ (.cons J (.cons J (.cons J (.cons J (.cons J (.cons (Fu hb1) .nil))))))
 refine A4 (t:=15) hb1 J<|B0 (tj:=15) (.sl 2 (List.map Cc l)) J J J Ad<|B0 (tj:=15) (.I (l.length:Int)) J J J (A0 (Bd Mw))<|Ab 2 [] [(19,(.bool ((l.length:Int)==0)))] ?_
 exact Bk hJ (.cons J (.cons J (.cons J (.cons J (.cons J (.cons (Fw hb1) .nil))))))
theorem Rs (text:Ar)(l:List Span)(s0_bad:Bool)(l1:List Token)(h0:Ae)(o0:Nat)(o1:Nat)(g:Nat)(v1:AV)(g1:Nat)(vH:Ay v1 o1 g1 l1.length)(hI0:Ids h0 [o0,o1] 2):Hf text l s0_bad l1≠.bad→Bh Tryz.prog 31 [(.ptr o0 g 0 0),(.str text),(.sl 2 (List.map Cc l))] (hp h0 [o0,o1] [some (.rows g 2 [[v1,(.bool s0_bad)]]),Ah v1 g1 4 (List.map Ac l1)]) (Cs (fun a_ v h' => ∃ (v4:AV),∃ (g4:Nat),Ay v4 o1 g4 a_.2.length∧v=(.tup [])∧h'=hp h0 [o0,o1] [some (.rows g 2 [[v4,(.bool a_.1)]]),Ah v4 g4 4 (List.map Ac a_.2)]) h0 (Hf text l s0_bad l1)):=by
 refine Bb (n:=18) 0 Tryz.func31 J (by decide) J J hI0 J fun ids he hI=>?_
 clear hI0
 obtain rfl:ix ids 0=o0:=he 0 rfl
 obtain rfl:ix ids 1=o1:=he 1 rfl
 clear he
 refine Bm (Ak (Hf.eq_1 _ _ _ _) ?_)
 refine Y<|O<|Z (.sl 2 (List.map Cc l)) J Ad<|Z (.I (l.length:Int)) J (A0 (Bd Mw))<|Z (.bool (decide ((l.length:Int) > 0))) J (Ba J J J)<|Aa<|Qv J (fun hc=>?_) (fun hc=>?_)
 ·refine Y<|O<|Ab 2 [] [(10,(.str text)),(9,(.q ids 0 g))] ?_
  refine Dh (e:=rS) (L:=[text]) (st:=1) (rows:=[[(.str text)]]) J D5 Cy J J J J J (.cons (RowSim.refl _) .nil) (fun x=>Hd x) J J<|An [0,1] hI J J (Bv [text] s0_bad l1 _ (ix ids 0) (ix ids 1) g v1 g1 vH (by exact hI.sub' J J)) J J J J J J (fun v _=>Ao (K:=2) (N:=0) Tryz.func31 hI) ?_
  rintro r _ _ _ ⟨v2,g2,vH1,rfl,rfl⟩
  refine Aw [0,1] hI J J J ?_
  refine Ap<|Aa<|Aj ?_
  refine O<|Ab 4 [] [(16,(.func (.func 102) [(.q ids 0 g)] [])),(14,(.sl 2 (List.map Cc l))),(13,(.q ids 0 g))] ?_
  refine An [0,1] hI J J (Wk l 16 r.1 r.2 _ (ix ids 0) (ix ids 1) g v2 g2 vH1 (by exact hI.sub' J J)) J J J J J J (fun v _=>Ao (K:=2) (N:=0) Tryz.func31 hI) ?_
  rintro r1 _ _ _ ⟨v3,g3,vH2,rfl,rfl⟩
  refine Aw [0,1] hI J J J ?_
  refine Ap<|Aa<|Aj ?_
  exact Ce (K:=2) (N:=0) (a:=(r1.1,r1.2)) (vs:=[]) [some (.rows g 2 [[v3,(.bool r1.1)]]),Ah v3 g3 4 (List.map Ac r1.2)] Tryz.func31 hI J J J (.keep (.keep .nil)) (.same _) ⟨v3,g3,vH2,J,J⟩
 refine Az<|Ce (K:=2) (N:=0) (a:=(s0_bad,l1)) (vs:=[]) [some (.rows g 2 [[v1,(.bool s0_bad)]]),Ah v1 g1 4 (List.map Ac l1)] Tryz.func31 hI J J J (.keep (.keep .nil)) (.same _) ⟨v1,g1,vH,J,J⟩
theorem Aay (a:Volume)(s1_bad:Bool)(l:List Token)(h0:Ae)(o0:Nat)(o1:Nat)(o2:Nat)(g:Nat)(g1:Nat)(v1:AV)(g2:Nat)(vH:Ay v1 o2 g2 l.length)(hI0:Ids h0 [o0,o1,o2] 3):Nw a s1_bad l≠.bad→Bh Tryz.prog 29 [(.agg (As a)),(.ptr o0 g 0 0)] (hp h0 [o0,o1,o2] [some (.rows g 1 [[(.ptr o1 g1 0 0)]]),some (.rows g1 2 [[v1,(.bool s1_bad)]]),Ah v1 g2 4 (List.map Ac l)]) (Cs (fun a_ v h' => ∃ (v4:AV),∃ (g6:Nat),Ay v4 o2 g6 a_.2.length∧v=(.tup [])∧h'=hp h0 [o0,o1,o2] [some (.rows g 1 [[(.ptr o1 g1 0 0)]]),some (.rows g1 2 [[v4,(.bool a_.1)]]),Ah v4 g6 4 (List.map Ac a_.2)]) h0 (Nw a s1_bad l)):=by
 refine Bb (n:=11) 1 Tryz.func29 J (by decide) J J hI0 J fun ids he hI=>?_
 clear hI0
 obtain rfl:ix ids 0=o0:=he 0 rfl
 obtain rfl:ix ids 1=o1:=he 1 rfl
 obtain rfl:ix ids 2=o2:=he 2 rfl
 clear he
 refine Bm (Ak (Nw.eq_1 _ _ _) ?_)
 refine Aj ?_
 refine Y<|O<|Cv (v:=(.agg (As a))) (j:=3) hI J J J J J J J fun g3=>Aa<|Aj ?_
 refine Y<|O<|Ab 3 [0,3] [(5,(.str a.Name)),(3,(.q ids 1 g1))] ?_
 refine An [1,2] hI J J (C6 a.Name s1_bad l _ (ix ids 1) (ix ids 2) g1 v1 g2 vH (by exact hI.sub' J J)) J J J J J J (fun v _=>Ao (K:=3) (N:=1) Tryz.func29 hI) ?_
 rintro r _ _ _ ⟨v2,g4,vH1,rfl,rfl⟩
 refine Aw [1,2] hI J J J ?_
 refine Ap<|Aa<|Aj ?_
 refine O<|Ab 3 [0,3] [(9,(.sl 2 (List.map Cc a.Closed))),(7,(.q ids 1 g1))] ?_
 refine An [1,2] hI J J (Rs [99,108,111,115,101,100] a.Closed r.1 r.2 _ (ix ids 1) (ix ids 2) g1 v2 g4 vH1 (by exact hI.sub' J J)) J J J J J J (fun v _=>Ao (K:=3) (N:=1) Tryz.func29 hI) ?_
 rintro r1 _ _ _ ⟨v3,g5,vH2,rfl,rfl⟩
 refine Aw [1,2] hI J J J ?_
 refine Ap<|Aa<|Aj ?_
 exact Ce (K:=3) (N:=1) (a:=(r1.1,r1.2)) (vs:=[]) [some (.rows g 1 [[(.q ids 1 g1)]]),some (.rows g1 2 [[v3,(.bool r1.1)]]),Ah v3 g5 4 (List.map Ac r1.2)] Tryz.func29 hI J J J (.keep (.keep (.keep (.drop .nil)))) (.same _) ⟨v3,g5,vH2,J,J⟩
theorem Vb (text:Ar)(l:List Volume)(most:Int)(s0_bad:Bool)(h0:Ae)(o0:Nat)(o1:Nat)(o2:Nat)(g:Nat)(g1:Nat)(hI0:Ids h0 [o0,o1,o2] 3):G9 text l most s0_bad≠.bad→Bh Tryz.prog 28 [(.ptr o0 g 0 0),(.str text),(.sl 2 (List.map As l)),(.int .i64 most),(.func (.func 29) [] [(.ptr o1 g1 0 0)])] (hp h0 [o0,o1,o2] [some (.rows g 2 [[.emp,(.bool s0_bad)]]),some (.rows g1 1 [[(.ptr o0 g 0 0)]]),none]) (Cs (fun a_ v h' => ∃ (v6:AV),∃ (g8:Nat),Ay v6 o2 g8 a_.2.length∧v=(.tup [])∧h'=hp h0 [o0,o1,o2] [some (.rows g 2 [[v6,(.bool a_.1)]]),some (.rows g1 1 [[(.ptr o0 g 0 0)]]),Ah v6 g8 4 (List.map Ac a_.2)]) h0 (G9 text l most s0_bad)):=by
 refine Bb (n:=44) 1 Tryz.func28 J (by decide) J J hI0 J fun ids he hI=>?_
 clear hI0
 obtain rfl:ix ids 0=o0:=he 0 rfl
 obtain rfl:ix ids 1=o1:=he 1 rfl
 obtain rfl:ix ids 2=o2:=he 2 rfl
 clear he
 refine Bm (Ak (G9.eq_1 _ _ _ _) ?_)
 refine Aj ?_
 refine Y<|O<|Ab 6 [0] [(17,(.bool s0_bad)),(12,(.q ids 0 g))] ?_
 refine B8 5 [(0,(.q ids 0 g)),(1,(.str text)),(2,(.sl 2 (List.map As l))),(4,(.func (.func 29) [] [(.q ids 1 g1)])),(12,(.q ids 0 g)),(22,(.bool (s0_bad||(decide ((l.length:Int) > most)))))] ?_ fun hJ=>Bu s0_bad (fun hb1=>?_) (fun hb1=>?_)
 ·refine Ab 2 [] [(24,(.ptr (ix ids 0) g 0 1))] ?_
  refine Aq (Ax (v:=(.bool (s0_bad||(decide ((l.length:Int) > most))))) hI J J J J Qw J J J J J)<|Aa<|Aj ?_
  refine Y<|O<|Z (.sl 2 (List.map As l)) J Ad<|Z (.I (l.length:Int)) J (A0 (Bd J2))<|Z (.I 0) J Ad<|Aa<|A8 ?_
  refine Ee [(0,(.q ids 0 g)),(1,(.str text)),(4,(.func (.func 29) [] [(.q ids 1 g1)])),(25,(.sl 2 (List.map As l))),(26,(.I (l.length:Int))),(27,(.I 0))] (FI J)<|G0 (P:=Tryz.prog) l (fun _ a=>C2 fun fBad l1=>Gf text a fBad l1) (((C2 fun fBad l1=>.ok (fBad,l1))):(Bool×(List Token))→R (Bool×(List Token))) (fun j=>C2 fun fBad l1=>fun(fr:Nat→AV) (h:Ae) => ∃ (v1:AV),∃ (g2:Nat),Ay v1 (ix ids 2) g2 l1.length∧fr=A2 [(0,(.q ids 0 g)),(1,(.str text)),(4,(.func (.func 29) [] [(.q ids 1 g1)])),(25,(.sl 2 (List.map As l))),(26,(.I (l.length:Int))),(27,(.I (j:Int)))]∧h=hp h0 ids [(some (.rows g 2 [[v1,(.bool fBad)]])),(some (.rows g1 1 [[(.q ids 0 g)]])),(Ah v1 g2 4 (List.map Ac l1)),none]) ((s0_bad||(decide ((l.length:Int) > most))),[]) ?_ ?_ ?_
  ·exact⟨.emp,0,.nil,J,J⟩
  ·rintro j a ha W hW ⟨fBad,l1⟩ fr h ⟨v1,g2,vH,rfl,rfl⟩
   refine Ak (m':=Gf text a fBad l1) J (Ak (Gf.eq_1 _ _ _ _) ?_)
   refine Y<|O<|Z (.bool (decide ((j:Int)<(l.length:Int)))) J (Ba J J J)<|Aa<|Y<|Eb (t:=25) (L:=l) J fun hlim=>C0 J (Int.ofNat_lt.2 (A5 ha)) ?_
   refine Az<|Y<|A8<|Y<|O<|Z (.cp (As a) 0) J (Bt (Dm J2 Ko J ha))<|Z (.agg (As a)) J (Au (Cp Ko J)) ?_
   refine Bc (j:=3) hI J J J J Ko J fun g3=>Aq (Ax (v:=(.agg (As a))) hI J J J J Ko J J J J J)<|Aa<|Aj ?_
   refine Y<|Y<|O<|Ab 2 [] [(32,(.bool (!(text==[]))))] ?_
   refine Aa<|Ed (C2 fun fBad1 l2=>Ht a fBad1 l2) (C2 fun fBad1 l2=>fun(fr:Nat→AV) (h:Ae) => ∃ (v3:AV),∃ (g5:Nat),Ay v3 (ix ids 2) g5 l2.length∧fr=A2 [(0,(.q ids 0 g)),(1,(.str text)),(4,(.func (.func 29) [] [(.q ids 1 g1)])),(11,(.q ids 3 g3)),(25,(.sl 2 (List.map As l))),(26,(.I (l.length:Int))),(27,(.I (j:Int)))]∧h=hp h0 ids [(some (.rows g 2 [[v3,(.bool fBad1)]])),(some (.rows g1 1 [[(.q ids 0 g)]])),(Ah v3 g5 4 (List.map Ac l2)),(some (.rows g3 2 [(As a)]))]) ?_ fun hJ1=>?_
   ·rintro⟨fBad1,l2⟩ fr h ⟨v3,g5,vH2,rfl,rfl⟩
    refine Ak (Ht.eq_1 _ _ _)<|Y<|O<|Ab 2 [3] [(38,(.agg (As a))),(37,(.func (.func 29) [] [(.q ids 1 g1)]))] ?_
    refine An [1,0,2] hI J J (Aay a fBad1 l2 _ (ix ids 1) (ix ids 0) (ix ids 2) g1 g v3 g5 vH2 (by exact hI.sub' J J)) J J J J J J (fun v _=>Ao (K:=3) (N:=1) Tryz.func28 hI) ?_
    rintro r1 _ _ _ ⟨v4,g6,vH3,rfl,rfl⟩
    refine Aw [1,0,2] hI J J J ?_
    refine Ap<|Aa<|Aj ?_
    refine O<|Z (.q ids 0 g) J Ad<|Dh (e:=rS) (L:=[[59]]) (st:=1) (rows:=[[(.str [59])]]) J D5 Cy J J J J J (.cons (RowSim.refl _) .nil) (fun x=>Hd x) J J<|An [0,2] hI J J (Df [[59]] r1.1 r1.2 _ (ix ids 0) (ix ids 2) g v4 g6 vH3 (by exact hI.sub' J J)) J J J J J J (fun v _=>Ao (K:=3) (N:=1) Tryz.func28 hI) ?_
    rintro r2 _ _ _ ⟨v5,g7,vH4,rfl,rfl⟩
    refine Aw [0,2] hI J J J ?_
    refine Ap<|Aa<|Aj ?_
    refine Bn<|O<|Ab 2 [] [(27,(.I (IntKind.wrap .i64 ((j:Int)+1))))] ?_
    refine Aa<|Eh [(some (.rows g 2 [[v5,(.bool r2.1)]])),(some (.rows g1 1 [[(.q ids 0 g)]])),(Ah v5 g7 4 (List.map Ac r2.2)),none] hI J (.keep (.keep (.keep (.drop .nil))))<|Bo (Q2 (hW (r2.1,r2.2) _ _ ⟨v5,g7,vH4,J,J⟩)) (.cons J (.cons J (.cons J (.cons J (.cons J (.cons (D1 (A5 ha) hlim) .nil))))))
   refine Ei J (fun hc=>?_) (fun hc=>?_)
   ·refine Az<|Bo (hJ1 (fBad,l1) _ _ ⟨v1,g2,vH,J,J⟩)
   refine O<|Ab 2 [] [(34,(.str text)),(33,(.q ids 0 g))] ?_
   refine Dh (e:=rS) (L:=[text]) (st:=1) (rows:=[[(.str text)]]) J D5 Cy J J J J J (.cons (RowSim.refl _) .nil) (fun x=>Hd x) J J<|An [0,2] hI J J (Bv [text] fBad l1 _ (ix ids 0) (ix ids 2) g v1 g2 vH (by exact hI.sub' J J)) J J J J J J (fun v _=>Ao (K:=3) (N:=1) Tryz.func28 hI) ?_
   rintro r _ _ _ ⟨v2,g4,vH1,rfl,rfl⟩
   refine Aw [0,2] hI J J J ?_
   refine Ap<|Aa<|Aj ?_
   exact Bo (hJ1 (r.1,r.2) _ _ ⟨v2,g4,vH1,J,J⟩)
  rintro⟨fBad,l1⟩ fr h ⟨v1,g2,vH,rfl,rfl⟩
  refine Ak (Py _ _ _)<|Y<|O<|Z (.bool (decide ((l.length:Int)<(l.length:Int)))) J (Ba J J J)<|Aa<|Y<|C1 J (Int.lt_irrefl _) ?_
  refine C7 J<|Ce (K:=3) (N:=1) (a:=(fBad,l1)) (vs:=[]) [some (.rows g 2 [[v1,(.bool fBad)]]),some (.rows g1 1 [[(.q ids 0 g)]]),Ah v1 g2 4 (List.map Ac l1)] Tryz.func28 hI J J J (.keep (.keep (.keep (.keep .nil)))) (.same _) ⟨v1,g2,vH,J,J⟩
 ·refine A4 (t:=17) hb1 J<|Ab 5 [] [(22,(.bool true))] ?_
  exact Bk hJ (.cons J (.cons J (.cons J (.cons J (.cons J (.cons (Fu hb1) .nil))))))
 refine A4 (t:=17) hb1 J<|B0 (tj:=17) (.sl 2 (List.map As l)) J J J Ad<|B0 (tj:=17) (.I (l.length:Int)) J J J (A0 (Bd J2))<|Ab 3 [] [(22,(.bool (decide ((l.length:Int) > most))))] ?_
 exact Bk hJ (.cons J (.cons J (.cons J (.cons J (.cons J (.cons (Fw hb1) .nil))))))
theorem Mx (l:List Ar)(most:Int)(s0_bad:Bool)(l1:List Token)(h0:Ae)(o0:Nat)(o1:Nat)(g:Nat)(v1:AV)(g1:Nat)(vH:Ay v1 o1 g1 l1.length)(hI0:Ids h0 [o0,o1] 2):F1 l most s0_bad l1≠.bad→Bh Tryz.prog 35 [(.ptr o0 g 0 0),(.sl 1 (List.map rS l)),(.int .i64 most),(.func (.func 30) [(.ptr o0 g 0 0)] [])] (hp h0 [o0,o1] [some (.rows g 2 [[v1,(.bool s0_bad)]]),Ah v1 g1 4 (List.map Ac l1)]) (Cs (fun a_ v h' => ∃ (v6:AV),∃ (g6:Nat),Ay v6 o1 g6 a_.2.length∧v=(.tup [])∧h'=hp h0 [o0,o1] [some (.rows g 2 [[v6,(.bool a_.1)]]),Ah v6 g6 4 (List.map Ac a_.2)]) h0 (F1 l most s0_bad l1)):=by
 refine Bb (n:=44) 0 Tryz.func35 J (by decide) J J hI0 J fun ids he hI=>?_
 clear hI0
 obtain rfl:ix ids 0=o0:=he 0 rfl
 obtain rfl:ix ids 1=o1:=he 1 rfl
 clear he
 refine Bm (Ak (F1.eq_1 _ _ _ _) ?_)
 refine Y<|O<|Ab 6 [0] [(15,(.bool s0_bad)),(10,(.q ids 0 g))] ?_
 refine B8 4 [(0,(.q ids 0 g)),(1,(.sl 1 (List.map rS l))),(2,(.I most)),(3,(.func (.func 30) [(.q ids 0 g)] [])),(10,(.q ids 0 g)),(19,(.bool (s0_bad||((l.length:Int)==0))))] ?_ fun hJ=>Bu s0_bad (fun hb1=>?_) (fun hb1=>?_)
 ·refine Z (.bool (s0_bad||((l.length:Int)==0))) J Ad<|B8 5 [(0,(.q ids 0 g)),(1,(.sl 1 (List.map rS l))),(3,(.func (.func 30) [(.q ids 0 g)] [])),(10,(.q ids 0 g)),(25,(.bool ((s0_bad||((l.length:Int)==0))||(decide ((l.length:Int) > most)))))] ?_ fun hJ1=>Bu (s0_bad||((l.length:Int)==0)) (fun hb3=>?_) (fun hb3=>?_)
  ·refine Ab 2 [] [(27,(.ptr (ix ids 0) g 0 1))] ?_
   refine Aq (Ax (v:=(.bool ((s0_bad||((l.length:Int)==0))||(decide ((l.length:Int) > most))))) hI J J J J Qw J J J J J)<|Aa<|Aj ?_
   refine Y<|O<|Z (.sl 1 (List.map rS l)) J Ad<|Z (.I (l.length:Int)) J (A0 (Bd D5))<|Z (.I 0) J Ad<|Aa<|A8 ?_
   refine Ee [(0,(.q ids 0 g)),(3,(.func (.func 30) [(.q ids 0 g)] [])),(28,(.sl 1 (List.map rS l))),(29,(.I (l.length:Int))),(30,(.I 0))] (FI J)<|G0 (P:=Tryz.prog) l (fun j a=>C2 fun fBad l2=>J6 j a fBad l2) (((C2 fun fBad l2=>.ok (fBad,l2))):(Bool×(List Token))→R (Bool×(List Token))) (fun j=>C2 fun fBad l2=>fun(fr:Nat→AV) (h:Ae) => ∃ (v2:AV),∃ (g2:Nat),Ay v2 (ix ids 1) g2 l2.length∧fr=A2 [(0,(.q ids 0 g)),(3,(.func (.func 30) [(.q ids 0 g)] [])),(28,(.sl 1 (List.map rS l))),(29,(.I (l.length:Int))),(30,(.I (j:Int)))]∧h=hp h0 ids [(some (.rows g 2 [[v2,(.bool fBad)]])),(Ah v2 g2 4 (List.map Ac l2))]) (((s0_bad||((l.length:Int)==0))||(decide ((l.length:Int) > most))),l1) ?_ ?_ ?_
   ·exact⟨v1,g1,vH,J,J⟩
   ·rintro j a ha W hW ⟨fBad,l2⟩ fr h ⟨v2,g2,vH1,rfl,rfl⟩
    refine Ak (m':=J6 j a fBad l2) J (Ak (J6.eq_1 _ _ _ _) ?_)
    refine Y<|O<|Z (.bool (decide ((j:Int)<(l.length:Int)))) J (Ba J J J)<|Aa<|Y<|Eb (t:=28) (L:=l) J fun hlim=>C0 J (Int.ofNat_lt.2 (A5 ha)) ?_
    refine Az<|Y<|A8<|Y<|O<|Z (.I (j:Int)) J Ad<|Z (.cp [(.str a)] 0) J (Bt (Dm D5 Cy J ha)) ?_
    refine Ab 3 [] [(9,(.str a)),(8,(.I (j:Int)))] ?_
    refine Aa<|Y<|Y<|O<|Ab 2 [] [(36,(.bool (decide ((j:Int) > 0))))] ?_
    refine Aa<|Ed (C2 fun fBad1 l3=>J5 a fBad1 l3) (C2 fun fBad1 l3=>fun(fr:Nat→AV) (h:Ae) => ∃ (v4:AV),∃ (g4:Nat),Ay v4 (ix ids 1) g4 l3.length∧fr=A2 [(0,(.q ids 0 g)),(3,(.func (.func 30) [(.q ids 0 g)] [])),(9,(.str a)),(28,(.sl 1 (List.map rS l))),(29,(.I (l.length:Int))),(30,(.I (j:Int)))]∧h=hp h0 ids [(some (.rows g 2 [[v4,(.bool fBad1)]])),(Ah v4 g4 4 (List.map Ac l3))]) ?_ fun hJ2=>?_
    ·rintro⟨fBad1,l3⟩ fr h ⟨v4,g4,vH3,rfl,rfl⟩
     refine Ak (J5.eq_1 _ _ _)<|O<|Ab 2 [] [(41,(.str a)),(40,(.func (.func 30) [(.q ids 0 g)] []))] ?_
     refine An [0,1] hI J J (C6 a fBad1 l3 _ (ix ids 0) (ix ids 1) g v4 g4 vH3 (by exact hI.sub' J J)) J J J J J J (fun v _=>Ao (K:=2) (N:=0) Tryz.func35 hI) ?_
     rintro r1 _ _ _ ⟨v5,g5,vH4,rfl,rfl⟩
     refine Aw [0,1] hI J J J ?_
     refine Ap<|Aa<|Aj ?_
     refine Bn<|O<|Ab 2 [] [(30,(.I (IntKind.wrap .i64 ((j:Int)+1))))] ?_
     refine Aa<|Bo (Q2 (hW (r1.1,r1.2) _ _ ⟨v5,g5,vH4,J,J⟩)) (.cons J (.cons J (.cons J (.cons J (.cons (D1 (A5 ha) hlim) .nil)))))
    refine Qv J (fun hc=>?_) (fun hc=>?_)
    ·refine O<|Z (.q ids 0 g) J Ad<|Dh (e:=rS) (L:=[[44]]) (st:=1) (rows:=[[(.str [44])]]) J D5 Cy J J J J J (.cons (RowSim.refl _) .nil) (fun x=>Hd x) J J<|An [0,1] hI J J (Df [[44]] fBad l2 _ (ix ids 0) (ix ids 1) g v2 g2 vH1 (by exact hI.sub' J J)) J J J J J J (fun v _=>Ao (K:=2) (N:=0) Tryz.func35 hI) ?_
     rintro r _ _ _ ⟨v3,g3,vH2,rfl,rfl⟩
     refine Aw [0,1] hI J J J ?_
     refine Ap<|Aa<|Aj ?_
     exact Bo (hJ2 (r.1,r.2) _ _ ⟨v3,g3,vH2,J,J⟩)
    refine Az<|Bo (hJ2 (fBad,l2) _ _ ⟨v2,g2,vH1,J,J⟩)
   rintro⟨fBad,l2⟩ fr h ⟨v2,g2,vH1,rfl,rfl⟩
   refine Ak (Py _ _ _)<|Y<|O<|Z (.bool (decide ((l.length:Int)<(l.length:Int)))) J (Ba J J J)<|Aa<|Y<|C1 J (Int.lt_irrefl _) ?_
   refine C7 J<|Ce (K:=2) (N:=0) (a:=(fBad,l2)) (vs:=[]) [some (.rows g 2 [[v2,(.bool fBad)]]),Ah v2 g2 4 (List.map Ac l2)] Tryz.func35 hI J J J (.keep (.keep .nil)) (.same _) ⟨v2,g2,vH1,J,J⟩
  ·refine A4 (t:=20) hb3 J<|Ab 5 [] [(25,(.bool true))] ?_
   exact Bk hJ1 (.cons J (.cons J (.cons J (.cons J (.cons (Fu hb3) .nil)))))
  refine A4 (t:=20) hb3 J<|B0 (tj:=20) (.sl 1 (List.map rS l)) J J J Ad<|B0 (tj:=20) (.I (l.length:Int)) J J J (A0 (Bd D5))<|Ab 3 [] [(25,(.bool (decide ((l.length:Int) > most))))] ?_
  exact Bk hJ1 (.cons J (.cons J (.cons J (.cons J (.cons (Fw hb3) .nil)))))
 ·refine A4 (t:=15) hb1 J<|Ab 4 [] [(19,(.bool true))] ?_
  exact Bk hJ (.cons J (.cons J (.cons J (.cons J (.cons J (.cons (Fu hb1) .nil))))))
 refine A4 (t:=15) hb1 J<|B0 (tj:=15) (.sl 1 (List.map rS l)) J J J Ad<|B0 (tj:=15) (.I (l.length:Int)) J J J (A0 (Bd D5))<|Ab 2 [] [(19,(.bool ((l.length:Int)==0)))] ?_
 exact Bk hJ (.cons J (.cons J (.cons J (.cons J (.cons J (.cons (Fw hb1) .nil))))))
theorem Aav (a:Sector)(s1_bad:Bool)(l:List Token)(h0:Ae)(o0:Nat)(o1:Nat)(o2:Nat)(g:Nat)(g1:Nat)(v1:AV)(g2:Nat)(vH:Ay v1 o2 g2 l.length)(hI0:Ids h0 [o0,o1,o2] 3):Nt a s1_bad l≠.bad→Bh Tryz.prog 33 [(.agg (A3 a)),(.ptr o0 g 0 0)] (hp h0 [o0,o1,o2] [some (.rows g 1 [[(.ptr o1 g1 0 0)]]),some (.rows g1 2 [[v1,(.bool s1_bad)]]),Ah v1 g2 4 (List.map Ac l)]) (Cs (fun a_ v h' => ∃ (v9:AV),∃ (g11:Nat),Ay v9 o2 g11 a_.2.length∧v=(.tup [])∧h'=hp h0 [o0,o1,o2] [some (.rows g 1 [[(.ptr o1 g1 0 0)]]),some (.rows g1 2 [[v9,(.bool a_.1)]]),Ah v9 g11 4 (List.map Ac a_.2)]) h0 (Nt a s1_bad l)):=by
 refine Bb (n:=32) 1 Tryz.func33 J (by decide) J J hI0 J fun ids he hI=>?_
 clear hI0
 obtain rfl:ix ids 0=o0:=he 0 rfl
 obtain rfl:ix ids 1=o1:=he 1 rfl
 obtain rfl:ix ids 2=o2:=he 2 rfl
 clear he
 refine Bm (Ak (Nt.eq_1 _ _ _) ?_)
 refine Aj ?_
 refine Y<|O<|Cv (v:=(.agg (A3 a))) (j:=3) hI J J J J J J J fun g3=>Aa<|Aj ?_
 refine Y<|O<|Ab 3 [0,3] [(5,(.str a.Name)),(3,(.q ids 1 g1))] ?_
 refine An [1,2] hI J J (C6 a.Name s1_bad l _ (ix ids 1) (ix ids 2) g1 v1 g2 vH (by exact hI.sub' J J)) J J J J J J (fun v _=>Ao (K:=3) (N:=1) Tryz.func33 hI) ?_
 rintro r _ _ _ ⟨v2,g4,vH1,rfl,rfl⟩
 refine Aw [1,2] hI J J J ?_
 refine Ap<|Aa<|Aj ?_
 refine Y<|O<|Ab 1 [0] [(7,(.q ids 1 g1))] ?_
 refine Dh (e:=rS) (L:=[[61]]) (st:=1) (rows:=[[(.str [61])]]) J D5 Cy J J J J J (.cons (RowSim.refl _) .nil) (fun x=>Hd x) J J<|An [1,2] hI J J (Df [[61]] r.1 r.2 _ (ix ids 1) (ix ids 2) g1 v2 g4 vH1 (by exact hI.sub' J J)) J J J J J J (fun v _=>Ao (K:=3) (N:=1) Tryz.func33 hI) ?_
 rintro r1 _ _ _ ⟨v3,g5,vH2,rfl,rfl⟩
 refine Aw [1,2] hI J J J ?_
 refine Ap<|Aa<|Aj ?_
 refine Y<|O<|Ab 5 [0,3,0] [(14,(.func (.func 30) [(.q ids 1 g1)] [])),(12,(.sl 1 (List.map rS a.Names))),(10,(.q ids 1 g1))] ?_
 refine An [1,2] hI J J (Mx a.Names 64 r1.1 r1.2 _ (ix ids 1) (ix ids 2) g1 v3 g5 vH2 (by exact hI.sub' J J)) J J J J J J (fun v _=>Ao (K:=3) (N:=1) Tryz.func33 hI) ?_
 rintro r2 _ _ _ ⟨v4,g6,vH3,rfl,rfl⟩
 refine Aw [1,2] hI J J J ?_
 refine Ap<|Aa<|Aj ?_
 refine Y<|O<|Ab 1 [0] [(16,(.q ids 1 g1))] ?_
 refine Dh (e:=rS) (L:=[[114,97,100,97,114]]) (st:=1) (rows:=[[(.str [114,97,100,97,114])]]) J D5 Cy J J J J J (.cons (RowSim.refl _) .nil) (fun x=>Hd x) J J<|An [1,2] hI J J (Bv [[114,97,100,97,114]] r2.1 r2.2 _ (ix ids 1) (ix ids 2) g1 v4 g6 vH3 (by exact hI.sub' J J)) J J J J J J (fun v _=>Ao (K:=3) (N:=1) Tryz.func33 hI) ?_
 rintro r3 _ _ _ ⟨v5,g7,vH4,rfl,rfl⟩
 refine Aw [1,2] hI J J J ?_
 refine Ap<|Aa<|Aj ?_
 refine Y<|O<|Ab 3 [0,3] [(21,(.I a.Radar)),(19,(.q ids 1 g1))] ?_
 refine An [1,2] hI J J (Dr a.Radar 0 64 r3.1 r3.2 _ (ix ids 1) (ix ids 2) g1 v5 g7 vH4 (by exact hI.sub' J J)) J J J J J J (fun v _=>Ao (K:=3) (N:=1) Tryz.func33 hI) ?_
 rintro r4 _ _ _ ⟨v6,g8,vH5,rfl,rfl⟩
 refine Aw [1,2] hI J J J ?_
 refine Ap<|Aa<|Aj ?_
 refine Y<|O<|Ab 1 [0] [(23,(.q ids 1 g1))] ?_
 refine Dh (e:=rS) (L:=[[112,114,111,99,101,100,117,114,97,108]]) (st:=1) (rows:=[[(.str [112,114,111,99,101,100,117,114,97,108])]]) J D5 Cy J J J J J (.cons (RowSim.refl _) .nil) (fun x=>Hd x) J J<|An [1,2] hI J J (Bv [[112,114,111,99,101,100,117,114,97,108]] (r3.1||(!((decide (a.Radar≥0))&&(decide (a.Radar≤64))))) r4 _ (ix ids 1) (ix ids 2) g1 v6 g8 vH5 (by exact hI.sub' J J)) J J J J J J (fun v _=>Ao (K:=3) (N:=1) Tryz.func33 hI) ?_
 rintro r5 _ _ _ ⟨v7,g9,vH6,rfl,rfl⟩
 refine Aw [1,2] hI J J J ?_
 refine Ap<|Aa<|Aj ?_
 refine O<|Ab 5 [0,3,3] [(30,(.I a.Radar)),(28,(.I a.Procedural)),(26,(.q ids 1 g1))] ?_
 refine An [1,2] hI J J (Dr a.Procedural 0 a.Radar r5.1 r5.2 _ (ix ids 1) (ix ids 2) g1 v7 g9 vH6 (by exact hI.sub' J J)) J J J J J J (fun v _=>Ao (K:=3) (N:=1) Tryz.func33 hI) ?_
 rintro r6 _ _ _ ⟨v8,g10,vH7,rfl,rfl⟩
 refine Aw [1,2] hI J J J ?_
 refine Ap<|Aa<|Aj ?_
 exact Ce (K:=3) (N:=1) (a:=((r5.1||(!((decide (a.Procedural≥0))&&(decide (a.Procedural≤a.Radar))))),r6)) (vs:=[]) [some (.rows g 1 [[(.q ids 1 g1)]]),some (.rows g1 2 [[v8,(.bool (r5.1||(!((decide (a.Procedural≥0))&&(decide (a.Procedural≤a.Radar))))))]]),Ah v8 g10 4 (List.map Ac r6)] Tryz.func33 hI J J J (.keep (.keep (.keep (.drop .nil)))) (.same _) ⟨v8,g10,vH7,J,J⟩
theorem Vx (text:Ar)(l:List Sector)(most:Int)(s0_bad:Bool)(l1:List Token)(h0:Ae)(o0:Nat)(o1:Nat)(o2:Nat)(g:Nat)(v1:AV)(g1:Nat)(g2:Nat)(vH:Ay v1 o1 g1 l1.length)(hI0:Ids h0 [o0,o1,o2] 3):F3 text l most s0_bad l1≠.bad→Bh Tryz.prog 32 [(.ptr o0 g 0 0),(.str text),(.sl 5 (List.map A3 l)),(.int .i64 most),(.func (.func 33) [] [(.ptr o2 g2 0 0)])] (hp h0 [o0,o1,o2] [some (.rows g 2 [[v1,(.bool s0_bad)]]),Ah v1 g1 4 (List.map Ac l1),some (.rows g2 1 [[(.ptr o0 g 0 0)]])]) (Cs (fun a_ v h' => ∃ (v7:AV),∃ (g9:Nat),Ay v7 o1 g9 a_.2.length∧v=(.tup [])∧h'=hp h0 [o0,o1,o2] [some (.rows g 2 [[v7,(.bool a_.1)]]),Ah v7 g9 4 (List.map Ac a_.2),some (.rows g2 1 [[(.ptr o0 g 0 0)]])]) h0 (F3 text l most s0_bad l1)):=by
 refine Bb (n:=44) 1 Tryz.func32 J (by decide) J J hI0 J fun ids he hI=>?_
 clear hI0
 obtain rfl:ix ids 0=o0:=he 0 rfl
 obtain rfl:ix ids 1=o1:=he 1 rfl
 obtain rfl:ix ids 2=o2:=he 2 rfl
 clear he
 refine Bm (Ak (F3.eq_1 _ _ _ _ _) ?_)
 refine Aj ?_
 refine Y<|O<|Ab 6 [0] [(17,(.bool s0_bad)),(12,(.q ids 0 g))] ?_
 refine B8 5 [(0,(.q ids 0 g)),(1,(.str text)),(2,(.sl 5 (List.map A3 l))),(4,(.func (.func 33) [] [(.q ids 2 g2)])),(12,(.q ids 0 g)),(22,(.bool (s0_bad||(decide ((l.length:Int) > most)))))] ?_ fun hJ=>Bu s0_bad (fun hb1=>?_) (fun hb1=>?_)
 ·refine Ab 2 [] [(24,(.ptr (ix ids 0) g 0 1))] ?_
  refine Aq (Ax (v:=(.bool (s0_bad||(decide ((l.length:Int) > most))))) hI J J J J Qw J J J J J)<|Aa<|Aj ?_
  refine Y<|O<|Z (.sl 5 (List.map A3 l)) J Ad<|Z (.I (l.length:Int)) J (A0 (Bd Ji))<|Z (.I 0) J Ad<|Aa<|A8 ?_
  refine Ee [(0,(.q ids 0 g)),(1,(.str text)),(4,(.func (.func 33) [] [(.q ids 2 g2)])),(25,(.sl 5 (List.map A3 l))),(26,(.I (l.length:Int))),(27,(.I 0))] (FI J)<|G0 (P:=Tryz.prog) l (fun _ a=>C2 fun fBad l2=>Hq text a fBad l2) (((C2 fun fBad l2=>.ok (fBad,l2))):(Bool×(List Token))→R (Bool×(List Token))) (fun j=>C2 fun fBad l2=>fun(fr:Nat→AV) (h:Ae) => ∃ (v2:AV),∃ (g3:Nat),Ay v2 (ix ids 1) g3 l2.length∧fr=A2 [(0,(.q ids 0 g)),(1,(.str text)),(4,(.func (.func 33) [] [(.q ids 2 g2)])),(25,(.sl 5 (List.map A3 l))),(26,(.I (l.length:Int))),(27,(.I (j:Int)))]∧h=hp h0 ids [(some (.rows g 2 [[v2,(.bool fBad)]])),(Ah v2 g3 4 (List.map Ac l2)),(some (.rows g2 1 [[(.q ids 0 g)]])),none]) ((s0_bad||(decide ((l.length:Int) > most))),l1) ?_ ?_ ?_
  ·exact⟨v1,g1,vH,J,J⟩
  ·rintro j a ha W hW ⟨fBad,l2⟩ fr h ⟨v2,g3,vH1,rfl,rfl⟩
   refine Ak (m':=Hq text a fBad l2) J (Ak (Hq.eq_1 _ _ _ _) ?_)
   refine Y<|O<|Z (.bool (decide ((j:Int)<(l.length:Int)))) J (Ba J J J)<|Aa<|Y<|Eb (t:=25) (L:=l) J fun hlim=>C0 J (Int.ofNat_lt.2 (A5 ha)) ?_
   refine Az<|Y<|A8<|Y<|O<|Z (.cp (A3 a) 0) J (Bt (Dm Ji Gp J ha))<|Z (.agg (A3 a)) J (Au (Cp Gp J)) ?_
   refine Bc (j:=3) hI J J J J Gp J fun g4=>Aq (Ax (v:=(.agg (A3 a))) hI J J J J Gp J J J J J)<|Aa<|Aj ?_
   refine Y<|Y<|O<|Ab 2 [] [(32,(.bool (!(text==[]))))] ?_
   refine Aa<|Ed (C2 fun fBad1 l3=>Hp a fBad1 l3) (C2 fun fBad1 l3=>fun(fr:Nat→AV) (h:Ae) => ∃ (v4:AV),∃ (g6:Nat),Ay v4 (ix ids 1) g6 l3.length∧fr=A2 [(0,(.q ids 0 g)),(1,(.str text)),(4,(.func (.func 33) [] [(.q ids 2 g2)])),(11,(.q ids 3 g4)),(25,(.sl 5 (List.map A3 l))),(26,(.I (l.length:Int))),(27,(.I (j:Int)))]∧h=hp h0 ids [(some (.rows g 2 [[v4,(.bool fBad1)]])),(Ah v4 g6 4 (List.map Ac l3)),(some (.rows g2 1 [[(.q ids 0 g)]])),(some (.rows g4 5 [(A3 a)]))]) ?_ fun hJ1=>?_
   ·rintro⟨fBad1,l3⟩ fr h ⟨v4,g6,vH3,rfl,rfl⟩
    refine Ak (Hp.eq_1 _ _ _)<|Y<|O<|Ab 2 [3] [(38,(.agg (A3 a))),(37,(.func (.func 33) [] [(.q ids 2 g2)]))] ?_
    refine An [2,0,1] hI J J (Aav a fBad1 l3 _ (ix ids 2) (ix ids 0) (ix ids 1) g2 g v4 g6 vH3 (by exact hI.sub' J J)) J J J J J J (fun v _=>Ao (K:=3) (N:=1) Tryz.func32 hI) ?_
    rintro r1 _ _ _ ⟨v5,g7,vH4,rfl,rfl⟩
    refine Aw [2,0,1] hI J J J ?_
    refine Ap<|Aa<|Aj ?_
    refine O<|Z (.q ids 0 g) J Ad<|Dh (e:=rS) (L:=[[59]]) (st:=1) (rows:=[[(.str [59])]]) J D5 Cy J J J J J (.cons (RowSim.refl _) .nil) (fun x=>Hd x) J J<|An [0,1] hI J J (Df [[59]] r1.1 r1.2 _ (ix ids 0) (ix ids 1) g v5 g7 vH4 (by exact hI.sub' J J)) J J J J J J (fun v _=>Ao (K:=3) (N:=1) Tryz.func32 hI) ?_
    rintro r2 _ _ _ ⟨v6,g8,vH5,rfl,rfl⟩
    refine Aw [0,1] hI J J J ?_
    refine Ap<|Aa<|Aj ?_
    refine Bn<|O<|Ab 2 [] [(27,(.I (IntKind.wrap .i64 ((j:Int)+1))))] ?_
    refine Aa<|Eh [(some (.rows g 2 [[v6,(.bool r2.1)]])),(Ah v6 g8 4 (List.map Ac r2.2)),(some (.rows g2 1 [[(.q ids 0 g)]])),none] hI J (.keep (.keep (.keep (.drop .nil))))<|Bo (Q2 (hW (r2.1,r2.2) _ _ ⟨v6,g8,vH5,J,J⟩)) (.cons J (.cons J (.cons J (.cons J (.cons J (.cons (D1 (A5 ha) hlim) .nil))))))
   refine Ei J (fun hc=>?_) (fun hc=>?_)
   ·refine Az<|Bo (hJ1 (fBad,l2) _ _ ⟨v2,g3,vH1,J,J⟩)
   refine O<|Ab 2 [] [(34,(.str text)),(33,(.q ids 0 g))] ?_
   refine Dh (e:=rS) (L:=[text]) (st:=1) (rows:=[[(.str text)]]) J D5 Cy J J J J J (.cons (RowSim.refl _) .nil) (fun x=>Hd x) J J<|An [0,1] hI J J (Bv [text] fBad l2 _ (ix ids 0) (ix ids 1) g v2 g3 vH1 (by exact hI.sub' J J)) J J J J J J (fun v _=>Ao (K:=3) (N:=1) Tryz.func32 hI) ?_
   rintro r _ _ _ ⟨v3,g5,vH2,rfl,rfl⟩
   refine Aw [0,1] hI J J J ?_
   refine Ap<|Aa<|Aj ?_
   exact Bo (hJ1 (r.1,r.2) _ _ ⟨v3,g5,vH2,J,J⟩)
  rintro⟨fBad,l2⟩ fr h ⟨v2,g3,vH1,rfl,rfl⟩
  refine Ak (Py _ _ _)<|Y<|O<|Z (.bool (decide ((l.length:Int)<(l.length:Int)))) J (Ba J J J)<|Aa<|Y<|C1 J (Int.lt_irrefl _) ?_
  refine C7 J<|Ce (K:=3) (N:=1) (a:=(fBad,l2)) (vs:=[]) [some (.rows g 2 [[v2,(.bool fBad)]]),Ah v2 g3 4 (List.map Ac l2),some (.rows g2 1 [[(.q ids 0 g)]])] Tryz.func32 hI J J J (.keep (.keep (.keep (.keep .nil)))) (.same _) ⟨v2,g3,vH1,J,J⟩
 ·refine A4 (t:=17) hb1 J<|Ab 5 [] [(22,(.bool true))] ?_
  exact Bk hJ (.cons J (.cons J (.cons J (.cons J (.cons J (.cons (Fu hb1) .nil))))))
 refine A4 (t:=17) hb1 J<|B0 (tj:=17) (.sl 5 (List.map A3 l)) J J J Ad<|B0 (tj:=17) (.I (l.length:Int)) J J J (A0 (Bd Ji))<|Ab 3 [] [(22,(.bool (decide ((l.length:Int) > most))))] ?_
 exact Bk hJ (.cons J (.cons J (.cons J (.cons J (.cons J (.cons (Fw hb1) .nil))))))
theorem Z5 (a:Config)(s1_bad:Bool)(l:List Token)(h0:Ae)(o0:Nat)(o1:Nat)(o2:Nat)(g:Nat)(g1:Nat)(v1:AV)(g2:Nat)(vH:Ay v1 o2 g2 l.length)(hI0:Ids h0 [o0,o1,o2] 3):Nu a s1_bad l≠.bad→Bh Tryz.prog 39 [(.agg (Bf a)),(.ptr o0 g 0 0)] (hp h0 [o0,o1,o2] [some (.rows g 1 [[(.ptr o1 g1 0 0)]]),some (.rows g1 2 [[v1,(.bool s1_bad)]]),Ah v1 g2 4 (List.map Ac l)]) (Cs (fun a_ v h' => ∃ (v5:AV),∃ (g7:Nat),Ay v5 o2 g7 a_.2.length∧v=(.tup [])∧h'=hp h0 [o0,o1,o2] [some (.rows g 1 [[(.ptr o1 g1 0 0)]]),some (.rows g1 2 [[v5,(.bool a_.1)]]),Ah v5 g7 4 (List.map Ac a_.2)]) h0 (Nu a s1_bad l)):=by
 refine Bb (n:=16) 1 Tryz.func39 J (by decide) J J hI0 J fun ids he hI=>?_
 clear hI0
 obtain rfl:ix ids 0=o0:=he 0 rfl
 obtain rfl:ix ids 1=o1:=he 1 rfl
 obtain rfl:ix ids 2=o2:=he 2 rfl
 clear he
 refine Bm (Ak (Nu.eq_1 _ _ _) ?_)
 refine Aj ?_
 refine Y<|O<|Cv (v:=(.agg (Bf a))) (j:=3) hI J J J J J J J fun g3=>Aa<|Aj ?_
 refine Y<|O<|Ab 3 [0,3] [(5,(.str a.Name)),(3,(.q ids 1 g1))] ?_
 refine An [1,2] hI J J (C6 a.Name s1_bad l _ (ix ids 1) (ix ids 2) g1 v1 g2 vH (by exact hI.sub' J J)) J J J J J J (fun v _=>Ao (K:=3) (N:=1) Tryz.func39 hI) ?_
 rintro r _ _ _ ⟨v2,g4,vH1,rfl,rfl⟩
 refine Aw [1,2] hI J J J ?_
 refine Ap<|Aa<|Aj ?_
 refine Y<|O<|Ab 1 [0] [(7,(.q ids 1 g1))] ?_
 refine Dh (e:=rS) (L:=[[61]]) (st:=1) (rows:=[[(.str [61])]]) J D5 Cy J J J J J (.cons (RowSim.refl _) .nil) (fun x=>Hd x) J J<|An [1,2] hI J J (Df [[61]] r.1 r.2 _ (ix ids 1) (ix ids 2) g1 v2 g4 vH1 (by exact hI.sub' J J)) J J J J J J (fun v _=>Ao (K:=3) (N:=1) Tryz.func39 hI) ?_
 rintro r1 _ _ _ ⟨v3,g5,vH2,rfl,rfl⟩
 refine Aw [1,2] hI J J J ?_
 refine Ap<|Aa<|Aj ?_
 refine O<|Ab 5 [0,3,0] [(14,(.func (.func 30) [(.q ids 1 g1)] [])),(12,(.sl 1 (List.map rS a.Names))),(10,(.q ids 1 g1))] ?_
 refine An [1,2] hI J J (Mx a.Names 64 r1.1 r1.2 _ (ix ids 1) (ix ids 2) g1 v3 g5 vH2 (by exact hI.sub' J J)) J J J J J J (fun v _=>Ao (K:=3) (N:=1) Tryz.func39 hI) ?_
 rintro r2 _ _ _ ⟨v4,g6,vH3,rfl,rfl⟩
 refine Aw [1,2] hI J J J ?_
 refine Ap<|Aa<|Aj ?_
 exact Ce (K:=3) (N:=1) (a:=(r2.1,r2.2)) (vs:=[]) [some (.rows g 1 [[(.q ids 1 g1)]]),some (.rows g1 2 [[v4,(.bool r2.1)]]),Ah v4 g6 4 (List.map Ac r2.2)] Tryz.func39 hI J J J (.keep (.keep (.keep (.drop .nil)))) (.same _) ⟨v4,g6,vH3,J,J⟩
end Go.Am
